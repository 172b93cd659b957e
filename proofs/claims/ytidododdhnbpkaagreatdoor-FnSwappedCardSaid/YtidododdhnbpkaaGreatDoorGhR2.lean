import Derived.Test.YtidododdhnbpkaaGreatDoorGhR
set_option linter.unusedVariables false
set_option linter.unusedSimpArgs false
set_option linter.unnecessarySimpa false
namespace Go.Gh
open Go.RowKit
section
variable {r : R}
/-! ### Values told apart -/
theorem asInt_some {d : D} {K : IntKind → Int → Option R} (e : asInt d K = some r) : ∃ k n, d = .int k n ∧ K k n = some r := by
  cases d <;> first | exact ⟨_, _, rfl, e⟩ | (change none = some r at e; cases e)
theorem asBool_some {d : D} {K : Bool → Option R} (e : asBool d K = some r) : ∃ b, d = .bool b ∧ K b = some r := by
  cases d <;> first | exact ⟨_, rfl, e⟩ | (change none = some r at e; cases e)
theorem asStr_some {d : D} {K : List Nat → Option R} (e : asStr d K = some r) : ∃ s, d = .str s ∧ K s = some r := by
  cases d <;> first | exact ⟨_, rfl, e⟩ | (change none = some r at e; cases e)
theorem asPtr_some {d : D} {K : Nat → Nat → Option R} (e : asPtr d K = some r) : ∃ o off, d = .ptr o off ∧ K o off = some r := by
  cases d <;> first | exact ⟨_, _, rfl, e⟩ | (change none = some r at e; cases e)
theorem asMap_some {d : D} {K : Nat → Option R} (e : asMap d K = some r) : ∃ o, d = .map o ∧ K o = some r := by
  cases d <;> first | exact ⟨_, rfl, e⟩ | (change none = some r at e; cases e)
theorem asIter_some {d : D} {K : Nat → Option R} (e : asIter d K = some r) : ∃ o, d = .iter o ∧ K o = some r := by
  cases d <;> first | exact ⟨_, rfl, e⟩ | (change none = some r at e; cases e)
theorem asClo_some {d : D} {K : Nat → List D → Option R} (e : asClo d K = some r) : ∃ f cap, d = .clo f cap ∧ K f cap = some r := by
  cases d <;> first | exact ⟨_, _, rfl, e⟩ | (change none = some r at e; cases e)
theorem asTup_some {d : D} {K : List D → Option R} (e : asTup d K = some r) : ∃ l, d = .tup l ∧ K l = some r := by
  cases d <;> first | exact ⟨_, rfl, e⟩ | (change none = some r at e; cases e)
theorem asAgg_some {d : D} {K : List D → Option R} (e : asAgg d K = some r) : ∃ l, d = .agg l ∧ K l = some r := by
  cases d <;> first | exact ⟨_, rfl, e⟩ | (change none = some r at e; cases e)
theorem asCells_some {c : Obj} {K : List D → Option R} (e : asCells c K = some r) : ∃ l, c = .cells l ∧ K l = some r := by
  cases c <;> first | exact ⟨_, rfl, e⟩ | (change none = some r at e; cases e)
theorem asEntries_some {c : Obj} {K : List (D × D) → Option R} (e : asEntries c K = some r) : ∃ l, c = .map l ∧ K l = some r := by
  cases c <;> first | exact ⟨_, rfl, e⟩ | (change none = some r at e; cases e)
theorem asState_some {c : Obj} {K : List Nat → Nat → Option R} (e : asState c K = some r) : ∃ s p, c = .iter s p ∧ K s p = some r := by
  cases c <;> first | exact ⟨_, _, rfl, e⟩ | (change none = some r at e; cases e)
theorem one_some {l : List D} {K : D → Option R} (e : one l K = some r) : ∃ d, l = [d] ∧ K d = some r := by
  cases l with
  | nil => cases e
  | cons d l => cases l with
    | nil => exact ⟨d, rfl, e⟩
    | cons _ _ => cases e
theorem two_some {l : List D} {K : D → D → Option R} (e : two l K = some r) : ∃ x y, l = [x, y] ∧ K x y = some r := by
  cases l with
  | nil => cases e
  | cons d l =>
    obtain ⟨y, rfl, e⟩ := one_some (l := l) e
    exact ⟨d, y, rfl, e⟩
theorem ifBool_some {T : T} {k : Option R} (e : ifBool T k = some r) : T.kind = .bool ∧ k = some r := by
  unfold ifBool at e; cases h : T.kind <;> rw [h] at e <;> first | exact ⟨rfl, e⟩ | (change none = some r at e; cases e)
theorem ifStr_some {T : T} {k : Option R} (e : ifStr T k = some r) : T.kind = .str ∧ k = some r := by
  unfold ifStr at e; cases h : T.kind <;> rw [h] at e <;> first | exact ⟨rfl, e⟩ | (change none = some r at e; cases e)
theorem ifPtr_some {T : T} {k : Option R} (e : ifPtr T k = some r) : T.kind = .ptr ∧ k = some r := by
  unfold ifPtr at e; cases h : T.kind <;> rw [h] at e <;> first | exact ⟨rfl, e⟩ | (change none = some r at e; cases e)
theorem ifSlice_some {T : T} {k : Option R} (e : ifSlice T k = some r) : T.kind = .slice ∧ k = some r := by
  unfold ifSlice at e; cases h : T.kind <;> rw [h] at e <;> first | exact ⟨rfl, e⟩ | (change none = some r at e; cases e)
theorem ifStruct_some {T : T} {k : Option R} (e : ifStruct T k = some r) : T.kind = .struct ∧ k = some r := by
  unfold ifStruct at e; cases h : T.kind <;> rw [h] at e <;> first | exact ⟨rfl, e⟩ | (change none = some r at e; cases e)
theorem ifIface_some {T : T} {k : Option R} (e : ifIface T k = some r) : T.kind = .iface ∧ k = some r := by
  unfold ifIface at e; cases h : T.kind <;> rw [h] at e <;> first | exact ⟨rfl, e⟩ | (change none = some r at e; cases e)
theorem ifMap_some {T : T} {k : Option R} (e : ifMap T k = some r) : T.kind = .map ∧ k = some r := by
  unfold ifMap at e; cases h : T.kind <;> rw [h] at e <;> first | exact ⟨rfl, e⟩ | (change none = some r at e; cases e)
theorem ifArr_some {T : T} {K : Nat → Option R} (e : ifArr T K = some r) : ∃ n, T.kind = .arr n ∧ K n = some r := by
  unfold ifArr at e; cases h : T.kind <;> rw [h] at e <;> first | exact ⟨_, rfl, e⟩ | (change none = some r at e; cases e)
theorem cellsOk_some {k : Option R} : ∀ {l : List D}, cellsOk l k = some r → (∀ d ∈ l, cellOk d = true) ∧ k = some r
  | [], e => ⟨by simp, e⟩
  | d :: l, e => by
    have e' : Bool.rec (motive := fun _ => Option R) none (cellsOk l k) (cellOk d) = some r := e
    cases hd : cellOk d with
    | false => rw [hd] at e'; cases e'
    | true =>
      rw [hd] at e'
      obtain ⟨h1, h2⟩ := cellsOk_some (l := l) e'
      exact ⟨by simp only [List.mem_cons]; rintro x (rfl | hx); exact hd; exact h1 x hx, h2⟩

/-! ### What stands for what -/
variable {val : Nat → UInt8} {M M' : Mp}
mutual
theorem VRel_ext (hM : ∀ o l, M o = some l → M' o = some l) : ∀ (d : D) (v : Value), VRel val M d v → VRel val M' d v
  | .int .., _, h | .sym .., _, h | .bool _, _, h | .str _, _, h | .undef, _, h | .nilp, _, h | .nilf, _, h | .nili, _, h | .nils, _, h => by simpa only [VRel] using h
  | .ptr o off, v, h => by simp only [VRel] at h ⊢; obtain ⟨l, h1, h2⟩ := h; exact ⟨l, hM _ _ h1, h2⟩
  | .sl st o off len, v, h => by simp only [VRel] at h ⊢; obtain ⟨l, a, c, h1, h2⟩ := h; exact ⟨l, a, c, hM _ _ h1, h2⟩
  | .map o, v, h => by simp only [VRel] at h ⊢; obtain ⟨l, h1, h2⟩ := h; exact ⟨l, hM _ _ h1, h2⟩
  | .iter o, v, h => by simp only [VRel] at h ⊢; obtain ⟨l, h1, h2⟩ := h; exact ⟨l, hM _ _ h1, h2⟩
  | .clo f cap, v, h => by simp only [VRel] at h ⊢; obtain ⟨vs, h1, h2⟩ := h; exact ⟨vs, h1, VRelL_ext hM _ _ h2⟩
  | .ifc t d, v, h => by simp only [VRel] at h ⊢; obtain ⟨x, h1, h2⟩ := h; exact ⟨x, h1, VRel_ext hM _ _ h2⟩
  | .agg l, v, h => by simp only [VRel] at h ⊢; obtain ⟨vs, h1, h2⟩ := h; exact ⟨vs, h1, VRelL_ext hM _ _ h2⟩
  | .tup l, v, h => by simp only [VRel] at h ⊢; obtain ⟨vs, h1, h2⟩ := h; exact ⟨vs, h1, VRelL_ext hM _ _ h2⟩
theorem VRelL_ext (hM : ∀ o l, M o = some l → M' o = some l) : ∀ (l : List D) (vs : List Value), VRelL val M l vs → VRelL val M' l vs
  | [], _, h => by simpa only [VRelL] using h
  | d :: ds, vs, h => by
    simp only [VRelL] at h ⊢
    obtain ⟨v, vs', e, h1, h2⟩ := h
    exact ⟨v, vs', e, VRel_ext hM d v h1, VRelL_ext hM ds vs' h2⟩
end
theorem VRelL_length : ∀ {l : List D} {vs : List Value}, VRelL val M l vs → vs.length = l.length
  | [], vs, h => by simp only [VRelL] at h; simp [h]
  | d :: l, vs, h => by
    simp only [VRelL] at h
    obtain ⟨v, vs', rfl, h1, h2⟩ := h
    simp [VRelL_length h2]
theorem VRelL_get : ∀ {l : List D} {vs : List Value} {i : Nat} {d : D}, VRelL val M l vs → l[i]? = some d → ∃ v, vs[i]? = some v ∧ VRel val M d v
  | [], vs, i, d, h, e => by simp at e
  | d0 :: l, vs, i, d, h, e => by
    simp only [VRelL] at h
    obtain ⟨v, vs', rfl, h1, h2⟩ := h
    cases i with
    | zero => simp at e; subst e; exact ⟨v, rfl, h1⟩
    | succ i => simpa using VRelL_get h2 (by simpa using e)
theorem VRelL_of : ∀ {l : List D} {vs : List Value}, vs.length = l.length → (∀ (i : Nat) (d : D) (v : Value), l[i]? = some d → vs[i]? = some v → VRel val M d v) → VRelL val M l vs
  | [], vs, h, _ => by simp only [VRelL]; exact List.eq_nil_of_length_eq_zero h
  | d :: l, [], h, _ => by simp at h
  | d :: l, v :: vs, h, k => by
    simp only [VRelL]
    exact ⟨v, vs, rfl, k 0 d v rfl rfl, VRelL_of (by simpa using h) fun i d' v' h1 h2 => k (i + 1) d' v' (by simpa using h1) (by simpa using h2)⟩
theorem VRelL_append : ∀ {l1 l2 : List D} {vs : List Value}, VRelL val M (l1 ++ l2) vs ↔ ∃ v1 v2, vs = v1 ++ v2 ∧ VRelL val M l1 v1 ∧ VRelL val M l2 v2
  | [], l2, vs => ⟨fun h => ⟨[], vs, rfl, by simp [VRelL], h⟩, fun ⟨v1, v2, e, h1, h2⟩ => by simp only [VRelL] at h1; subst h1; subst e; exact h2⟩
  | d :: l1, l2, vs => by
    simp only [List.cons_append, VRelL, VRelL_append (l1 := l1)]
    constructor
    · rintro ⟨v, _, rfl, h1, v1, v2, rfl, h2, h3⟩
      exact ⟨v :: v1, v2, rfl, ⟨v, v1, rfl, h1, h2⟩, h3⟩
    · rintro ⟨_, v2, rfl, ⟨v, v1, rfl, h1, h2⟩, h3⟩
      exact ⟨v, v1 ++ v2, rfl, h1, v1, v2, rfl, h2, h3⟩
theorem VRelL_mem {l : List D} {vs : List Value} (h : VRelL val M l vs) {v : Value} (hv : v ∈ vs) : ∃ d ∈ l, VRel val M d v := by
  obtain ⟨i, hi⟩ := List.getElem?_of_mem hv
  have hl := VRelL_length h
  have hlt : i < l.length := by have := (List.getElem?_eq_some_iff.1 hi).1; omega
  obtain ⟨v', h1, h2⟩ := VRelL_get h (List.getElem?_eq_getElem hlt)
  rw [hi] at h1
  cases h1
  exact ⟨_, List.getElem_mem hlt, h2⟩
theorem VRelL_rep {l : List D} {vs : List Value} (h : VRelL val M l vs) : ∀ n, VRelL val M (List.replicate n l).flatten (List.replicate n vs).flatten
  | 0 => by simp [VRelL]
  | n + 1 => by
    simp only [List.replicate_succ, List.flatten_cons]
    exact VRelL_append.2 ⟨_, _, rfl, h, VRelL_rep h n⟩

/-! ### The heap and the world -/
variable {w w' : World} {h h' : Heap} {n n' : Nat}
theorem cell_eq {b : Nat} (hb : w'.heap[b]? = w.heap[b]?) (off : Nat) : w'.cell? (ad b off) = w.cell? (ad b off) := by
  unfold World.cell? ad; simp only [hb]
theorem frozen_eq {b : Nat} (hb : w'.heap[b]? = w.heap[b]?) (off : Nat) : w'.frozen? (ad b off) = w.frozen? (ad b off) := by
  unfold World.frozen? ad; simp only [hb]
theorem Mine_eq {b off : Nat} {v : Value} (hb : w'.heap[b]? = w.heap[b]?) (h : Mine w b off v) : Mine w' b off v :=
  ⟨(cell_eq hb off).trans h.1, (frozen_eq hb off).trans h.2⟩
theorem OR_keep {c : Obj} {l : Loc} (hM : ∀ o l, M o = some l → M' o = some l) (hb : w'.heap[l.b]? = w.heap[l.b]?) (h : OR val w M c l) : OR val w' M' c l := by
  cases c with
  | cells ds =>
    obtain ⟨h1, h2, h3⟩ := h
    refine ⟨h1, fun i hi => ?_, fun i d hd => ?_⟩
    · obtain ⟨v, hv⟩ := h2 i hi; exact ⟨v, Mine_eq hb hv⟩
    · obtain ⟨v, hv, hr⟩ := h3 i d hd; exact ⟨v, (cell_eq hb _).trans hv, VRel_ext hM _ _ hr⟩
  | map es =>
    obtain ⟨es', clock, h1, h2, h3⟩ := h
    exact ⟨es', clock, hb.trans h1, VRelL_ext hM _ _ h2, VRelL_ext hM _ _ h3⟩
  | iter s pos =>
    obtain ⟨bs, h1, h2⟩ := h
    exact ⟨bs, hb.trans h1, h2⟩
theorem HR.mono (H : HR val w M h n) (hn : n ≤ n') : HR val w M h n' := ⟨H.obj, H.inj, fun o l q => Nat.lt_of_lt_of_le (H.new o l q) hn, H.bound, fun o c q => Nat.lt_of_lt_of_le (H.top o c q) hn⟩
theorem HR.none (H : HR val w M h n) {o : Nat} (ho : n ≤ o) : M o = none := by
  cases hM : M o with
  | none => rfl
  | some l => have := H.new o l hM; omega
theorem Step.refl (M : Mp) (w : World) (h : Heap) (new : Nat → Prop) : Step M w h M w h new :=
  ⟨fun _ _ q => q, fun _ _ q1 q2 => (by rw [q1] at q2; cases q2), ⟨rfl, rfl, rfl⟩, Nat.le_refl _, fun b _ q => ⟨rfl, q⟩⟩
theorem Step.trans {M1 M2 : Mp} {w1 w2 : World} {h1 h2 : Heap} {new1 new2 new : Nat → Prop} (s : Step M w h M1 w1 h1 new1) (t : Step M1 w1 h1 M2 w2 h2 new2) (k1 : ∀ o, new1 o → new o) (k2 : ∀ o, new2 o → new o) : Step M w h M2 w2 h2 new := by
  refine ⟨fun o l q => t.ext o l (s.ext o l q), fun o l q1 q2 => ?_, ⟨t.os.1.trans s.os.1, t.os.2.1.trans s.os.2.1, t.os.2.2.trans s.os.2.2⟩, Nat.le_trans s.size t.size, fun b hb q => ?_⟩
  · cases hM : M1 o with
    | none => exact k2 o (t.fresh o l hM q2)
    | some l' => exact k1 o (s.fresh o l' q1 hM)
  · obtain ⟨e1, q1⟩ := s.frame b hb q
    obtain ⟨e2, q2⟩ := t.frame b (Nat.lt_of_lt_of_le hb s.size) q1
    exact ⟨e2.trans e1, q2⟩
theorem Step.weaken {new new' : Nat → Prop} (s : Step M w h M' w' h' new) (k : ∀ o, new o → new' o) : Step M w h M' w' h' new' :=
  ⟨s.ext, fun o l q1 q2 => k o (s.fresh o l q1 q2), s.os, s.size, s.frame⟩

/-- Something new. -/
theorem HR_new (H : HR val w M h n) {nm : Nat} (hnm : nm < n) (hM : M nm = none) {c : Obj} {l : Loc} (hl : w.heap.size ≤ l.b ∧ l.b < w'.heap.size) (hs : w'.os = w.os ∧ w'.tape = w.tape ∧ w'.output = w.output) (hz : w.heap.size ≤ w'.heap.size)
    (hb : ∀ b, b < w.heap.size → w'.heap[b]? = w.heap[b]?) (hc : ∀ M' : Mp, (∀ o l, M o = some l → M' o = some l) → M' nm = some l → OR val w' M' c l) :
    ∃ M', M' nm = some l ∧ HR val w' M' (h.put nm (some c)) n ∧ Step M w h M' w' (h.put nm (some c)) (· = nm) := by
  have ext : ∀ o l', M o = some l' → (fun x => if x = nm then some l else M x) o = some l' := fun o l' q => by
    show (if o = nm then some l else M o) = some l'
    rw [if_neg]; exact q
    rintro rfl; rw [hM] at q; cases q
  have hnm' : (fun x => if x = nm then some l else M x) nm = some l := by simp
  have old : ∀ o l', o ≠ nm → (fun x => if x = nm then some l else M x) o = some l' → M o = some l' := fun o l' q1 q2 => by simpa [q1] using q2
  generalize (fun x => if x = nm then some l else M x) = M' at ext hnm' old
  refine ⟨M', hnm', ⟨fun o c' l' h1 h2 => ?_, fun o o' c1 c2 l1 l2 h1 h2 h3 h4 h5 => ?_, fun o l' q => ?_, fun o l' q => ?_, fun o c' q => by rw [get_put] at q; by_cases q' : o = nm; exact q' ▸ hnm; rw [if_neg q'] at q; exact H.top o c' q⟩, ⟨ext, fun o l' q1 q2 => ?_, hs, hz, fun b hbl q => ⟨hb b hbl, fun o c' l' h1 h2 => ?_⟩⟩⟩
  · rw [get_put] at h1
    by_cases q : o = nm
    · subst q; simp at h1; subst h1; rw [hnm'] at h2; cases h2; exact hc M' ext hnm'
    · rw [if_neg q] at h1
      have := old o l' q h2
      exact OR_keep ext (hb _ (H.bound _ _ this)) (H.obj o c' l' h1 this)
  · rw [get_put] at h1 h2
    by_cases q : o = nm <;> by_cases q' : o' = nm
    · rw [q, q']
    · subst q; rw [hnm'] at h3; cases h3
      have := H.bound _ _ (old o' l2 q' h4); omega
    · subst q'; rw [hnm'] at h4; cases h4
      have := H.bound _ _ (old o l1 q h3); omega
    · rw [if_neg q] at h1; rw [if_neg q'] at h2
      exact H.inj o o' c1 c2 l1 l2 h1 h2 (old o l1 q h3) (old o' l2 q' h4) h5
  · by_cases q' : o = nm
    · rw [q']; exact hnm
    · exact H.new o l' (old o l' q' q)
  · by_cases q' : o = nm
    · subst q'; rw [hnm'] at q; cases q; exact hl.2
    · exact Nat.lt_of_lt_of_le (H.bound o l' (old o l' q' q)) hz
  · exact Decidable.byContradiction fun q3 => by have := old o l' q3 q2; rw [q1] at this; cases this
  · rw [get_put] at h1
    by_cases q' : o = nm
    · subst q'; rw [hnm'] at h2; cases h2; omega
    · rw [if_neg q'] at h1; exact q o c' l' h1 (old o l' q' h2)
/-- An object turns where it is. -/
theorem HR_upd (H : HR val w M h n) {o : Nat} {c c' : Obj} {l : Loc} (ho : h.get o = some c) (hM : M o = some l) (hs : w'.os = w.os ∧ w'.tape = w.tape ∧ w'.output = w.output) (hz : w'.heap.size = w.heap.size)
    (hb : ∀ b, b ≠ l.b → w'.heap[b]? = w.heap[b]?) (hc : OR val w' M c' l) : HR val w' M (h.put o (some c')) n ∧ Step M w h M w' (h.put o (some c')) (fun _ => False) := by
  refine ⟨⟨fun x c1 l1 h1 h2 => ?_, fun x y c1 c2 l1 l2 h1 h2 h3 h4 h5 => ?_, H.new, fun x l1 q => by rw [hz]; exact H.bound x l1 q, fun x c1 q => by rw [get_put] at q; by_cases q' : x = o; exact q' ▸ H.top o c ho; rw [if_neg q'] at q; exact H.top x c1 q⟩, ⟨fun _ _ q => q, fun _ _ q1 q2 => (by rw [q1] at q2; cases q2), hs, by omega, fun b hbl q => ⟨hb b ?_, fun x c1 l1 h1 h2 => ?_⟩⟩⟩
  · rw [get_put] at h1
    by_cases q : x = o
    · subst q; simp at h1; subst h1; rw [hM] at h2; cases h2; exact hc
    · rw [if_neg q] at h1
      exact OR_keep (fun _ _ q => q) (hb _ fun q2 => q (H.inj x o c1 c l1 l h1 ho h2 hM q2)) (H.obj x c1 l1 h1 h2)
  · rw [get_put] at h1 h2
    have g : ∀ z cz, (if z = o then some c' else h.get z) = some cz → ∃ cz', h.get z = some cz' := fun z cz q => by
      by_cases q2 : z = o
      · subst q2; exact ⟨c, ho⟩
      · rw [if_neg q2] at q; exact ⟨cz, q⟩
    obtain ⟨d1, g1⟩ := g x c1 h1
    obtain ⟨d2, g2⟩ := g y c2 h2
    exact H.inj x y d1 d2 l1 l2 g1 g2 h3 h4 h5
  · exact fun q2 => q o c l ho hM q2.symm
  · rw [get_put] at h1
    by_cases q' : x = o
    · subst q'; exact q x c l1 ho h2
    · rw [if_neg q'] at h1; exact q x c1 l1 h1 h2
/-- An object gives way to another one, at its place or at a new one. -/
theorem HR_move (H : HR val w M h n) {o nm : Nat} {c c' : Obj} {l l' : Loc} (ho : h.get o = some c) (hMo : M o = some l) (hnm : nm < n) (hM : M nm = none) (hl : l'.b = l.b ∨ w.heap.size ≤ l'.b) (hl' : l'.b < w'.heap.size)
    (hs : w'.os = w.os ∧ w'.tape = w.tape ∧ w'.output = w.output) (hz : w.heap.size ≤ w'.heap.size) (hb : ∀ b, b < w.heap.size → b ≠ l.b → w'.heap[b]? = w.heap[b]?)
    (hc : ∀ M' : Mp, (∀ o l, M o = some l → M' o = some l) → M' nm = some l' → OR val w' M' c' l') :
    ∃ M', M' nm = some l' ∧ HR val w' M' ((h.put o none).put nm (some c')) n ∧ Step M w h M' w' ((h.put o none).put nm (some c')) (· = nm) := by
  have ext : ∀ x l1, M x = some l1 → (fun x => if x = nm then some l' else M x) x = some l1 := fun x l1 q => by
    show (if x = nm then some l' else M x) = some l1
    rw [if_neg]; exact q
    rintro rfl; rw [hM] at q; cases q
  have hnm' : (fun x => if x = nm then some l' else M x) nm = some l' := by simp
  have old : ∀ x l1, x ≠ nm → (fun x => if x = nm then some l' else M x) x = some l1 → M x = some l1 := fun x l1 q1 q2 => by simpa [q1] using q2
  generalize (fun x => if x = nm then some l' else M x) = M' at ext hnm' old
  have far : ∀ x cx lx, x ≠ nm → ((h.put o none).put nm (some c')).get x = some cx → M' x = some lx → h.get x = some cx ∧ M x = some lx ∧ x ≠ o ∧ lx.b ≠ l.b ∧ lx.b < w.heap.size := fun x cx lx q h1 h2 => by
    rw [get_put, if_neg q, get_put] at h1
    by_cases q2 : x = o
    · rw [if_pos q2] at h1; cases h1
    · rw [if_neg q2] at h1
      have h3 := old x lx q h2
      exact ⟨h1, h3, q2, fun q3 => q2 (H.inj x o cx c lx l h1 ho h3 hMo q3), H.bound x lx h3⟩
  have hlb := H.bound o l hMo
  refine ⟨M', hnm', ⟨fun x cx lx h1 h2 => ?_, fun x y cx cy lx ly h1 h2 h3 h4 h5 => ?_, fun x lx q => ?_, fun x lx q => ?_, fun x cx q => by rw [get_put] at q; by_cases q' : x = nm; exact q' ▸ hnm; rw [if_neg q', get_put] at q; by_cases q2 : x = o; rw [if_pos q2] at q; cases q; rw [if_neg q2] at q; exact H.top x cx q⟩, ⟨ext, fun x lx q1 q2 => ?_, hs, hz, fun b hbl q => ⟨hb b hbl ?_, fun x cx lx h1 h2 => ?_⟩⟩⟩
  · by_cases q : x = nm
    · subst q; rw [get_put, if_pos rfl] at h1; cases h1; rw [hnm'] at h2; cases h2; exact hc M' ext hnm'
    · obtain ⟨g1, g2, g3, g4, g5⟩ := far x cx lx q h1 h2
      exact OR_keep ext (hb _ g5 g4) (H.obj x cx lx g1 g2)
  · by_cases q : x = nm <;> by_cases q' : y = nm
    · rw [q, q']
    · obtain ⟨g1, g2, g3, g4, g5⟩ := far y cy ly q' h2 h4
      subst q; rw [hnm'] at h3; cases h3
      rcases hl with hl | hl
      · exact absurd (h5.symm.trans hl) g4
      · omega
    · obtain ⟨g1, g2, g3, g4, g5⟩ := far x cx lx q h1 h3
      subst q'; rw [hnm'] at h4; cases h4
      rcases hl with hl | hl
      · exact absurd (h5.trans hl) g4
      · omega
    · obtain ⟨g1, g2, _⟩ := far x cx lx q h1 h3
      obtain ⟨k1, k2, _⟩ := far y cy ly q' h2 h4
      exact H.inj x y cx cy lx ly g1 k1 g2 k2 h5
  · by_cases q' : x = nm
    · rw [q']; exact hnm
    · exact H.new x lx (old x lx q' q)
  · by_cases q' : x = nm
    · subst q'; rw [hnm'] at q; cases q; exact hl'
    · exact Nat.lt_of_lt_of_le (H.bound x lx (old x lx q' q)) hz
  · exact Decidable.byContradiction fun q3 => by have := old x lx q3 q2; rw [q1] at this; cases this
  · exact fun q2 => q o c l ho hMo q2.symm
  · by_cases q' : x = nm
    · subst q'; rw [hnm'] at h2; cases h2
      rcases hl with hl | hl
      · rw [hl]; exact q o c l ho hMo
      · omega
    · obtain ⟨g1, g2, _⟩ := far x cx lx q' h1 h2
      exact q x cx lx g1 g2
end
end Go.Gh
