import Derived.Test.YtidododdhnbpkaaGreatDoorGhD2
import Derived.Test.YtidododdhnbpkaaGreatDoorGhC2
import Derived.Orders
/- The plan of a region whose order is left open. -/
set_option linter.unusedVariables false
set_option linter.unusedSimpArgs false
namespace Go.Gh
open Go.RowKit
section
/-! ### The same -/
theorem eqL_eq : ∀ {a b : List Nat}, eqL a b = true → a = b
  | [], [], _ => rfl
  | [], _ :: _, h => by simp [eqL] at h
  | _ :: _, [], h => by simp [eqL] at h
  | a :: x, b :: y, h => by
    simp only [eqL] at h
    split at h
    · rename_i hb; rw [beq_true hb, eqL_eq h]
    · cases h
theorem eqI_of {a b : Int} (h : eqI a b = true) : a = b := by rw [eqI_eq] at h; simpa using h
theorem eqB_of {a b : Bool} (h : eqB a b = true) : a = b := by rw [eqB_eq] at h; simpa using h
theorem eqD_eq {a b : D} (h : eqD a b = true) : a = b := by
  cases a with
  | clo f cap =>
    cases cap with
    | nil =>
      cases b with
      | clo f' cap' =>
        cases cap' with
        | nil => simp only [eqD] at h; rw [beq_true h]
        | cons _ _ => simp only [eqD] at h; cases h
      | _ => simp only [eqD] at h; cases h
    | cons _ _ => simp only [eqD] at h; cases h
  | _ =>
    cases b <;> simp only [eqD, Bool.and_eq_true] at h <;> first
      | rfl
      | (cases h; done)
      | (rw [ikEq_true h.1, eqI_of h.2]; done)
      | (rw [ikEq_true h.1, beq_true h.2]; done)
      | (rw [eqB_of h]; done)
      | (rw [eqL_eq h]; done)
      | (rw [beq_true h.1, beq_true h.2]; done)
      | (rw [beq_true h.1.1, beq_true h.1.2, beq_true h.2.1, beq_true h.2.2]; done)
      | (rw [beq_true h]; done)
theorem eqDs_eq : ∀ {a b : List D}, eqDs a b = true → a = b
  | [], [], _ => rfl
  | [], _ :: _, h => by simp [eqDs] at h
  | _ :: _, [], h => by simp [eqDs] at h
  | a :: x, b :: y, h => by
    simp only [eqDs] at h
    split at h
    · rename_i hb; rw [eqD_eq hb, eqDs_eq h]
    · cases h
theorem eqV_eq {a b : D} (h : eqV a b = true) : a = b := by
  cases a with
  | agg x => cases b <;> simp only [eqV] at h <;> first | (rw [eqDs_eq h]; done) | cases h
  | tup x => cases b <;> simp only [eqV] at h <;> first | (rw [eqDs_eq h]; done) | cases h
  | _ => exact eqD_eq h
theorem eqEs_eq : ∀ {a b : List (D × D)}, eqEs a b = true → a = b
  | [], [], _ => rfl
  | [], _ :: _, h => by simp [eqEs] at h
  | _ :: _, [], h => by simp [eqEs] at h
  | a :: x, b :: y, h => by
    simp only [eqEs] at h
    split at h
    · rename_i hb; simp only [Bool.and_eq_true] at hb; rw [Prod.ext (eqD_eq hb.1) (eqD_eq hb.2), eqEs_eq h]
    · cases h
theorem eqO_eq {a b : Obj} (h : eqO a b = true) : a = b := by
  cases a with
  | cells x => cases b <;> simp only [eqO] at h <;> first | (rw [eqDs_eq h]; done) | cases h
  | map x => cases b <;> simp only [eqO] at h <;> first | (rw [eqEs_eq h]; done) | cases h
  | iter s p => simp only [eqO] at h; cases h

/-! ### What comes ahead -/
theorem bitAt_iff (m i : Nat) : bitAt m i = true ↔ m.testBit i = true := by
  unfold bitAt
  show Nat.beq ((m >>> i) &&& 1) 1 = true ↔ _
  rw [Nat.testBit, Nat.beq_eq, Nat.and_comm (m >>> i) 1]
  have : 1 &&& (m >>> i) < 2 := Nat.lt_of_le_of_lt Nat.and_le_left (by omega)
  generalize 1 &&& (m >>> i) = v at this
  match v, this with
  | 0, _ => simp
  | 1, _ => simp
theorem maskOf_bit (acc : List Nat) (j : Nat) : ∀ (es : List Edge) (m : Nat), bitAt (maskOf acc es m) j = true → bitAt m j = true ∨ ∃ e ∈ es, Region.binds .any e = true ∧ (j = e.on ∨ bitAt (nthL 0 acc e.on) j = true)
  | [], m, h => .inl h
  | e :: es, m, h => by
    simp only [maskOf] at h
    split at h
    · rename_i hb
      rcases maskOf_bit acc j es _ h with h | ⟨e', he', hb', q⟩
      · rw [bitAt_iff] at h
        replace h : ((m ||| (1 <<< e.on)) ||| nthL 0 acc e.on).testBit j = true := h
        rw [Nat.testBit_or, Nat.testBit_or, Nat.testBit_shiftLeft] at h
        simp only [Bool.or_eq_true, Bool.and_eq_true, decide_eq_true_eq] at h
        rcases h with (h | h) | h
        · exact .inl ((bitAt_iff _ _).2 h)
        · refine .inr ⟨e, by simp, hb, .inl ?_⟩
          have h2 := h.2
          rw [Nat.testBit_one_eq_true_iff_self_eq_zero] at h2
          omega
        · exact .inr ⟨e, by simp, hb, .inr ((bitAt_iff _ _).2 h)⟩
      · exact .inr ⟨e', by simp [he'], hb', q⟩
    · rcases maskOf_bit acc j es _ h with h | ⟨e', he', hb', q⟩
      · exact .inl h
      · exact .inr ⟨e', by simp [he'], hb', q⟩
theorem nthL_eq {α : Type} (d : α) : ∀ (l : List α) (i : Nat), nthL d l i = l.getD i d
  | [], i => by simp [nthL]
  | a :: l, 0 => by simp [nthL]
  | a :: l, i + 1 => by simp [nthL, nthL_eq d l i]
theorem masks_get : ∀ (os : List Oper) (acc : List Nat), (masks acc os).length = acc.length + os.length ∧ (∀ i, i < acc.length → (masks acc os)[i]? = acc[i]?) ∧
    ∀ i o, os[i]? = some o → (masks acc os)[acc.length + i]? = some (maskOf ((masks acc os).take (acc.length + i)) o.after.toList 0)
  | [], acc => ⟨by simp [masks], fun i _ => rfl, fun i o h => by simp at h⟩
  | o :: os, acc => by
    simp only [masks]
    obtain ⟨h1, h2, h3⟩ := masks_get os (acc ++ [maskOf acc o.after.toList 0])
    simp only [List.length_append, List.length_cons, List.length_nil, Nat.zero_add] at h1 h2 h3
    refine ⟨by rw [h1]; simp; omega, fun i hi => ?_, fun i o' ho' => ?_⟩
    · rw [h2 i (by omega), List.getElem?_append_left hi]
    · cases i with
      | zero =>
        simp only [List.getElem?_cons_zero, Option.some.injEq] at ho'
        subst ho'
        rw [Nat.add_zero, h2 _ (by omega), List.getElem?_append_right (Nat.le_refl _), Nat.sub_self, List.getElem?_cons_zero]
        congr 2
        refine (List.ext_getElem? fun j => ?_)
        by_cases hj : j < acc.length
        · rw [List.getElem?_take_of_lt hj, h2 j (by omega), List.getElem?_append_left hj]
        · rw [List.getElem?_eq_none (by omega), List.getElem?_eq_none (by simp; omega)]
      | succ i =>
        have := h3 i o' (by simpa using ho')
        rw [show acc.length + (i + 1) = acc.length + 1 + i by omega]
        exact this
/-- Bits come from the edges. -/
theorem mask_bit {all : List Oper} {i j : Nat} {o : Oper} (ho : all[i]? = some o) (h : bitAt (nthL 0 (masks [] all) i) j = true) : ∃ e ∈ o.after, Region.binds .any e = true ∧ (j = e.on ∨ (e.on < i ∧ bitAt (nthL 0 (masks [] all) e.on) j = true)) := by
  have h3 := (masks_get all []).2.2 i o ho
  simp only [List.length_nil, Nat.zero_add] at h3
  rw [nthL_eq, List.getD_eq_getElem?_getD, h3] at h
  rcases maskOf_bit _ j _ 0 h with h | ⟨e, he, hb, q⟩
  · rw [bitAt_iff] at h; simp at h
  · refine ⟨e, by simpa using he, hb, q.imp id fun q => ?_⟩
    rw [nthL_eq, List.getD_eq_getElem?_getD, List.getElem?_take] at q
    by_cases hi : e.on < i
    · rw [if_pos hi] at q
      exact ⟨hi, by rw [nthL_eq, List.getD_eq_getElem?_getD]; exact q⟩
    · rw [if_neg hi] at q
      rw [bitAt_iff] at q; simp at q

/-! ### The plan's items are the operations -/
def Real (all : List Oper) (x : It) : Prop := all[x.i]? = some x.o ∧ x.cls = classOf x.o.op
theorem rows_real {all : List Oper} (es : List Nat) : ∀ (ms : List Nat) (os : List Oper) (i : Nat), (∀ j o, os[j]? = some o → all[i + j]? = some o) → ∀ r ∈ rows es ms os i, all[r.i]? = some r.o ∧ r.cls = classOf r.o.op
  | [], os, i, H, r, hr => by cases os <;> simp [rows] at hr
  | m :: ms, [], i, H, r, hr => by simp [rows] at hr
  | m :: ms, o :: os, i, H, r, hr => by
    simp only [rows, List.mem_cons] at hr
    rcases hr with rfl | hr
    · exact ⟨by have := H 0 o rfl; simpa using this, rfl⟩
    · exact rows_real es ms os (i + 1) (fun j o' hj => by have := H (j + 1) o' (by simpa using hj); rwa [show i + (j + 1) = i + 1 + j by omega] at this) r hr
theorem floatsAt_mem {c : Nat} : ∀ {rs : List Row} {x : It}, x ∈ floatsAt c rs → ∃ r ∈ rs, x.i = r.i ∧ x.o = r.o ∧ x.cls = r.cls
  | [], x, h => by simp [floatsAt] at h
  | r :: rs, x, h => by
    simp only [floatsAt] at h
    split at h
    · rcases List.mem_cons.1 h with rfl | h
      · exact ⟨r, by simp, rfl, rfl, rfl⟩
      · obtain ⟨r', h1, h2⟩ := floatsAt_mem h; exact ⟨r', by simp [h1], h2⟩
    · obtain ⟨r', h1, h2⟩ := floatsAt_mem h; exact ⟨r', by simp [h1], h2⟩
theorem actAt_mem {c : Nat} {seen : List It} : ∀ {rs : List Row} {x : It}, x ∈ actAt c seen rs → ∃ r ∈ rs, x.i = r.i ∧ x.o = r.o ∧ x.cls = r.cls
  | [], x, h => by simp [actAt] at h
  | r :: rs, x, h => by
    simp only [actAt] at h
    split at h
    · rcases List.mem_cons.1 h with rfl | h
      · exact ⟨r, by simp, rfl, rfl, rfl⟩
      · obtain ⟨r', h1, h2⟩ := actAt_mem h; exact ⟨r', by simp [h1], h2⟩
    · obtain ⟨r', h1, h2⟩ := actAt_mem h; exact ⟨r', by simp [h1], h2⟩
theorem phases_real {all : List Oper} {rs : List Row} (H : ∀ r ∈ rs, all[r.i]? = some r.o ∧ r.cls = classOf r.o.op) : ∀ (f c : Nat) (seen : List It), (∀ x ∈ seen, Real all x) → ∀ x ∈ phases rs f c seen, Real all x
  | 0, c, seen, hs, x, hx => hs x hx
  | f + 1, c, seen, hs, x, hx => by
    refine phases_real H f (c + 1) _ (fun y hy => ?_) x hx
    have conv : (∃ r ∈ rs, y.i = r.i ∧ y.o = r.o ∧ y.cls = r.cls) → Real all y := fun ⟨r, h1, h2, h3, h4⟩ => by unfold Real; rw [h2, h3, h4]; exact H r h1
    rcases List.mem_append.1 hy with hy | hy
    · rcases List.mem_append.1 hy with hy | hy
      · exact hs y hy
      · exact conv (floatsAt_mem hy)
    · exact conv (actAt_mem hy)
theorem planOf_real (all : List Oper) : ∀ x ∈ planOf all, Real all x :=
  phases_real (rows_real (actsAt all 0) (masks [] all) all 0 fun j o hj => by rwa [Nat.zero_add]) _ _ _ (by simp)
theorem pairsOk_pw {all : List Oper} {ms : List Nat} : ∀ {l : List It}, pairsOk all ms l = true → l.Pairwise (fun x y => pairOk all ms x y = true) ∧ ∀ x ∈ l, itOk all x = true
  | [], _ => ⟨.nil, by simp⟩
  | x :: xs, h => by
    simp only [pairsOk, Bool.and_eq_true, List.all_eq_true] at h
    obtain ⟨h1, h2, h3⟩ := h
    obtain ⟨g1, g2⟩ := pairsOk_pw h3
    exact ⟨.cons h2 g1, by simp only [List.mem_cons]; rintro y (rfl | hy); exact h1; exact g2 y hy⟩
theorem onePlace_mem {i : Nat} : ∀ {l : List It}, onePlace i l = true → ∃ x ∈ l, x.i = i
  | [], h => by simp [onePlace] at h
  | x :: xs, h => by
    simp only [onePlace, Bool.or_eq_true] at h
    rcases h with h | h
    · exact ⟨x, by simp, beq_true h⟩
    · obtain ⟨y, h1, h2⟩ := onePlace_mem h; exact ⟨y, by simp [h1], h2⟩
theorem placesOk_mem {l : List It} : ∀ {n : Nat}, placesOk l n = true → ∀ i, i < n → ∃ x ∈ l, x.i = i
  | 0, _, i, hi => by omega
  | n + 1, h, i, hi => by
    simp only [placesOk, Bool.and_eq_true] at h
    by_cases q : i = n
    · subst q; exact onePlace_mem h.1
    · exact placesOk_mem h.2 i (by omega)
theorem edgesOk_lt : ∀ {os : List Oper} {i : Nat}, edgesOk os i = true → ∀ j o, os[j]? = some o → ∀ e ∈ o.after, Region.binds .any e = true → e.on < i + j
  | [], i, h, j, o, ho, _, _, _ => by simp at ho
  | o' :: os, i, h, j, o, ho, e, he, hb => by
    simp only [edgesOk, Bool.and_eq_true, List.all_eq_true, Bool.or_eq_true, Bool.not_eq_true'] at h
    cases j with
    | zero =>
      simp at ho; subst ho
      rcases h.1 e (by simpa using he) with q | q
      · rw [hb] at q; cases q
      · exact blt_true q
    | succ j => have := edgesOk_lt h.2 j o (by simpa using ho) e he hb; omega
theorem memN_iff {k : Nat} : ∀ {l : List Nat}, memN k l = true ↔ k ∈ l
  | [] => by simp [memN]
  | a :: l => by
    simp only [memN, Bool.or_eq_true, memN_iff (l := l), List.mem_cons]
    exact or_congr ⟨beq_true, fun h => by rw [h]; exact Nat.beq_refl a⟩ Iff.rfl
/-- What a pair in order keeps. -/
structure Pair (all : List Oper) (x y : It) : Prop where
  ne : x.i ≠ y.i
  acts : x.cls = .acts → bitAt (nthL 0 (masks [] all) y.i) x.i = true
  raw : ∀ k, x.o.dst = some k → k ∈ looks all y.o → bitAt (nthL 0 (masks [] all) y.i) x.i = true
  war : ∀ k, y.o.dst = some k → k ∈ looks all x.o → y.cls = .acts ∧ bitAt (nthL 0 (masks [] all) y.i) x.i = true
  waw : ∀ k, y.o.dst = some k → x.o.dst ≠ some k
  rel : y.cls = .acts → x.cls = .plain ∨ x.cls = .acts ∨ bitAt (nthL 0 (masks [] all) y.i) x.i = true ∨ x.i ∈ y.rel
theorem is_iff (c d : Cls) : c.is d = true ↔ c = d := by cases c <;> cases d <;> simp [Cls.is]
theorem pair_of {all : List Oper} {x y : It} (h : pairOk all (masks [] all) x y = true) : Pair all x y := by
  simp only [pairOk, Bool.and_eq_true, Bool.or_eq_true, Bool.not_eq_true', is_iff] at h
  obtain ⟨⟨h1, h2⟩, h3, h4, h5⟩ := h
  have nm : ∀ {k l}, memN k l = false → k ∉ l := fun q q2 => by rw [memN_iff.2 q2] at q; cases q
  have nis : ∀ {c d : Cls}, c.is d = false → c ≠ d := fun q q2 => by rw [(is_iff _ _).2 q2] at q; cases q
  refine ⟨fun q => ?_, fun q => ?_, fun k hk hl => ?_, fun k hk hl => ?_, fun k hk hx => ?_, fun q => ?_⟩
  · rw [q, Nat.beq_refl] at h1; cases h1
  · exact h2.resolve_left fun q2 => nis q2 q
  · rw [hk] at h3
    simp only [Bool.or_eq_true, Bool.not_eq_true'] at h3
    exact h3.resolve_left fun q => nm q hl
  · rw [hk] at h4
    simp only [Bool.or_eq_true, Bool.not_eq_true', Bool.and_eq_true, is_iff] at h4
    exact h4.1.resolve_left fun q => nm q hl
  · rw [hk, hx] at h4
    simp only [Bool.or_eq_true, Bool.not_eq_true', Bool.and_eq_true] at h4
    have := h4.2
    rw [Nat.beq_refl] at this; cases this
  · rcases h5 with h5 | h5 | h5 | h5
    · exact absurd q (nis h5)
    · exact h5.elim .inl fun q => .inr (.inl q)
    · exact .inr (.inr (.inl h5))
    · exact .inr (.inr (.inr (memN_iff.1 h5)))
theorem itOk_self {all : List Oper} {x : It} (h : itOk all x = true) : ∀ k, x.o.dst = some k → k ∉ looks all x.o := fun k hk hl => by
  simp only [itOk, hk, Bool.and_eq_true, Bool.not_eq_true'] at h
  rw [memN_iff.2 hl] at h; cases h.1

/-! ### The same variables -/
variable {I : Info} {O : Oracle} {t t' : Env} {r : R} {all : List Oper} {o : Oper}
def Agree (all : List Oper) (o : Oper) (t t' : Env) : Prop := ∀ k ∈ looks all o, getE t k = getE t' k
theorem Agree.symm (h : Agree all o t t') : Agree all o t' t := fun k hk => (h k hk).symm
theorem Agree.op (h : Agree all o t t') (hp : Heap) (nm n : Nat) (K : D → Heap → Nat → Option R) : evOp o.op I O t hp nm n K = evOp o.op I O t' hp nm n K := by
  refine evOp_congr o.op (fun x hx => ?_) hp nm n K
  cases x with
  | tmp k => funext K; show K (getE t k) = K (getE t' k); rw [h k (List.mem_append_left _ (List.mem_filterMap.2 ⟨.tmp k, hx, rfl⟩))]
  | _ => rfl
theorem Agree.want (h : Agree all o t t') (K : Bool → Option R) : wantK all o t K = wantK all o t' K := by
  unfold wantK
  cases hg : o.guard with
  | none => rfl
  | some g =>
    show wantG all t K g = wantG all t' K g
    unfold wantG
    cases hs : guardOf all g.1 with
    | none => rfl
    | some s =>
      have : getE t s = getE t' s := h s (List.mem_append_right _ (by rw [hg]; simp [hs]))
      simp only [onSome, this]
theorem want_det (K : Bool → Option R) (e : wantK all o t K = some r) : ∃ v, K v = some r ∧ ∀ K' : Bool → Option R, wantK all o t K' = K' v := by
  unfold wantK at e ⊢
  cases hg : o.guard with
  | none => rw [hg] at e; exact ⟨true, e, fun _ => rfl⟩
  | some g =>
    rw [hg] at e
    replace e : wantG all t K g = some r := e
    show ∃ v, K v = some r ∧ ∀ K' : Bool → Option R, wantG all t K' g = K' v
    unfold wantG at e ⊢
    obtain ⟨s, hs, e⟩ := onSome_some e
    simp only [hs]
    show ∃ v, K v = some r ∧ ∀ K' : Bool → Option R, (match getE t s with | .bool b => (match b with | true => K' g.2 | false => K' (!g.2)) | .undef => none | _ => K' false) = K' v
    generalize getE t s = d at e
    cases d with
    | bool b =>
      cases b
      · exact ⟨_, e, fun _ => rfl⟩
      · exact ⟨_, e, fun _ => rfl⟩
    | undef => cases e
    | _ => exact ⟨_, e, fun _ => rfl⟩
end
end Go.Gh
