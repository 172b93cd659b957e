import Derived.Test.YtidododdhnbpkaaGreatDoorGhC1
set_option linter.unusedVariables false
set_option linter.unnecessarySimpa false
set_option linter.unusedSimpArgs false
namespace Go.Gh
open Go.RowKit
section
variable {P : Program} {I : Info} {O : Oracle} {val : Nat → UInt8} {a : Act} {o : Oper} {M : Mp} {w : World} {h : Heap} {t : Env} {nm n : Nat} {r : R}

theorem ER.ext {M' : Mp} {tmps : Array Value} (E : ER val M t tmps) (hM : ∀ o l, M o = some l → M' o = some l) : ER val M' t tmps := fun k => VRel_ext hM _ _ (E k)
theorem put_tmps {dst : Option Tmp} {v : Value} : (a.put dst v).tmps.size = a.tmps.size ∧ (a.put dst v).defers = a.defers := by
  cases dst <;> simp [Act.put]
theorem ER_put {M' : Mp} {k : Nat} {d : D} {v : Value} (E : ER val M t a.tmps) (hM : ∀ o l, M o = some l → M' o = some l) (hk : k < a.tmps.size) (hr : VRel val M' d v) : ER val M' (t.put k (some d)) (a.put (some k) v).tmps := by
  intro j
  rw [getE_put]
  show VRel val M' _ ((a.tmps.setIfInBounds k v).getD j undef)
  by_cases q : j = k
  · subst q
    rw [if_pos rfl]
    simpa [Array.getD_eq_getD_getElem?, hk] using hr
  · rw [if_neg q]
    have : (a.tmps.setIfInBounds k v).getD j undef = a.tmps.getD j undef := by
      simp [Array.getD_eq_getD_getElem?, Array.getElem?_setIfInBounds_ne (Ne.symm q)]
    rw [this]
    exact VRel_ext hM _ _ (E j)
theorem putDst_sound {M' : Mp} {dst : Option Tmp} {d : D} {v : Value} {K : Env → Option R} (E : ER val M t a.tmps) (hM : ∀ o l, M o = some l → M' o = some l) (hk : ∀ k, dst = some k → k < a.tmps.size) (hr : VRel val M' d v) (e : putDst dst d t K = some r) :
    ∃ t', K t' = some r ∧ ER val M' t' (a.put dst v).tmps := by
  cases dst with
  | none => exact ⟨t, e, E.ext hM⟩
  | some k =>
    replace e : putE t k d K = some r := e
    rw [putE_eq] at e
    exact ⟨_, e, ER_put E hM (hk k rfl) hr⟩
theorem guardOf_eq : ∀ (l : List Oper) (j : Nat), guardOf l j = (l[j]?).bind (·.dst)
  | [], j => by simp [guardOf]
  | o :: l, 0 => by simp [guardOf]
  | o :: l, j + 1 => by simp only [guardOf, guardOf_eq l j, List.getElem?_cons_succ]
theorem wantK_some {ops : Array Oper} {K : Bool → Option R} (E : ER val M t a.tmps) (e : wantK ops.toList o t K = some r) : ∃ b, K b = some r ∧ Region.wanted o (yielded ops a.tmps) = b := by
  unfold wantK at e
  unfold Region.wanted
  cases hg : o.guard with
  | none => rw [hg] at e; exact ⟨true, e, rfl⟩
  | some g =>
    obtain ⟨j, want⟩ := g
    rw [hg] at e
    replace e : wantG ops.toList t K (j, want) = some r := e
    unfold wantG at e
    obtain ⟨s, hs, e⟩ := onSome_some e
    rw [guardOf_eq, Array.getElem?_toList] at hs
    have hrel := E s
    have hy : yielded ops a.tmps j = match (a.tmps[s]?) with | some (.bool b) => some b | _ => none := by
      unfold yielded
      rw [hs]
      rfl
    simp only [hy]
    have key : a.tmps.getD s undef = (a.tmps[s]?).getD undef := by simp [Array.getD_eq_getD_getElem?]
    split at e
    · rename_i b hb
      rw [hb, key] at hrel
      simp only [VRel] at hrel
      have hsome : a.tmps[s]? = some (.bool b) := by
        cases q : a.tmps[s]? with
        | none => rw [q] at hrel; simp [undef] at hrel
        | some v => rw [q] at hrel; simp at hrel; rw [hrel]
      rw [hsome]
      cases b
      · exact ⟨!want, e, by cases want <;> rfl⟩
      · exact ⟨want, e, by cases want <;> rfl⟩
    · cases e
    · rename_i d hd1 hd2
      refine ⟨false, e, ?_⟩
      have hnb : ∀ b, a.tmps[s]? ≠ some (.bool b) := fun b q => by
        rw [key, q] at hrel
        simp only [Option.getD_some] at hrel
        generalize hdd : getE t s = dd at hrel hd1 hd2
        cases dd <;> simp only [VRel] at hrel <;> first
          | (exact hd1 _ rfl)
          | (exact hd2 rfl)
          | (cases hrel; done)
          | (obtain ⟨_, hrel⟩ := hrel; cases hrel; done)
          | (obtain ⟨_, _, hrel⟩ := hrel; cases hrel; done)
          | (obtain ⟨_, hrel, _⟩ := hrel; cases hrel; done)
          | (obtain ⟨_, _, _, _, hrel, _⟩ := hrel; cases hrel; done)
      split
      · rename_i b hb; exact absurd hb (hnb b)
      · cases want <;> rfl
/-- What is known behind an operation or several. -/
structure After (val : Nat → UInt8) (M : Mp) (w : World) (h : Heap) (n : Nat) (a : Act) (new : Nat → Prop) (t' : Env) (h' : Heap) (n' : Nat) (a' : Act) (w' : World) (M' : Mp) : Prop where
  le : n ≤ n'
  hr : HR val w' M' h' n'
  er : ER val M' t' a'.tmps
  size : a'.tmps.size = a.tmps.size
  defers : a'.defers = a.defers
  step : Step M w h M' w' h' new
theorem After.trans {M1 M2 : Mp} {w1 w2 : World} {h1 h2 : Heap} {n1 n2 : Nat} {a1 a2 : Act} {t1 t2 : Env} {new1 new2 new : Nat → Prop} (x : After val M w h n a new1 t1 h1 n1 a1 w1 M1) (y : After val M1 w1 h1 n1 a1 new2 t2 h2 n2 a2 w2 M2) (k1 : ∀ o, new1 o → new o) (k2 : ∀ o, new2 o → new o) :
    After val M w h n a new t2 h2 n2 a2 w2 M2 := ⟨Nat.le_trans x.le y.le, y.hr, y.er, y.size.trans x.size, y.defers.trans x.defers, x.step.trans y.step k1 k2⟩

theorem stepK_sound {ops : Array Oper} {i : Nat} {rest : List Nat} {Q : Exit → Act → World → Prop} {K : Env → Heap → Nat → Option R} (hv : Digits val) (hI : TOk P I) (hP : PrimOk P val I) (hO : OSound P val O) (hi : ops[i]? = some o) (hd : ∀ k, o.dst = some k → k < a.tmps.size)
    (H : HR val w M h n) (E : ER val M t a.tmps) (hnm : nm < n) (hM : M nm = none) (e : stepK I O ops.toList o t h nm n K = some r)
    (k : ∀ t' h' n' a' w' M', K t' h' n' = some r → After val M w h n a (fun x => x = nm ∨ within n n' x) t' h' n' a' w' M' → wpOps P ops Q rest a' w') : wpOps P ops Q (i :: rest) a w := by
  obtain ⟨b, e, hb⟩ := wantK_some E e
  simp only [wpOps, hi]
  cases b with
  | false =>
    rw [hb]
    simp only [Bool.false_eq_true, if_false]
    obtain ⟨t', e, E'⟩ := putDst_sound (M' := M) (v := undef) E (fun _ _ q => q) hd VRel_unit e
    exact k t' h n _ w M e ⟨Nat.le_refl _, H, E', put_tmps.1, put_tmps.2, Step.refl ..⟩
  | true =>
    rw [hb]
    simp only [if_true]
    refine .inl (evOp_sound hv hI hP hO H E hnm hM e _ _ fun d h' n' v w' M' e' hle H' hvr S => ?_)
    obtain ⟨t', e', E'⟩ := putDst_sound (M' := M') (v := v) E S.ext hd hvr e'
    exact k t' h' n' _ w' M' e' ⟨hle, H', E', put_tmps.1, put_tmps.2, S⟩
theorem dstOk_mem {sz : Nat} : ∀ {l : List Oper}, dstOk sz l = true → ∀ o ∈ l, ∀ k, o.dst = some k → k < sz
  | [], _, o, ho, _, _ => by simp at ho
  | o' :: l, e, o, ho, k, hk => by
    simp only [dstOk] at e
    rcases List.mem_cons.1 ho with rfl | ho
    · rw [hk] at e
      simp only [Bool.and_eq_true] at e
      exact blt_true e.1
    · split at e
      · simp only [Bool.and_eq_true] at e; exact dstOk_mem e.2 o ho k hk
      · exact dstOk_mem e o ho k hk
theorem seq_sound {ops : Array Oper} {Q : Exit → Act → World → Prop} (hv : Digits val) (hI : TOk P I) (hP : PrimOk P val I) (hO : OSound P val O) : ∀ (l : List Oper) (i : Nat) {M : Mp} {w : World} {h : Heap} {t : Env} {n : Nat} {a : Act} {K : Env → Heap → Nat → Option R}, (∀ j o, l[j]? = some o → ops[i + j]? = some o) → (∀ o ∈ l, ∀ k, o.dst = some k → k < a.tmps.size) →
    HR val w M h n → ER val M t a.tmps → runK (fun o t h n K => stepK I O ops.toList o t h n (Nat.succ n) K) l t h n K = some r →
    (∀ t' h' n' a' w' M', K t' h' n' = some r → After val M w h n a (within n n') t' h' n' a' w' M' → Q .normal a' w') → wpOps P ops Q (List.range' i l.length) a w
  | [], i, M, w, h, t, n, a, K, hl, hd, H, E, e, k => by
    simp only [List.length_nil, List.range'_zero, wpOps]
    exact k t h n a w M e ⟨Nat.le_refl _, H, E, rfl, rfl, Step.refl ..⟩
  | o :: l, i, M, w, h, t, n, a, K, hl, hd, H, E, e, k => by
    rw [List.length_cons, List.range'_succ]
    replace e : stepK I O ops.toList o t h n (Nat.succ n) (fun t h n => runK (fun o t h n K => stepK I O ops.toList o t h n (Nat.succ n) K) l t h n K) = some r := e
    refine stepK_sound (o := o) (nm := n) (n := n + 1) hv hI hP hO (by have := hl 0 o rfl; simpa using this) (hd o (by simp)) (H.mono (by omega)) E (by omega) (H.none (Nat.le_refl _)) e fun t' h' n' a' w' M' e' A => ?_
    have hle := A.le
    refine seq_sound hv hI hP hO l (i + 1) (fun j o' hj => by have := hl (j + 1) o' (by simpa using hj); rwa [show i + (j + 1) = i + 1 + j by omega] at this) (fun o' ho' k hk => by rw [A.size]; exact hd o' (by simp [ho']) k hk) A.hr A.er e' fun t2 h2 n2 a2 w2 M2 e2 A2 => ?_
    have hle2 := A2.le
    have A' : After val M w h n a (fun x => x = n ∨ within (n + 1) n' x) t' h' n' a' w' M' := ⟨by omega, A.hr, A.er, A.size, A.defers, A.step⟩
    exact k t2 h2 n2 a2 w2 M2 e2 (A'.trans A2 (fun x q => by
      rcases q with q | q
      · subst q; exact ⟨by omega, by omega⟩
      · exact ⟨by have := q.1; omega, by have := q.2; omega⟩) (fun x q => ⟨by have := q.1; omega, by have := q.2; omega⟩))

/-- What a piece of code comes to: with whatever follows. -/
def WpSem (P : Program) (val : Nat → UInt8) (wp : (Exit → Act → World → Prop) → Act → World → Prop) (M : Mp) (w : World) (h : Heap) (n : Nat) (a : Act) (Post : X → Env → Heap → Nat → Prop) : Prop :=
  ∀ Q : Exit → Act → World → Prop, (∀ x t' h' n' a' w' M', Post x t' h' n' → After val M w h n a (within n n') t' h' n' a' w' M' → Q (exitOf x) a' w') → wp Q a w
def DrawOk (P : Program) (val : Nat → UInt8) (I : Info) (O : Oracle) : Prop :=
  ∀ (ops : Array Oper) (M : Mp) (w : World) (h : Heap) (t : Env) (n : Nat) (a : Act) (K : Env → Heap → Nat → Option R) (r : R), planOk ops.toList = true → (∀ o ∈ ops.toList, ∀ k, o.dst = some k → k < a.tmps.size) → HR val w M h n → ER val M t a.tmps → drawOps I O ops.toList t h n K = some r →
    ∀ (Q : Exit → Act → World → Prop), (∀ t' h' n' a' w' M', K t' h' n' = some r → After val M w h n a (within n n') t' h' n' a' w' M' → Q .normal a' w') → ∀ tt, wpOps P ops Q (Region.schedule (P.follows .mixedOrders) ops tt) a { w with drawn := w.drawn + 1 }
theorem drawn_hr (H : HR val w M h n) : HR val { w with drawn := w.drawn + 1 } M h n := by
  refine ⟨fun o c l h1 h2 => ?_, H.inj, H.new, H.bound, H.top⟩
  have := H.obj o c l h1 h2
  exact OR_keep (fun _ _ q => q) rfl this
theorem evCode_sound (hv : Digits val) (hI : TOk P I) (hP : PrimOk P val I) (hO : OSound P val O) (hD : DrawOk P val I O) : ∀ (c : Code) {M : Mp} {w : World} {h : Heap} {t : Env} {n : Nat} {a : Act} {K : Then}, codeOk a.tmps.size c = true → HR val w M h n → ER val M t a.tmps →
    evCode I O c t h n K = some r → WpSem P val (c.wp P) M w h n a fun x t' h' n' => K x t' h' n' = some r
  | .skip, M, w, h, t, n, a, K, hc, H, E, e => fun Q k => wp_skip (k .normal t h n a w M e ⟨Nat.le_refl _, H, E, rfl, rfl, Step.refl ..⟩)
  | .ret, M, w, h, t, n, a, K, hc, H, E, e => fun Q k => wp_ret (k .ret t h n a w M e ⟨Nat.le_refl _, H, E, rfl, rfl, Step.refl ..⟩)
  | .exit id, M, w, h, t, n, a, K, hc, H, E, e => fun Q k => wp_exit (k (.exit id) t h n a w M e ⟨Nat.le_refl _, H, E, rfl, rfl, Step.refl ..⟩)
  | .region id ops draw, M, w, h, t, n, a, K, hc, H, E, e => fun Q k => by
    replace hc : (dstOk a.tmps.size ops.toList && ((!draw) || planOk ops.toList)) = true := hc
    rw [Bool.and_eq_true] at hc
    have hd := dstOk_mem hc.1
    cases draw with
    | false =>
      replace e : seqOps I O ops.toList t h n (fun t h n => K .normal t h n) = some r := e
      refine wp_region ?_
      have := seq_sound (Q := Q) hv hI hP hO ops.toList 0 (ops := ops) (fun j o hj => by rw [Nat.zero_add, ← Array.getElem?_toList]; exact hj) hd H E e fun t' h' n' a' w' M' e' A => k .normal t' h' n' a' w' M' e' A
      rwa [Array.length_toList, ← List.range_eq_range'] at this
    | true =>
      replace e : drawOps I O ops.toList t h n (fun t h n => K .normal t h n) = some r := e
      exact wp_region_draw (hD ops M w h t n a _ r (by simpa using hc.2) hd H E e Q fun t' h' n' a' w' M' e' A => k .normal t' h' n' a' w' M' e' A)
  | .seq x y, M, w, h, t, n, a, K, hc, H, E, e => fun Q k => by
    simp only [codeOk, Bool.and_eq_true] at hc
    replace e : evCode I O x t h n (fun x => X.rec (motive := fun _ => Env → Heap → Nat → Option R) (fun t h n => evCode I O y t h n K) (fun i => K (.exit i)) (K .ret) x) = some r := e
    refine wp_seq (evCode_sound hv hI hP hO hD x hc.1 H E e _ fun x' t' h' n' a' w' M' e' A => ?_)
    cases x' with
    | normal =>
      show (y.wp P Q) a' w'
      have hle := A.le
      exact evCode_sound hv hI hP hO hD y (by rw [A.size]; exact hc.2) A.hr A.er e' Q fun x2 t2 h2 n2 a2 w2 M2 e2 A2 => by
        have hle2 := A2.le
        exact k x2 t2 h2 n2 a2 w2 M2 e2 (A.trans A2 (fun o q => ⟨by have := q.1; omega, by have := q.2; omega⟩) (fun o q => ⟨by have := q.1; omega, by have := q.2; omega⟩))
    | exit i => exact k (.exit i) t' h' n' a' w' M' e' A
    | ret => exact k .ret t' h' n' a' w' M' e' A
  | .cond c x y, M, w, h, t, n, a, K, hc, H, E, e => fun Q k => by
    simp only [codeOk, Bool.and_eq_true] at hc
    replace e : (opd t c fun d => asBool d fun v => Bool.rec (motive := fun _ => Option R) (evCode I O y t h n K) (evCode I O x t h n K) v) = some r := e
    replace e := opd_some hv E e; obtain ⟨d, e, hr⟩ := e
    replace e := asBool_some e; obtain ⟨b, rfl, e⟩ := e
    simp only [VRel] at hr
    cases b with
    | true => exact wp_cond_true hr (evCode_sound hv hI hP hO hD x hc.1 H E e Q k)
    | false => exact wp_cond_false hr (evCode_sound hv hI hP hO hD y hc.2 H E e Q k)
  | .block id b, M, w, h, t, n, a, K, hc, H, E, e => fun Q k => by
    replace e : evCode I O b t h n (fun x => X.rec (motive := fun _ => Env → Heap → Nat → Option R) (K .normal) (fun i => Bool.rec (motive := fun _ => Env → Heap → Nat → Option R) (K (.exit i)) (K .normal) (Nat.beq i id)) (K .ret) x) = some r := e
    refine wp_block (evCode_sound hv hI hP hO hD b hc H E e _ fun x' t' h' n' a' w' M' e' A => ?_)
    cases x' with
    | normal => exact k .normal t' h' n' a' w' M' e' A
    | ret => exact k .ret t' h' n' a' w' M' e' A
    | exit i =>
      show Exit.inBlock id Q (.exit i) a' w'
      replace e' : (Bool.rec (motive := fun _ => Env → Heap → Nat → Option R) (K (.exit i)) (K .normal) (Nat.beq i id)) t' h' n' = some r := e'
      simp only [Exit.inBlock]
      cases hb : Nat.beq i id with
      | true => rw [hb] at e'; rw [if_pos (beq_true hb)]; exact k .normal t' h' n' a' w' M' e' A
      | false => rw [hb] at e'; rw [if_neg (Nat.ne_of_beq_eq_false hb)]; exact k (.exit i) t' h' n' a' w' M' e' A
  | .loop b, M, w, h, t, n, a, K, hc, H, E, e => fun Q k => by
    replace e : O (.loop b t) h n (fun r h n => match r with | .out x t => K x t h n | .val _ => none) = some r := e
    have sem := hO _ _ _ _ _ e
    exact wp_of_LW (sem M w a H E hc Q fun x t' h' n' a' w' M' e' hle H' E' hs hd S => k x t' h' n' a' w' M' e' ⟨hle, H', E', hs, hd, S⟩)
  | .rangeFunc .., M, w, h, t, n, a, K, hc, H, E, e => by cases e
  | .scope .., M, w, h, t, n, a, K, hc, H, E, e => by cases e
  | .label .., M, w, h, t, n, a, K, hc, H, E, e => by cases e
  | .goto .., M, w, h, t, n, a, K, hc, H, E, e => by cases e
  | .refuse .., M, w, h, t, n, a, K, hc, H, E, e => by cases e
end
end Go.Gh
