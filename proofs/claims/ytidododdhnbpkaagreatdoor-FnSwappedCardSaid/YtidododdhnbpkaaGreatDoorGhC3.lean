import Derived.Test.YtidododdhnbpkaaGreatDoorGhD6
set_option linter.unusedVariables false
set_option linter.unnecessarySimpa false
set_option linter.unusedSimpArgs false
namespace Go.Gh
open Go.RowKit
section
variable {P : Program} {I : Info} {O : Oracle} {val : Nat → UInt8} {a : Act} {M : Mp} {w : World} {h : Heap} {t : Env} {n : Nat} {r : R}

/-- One result. -/
def resOf (tmps : Array Value) : ResultVar → Sem Value
  | .tmp t => pure (tmps.getD t undef)
  | .cell a t => do loadVar t (← asAddr (tmps.getD a undef))
theorem resultK_some {x : ResultVar} {K : D → Option R} (hI : TOk P I) (H : HR val w M h n) (E : ER val M t a.tmps) (e : resultK I t h x K = some r) : ∃ d v, K d = some r ∧ VRel val M d v ∧ (resOf a.tmps x).run P w = .ok v w := by
  cases x with
  | tmp k => exact ⟨_, _, e, E k, by simp [resOf]⟩
  | cell k ty =>
    replace e : (onSome (I.ti ty) fun T => asPtr (getE t k) fun o off => hget h o fun c => asCells c fun l => cut l off T.size fun l => aggK T l K) = some r := e
    replace e := onSome_some e; obtain ⟨T, hT, e⟩ := e
    replace e := asPtr_some e; obtain ⟨ob, off, hd, e⟩ := e
    replace e := hget_some e; obtain ⟨c, hc, e⟩ := e
    replace e := asCells_some e; obtain ⟨ds, rfl, e⟩ := e
    replace e := cut_some e; obtain ⟨A, B, C, hABC, hA, hB, e⟩ := e
    have hr := E k
    rw [hd] at hr
    simp only [VRel] at hr
    obtain ⟨l, hl, q⟩ := hr
    obtain ⟨vs, k1, k2, k3⟩ := cells_read (H.obj _ _ _ hc hl) hABC
    obtain ⟨d, x', e, hdr, run⟩ := aggK_run (P := P) (w := w) (val := val) (M := M) (b := l.b) (lo := l.base + off) (hI ty T hT) k1 (by rw [k2, hB]) (by rw [hA] at k3; exact k3) e
    exact ⟨d, x', e, hdr, by simp [resOf, q, asAddr, run]⟩
theorem resultsK_some (hI : TOk P I) (H : HR val w M h n) (E : ER val M t a.tmps) : ∀ {l : List ResultVar} {K : List D → Option R}, resultsK I t h l K = some r → ∃ ds vs, K ds = some r ∧ VRelL val M ds vs ∧ (l.mapM (resOf a.tmps)).run P w = .ok vs w
  | [], K, e => ⟨[], [], e, by simp [VRelL], by simp⟩
  | x :: l, K, e => by
    simp only [resultsK] at e
    replace e := resultK_some (P := P) hI H E e; obtain ⟨d, v, e, h1, h2⟩ := e
    obtain ⟨ds, vs, e, h3, h4⟩ := resultsK_some hI H E e
    exact ⟨d :: ds, v :: vs, e, by simp only [VRelL]; exact ⟨_, _, rfl, h1, h3⟩, by simp [List.mapM_cons, h2, h4]⟩
theorem results_run {fn : Func} {vs : List Value} (hr : (fn.results.toList.mapM (resOf a.tmps)).run P w = .ok vs w) : (results fn a.tmps).run P w = .ok (if h : vs.length = 1 then vs[0] else .tuple vs.toArray) w := by
  have hf : (fn.results.mapM (resOf a.tmps)).run P w = .ok vs.toArray w := by
    rw [Array.mapM_eq_mapM_toList]
    simp [hr]
  have he : results fn a.tmps = (do let vs ← fn.results.mapM (resOf a.tmps); pure (if h : vs.size = 1 then vs[0] else .tuple vs)) := rfl
  rw [he]
  simp only [Sem.run_bind, hf, Result.andThen_ok, Sem.run_pure]
  simp
theorem oneOrTup_rel {ds : List D} {vs : List Value} (hr : VRelL val M ds vs) : VRel val M (oneOrTup ds) (if h : vs.length = 1 then vs[0] else .tuple vs.toArray) := by
  have hl := VRelL_length hr
  match ds, vs, hr, hl with
  | [d], [v], hr, _ => simp only [VRelL] at hr; obtain ⟨_, _, q, h1, _⟩ := hr; cases q; simpa [oneOrTup] using h1
  | [], [], hr, _ => simp only [oneOrTup, VRel]; exact ⟨_, rfl, by simpa using hr⟩
  | d1 :: d2 :: ds, v1 :: v2 :: vs, hr, _ =>
    rw [dif_neg (by simp)]
    simp only [oneOrTup, VRel]
    exact ⟨_, rfl, by simpa using hr⟩
theorem slotsK_some : ∀ (ds : List D) (i : Nat) (t : Env) {K : Env → Option R}, List.rec (motive := fun _ => Nat → Env → Option R) (fun _ t => K t) (fun d _ go i t => putE t i d fun t => go (Nat.succ i) t) ds i t = some r →
    ∃ t', K t' = some r ∧ ∀ j, getE t' j = if i ≤ j ∧ j < i + ds.length then ds.getD (j - i) (.tup []) else getE t j
  | [], i, t, K, e => ⟨t, e, fun j => by rw [if_neg (by simp)]⟩
  | d :: ds, i, t, K, e => by
    replace e : (putE t i d fun t => List.rec (motive := fun _ => Nat → Env → Option R) (fun _ t => K t) (fun d _ go i t => putE t i d fun t => go (Nat.succ i) t) ds (Nat.succ i) t) = some r := e
    rw [putE_eq] at e
    obtain ⟨t', e, h1⟩ := slotsK_some ds (i + 1) _ e
    refine ⟨t', e, fun j => ?_⟩
    rw [h1, getE_put]
    by_cases q : j = i
    · subst q
      rw [if_neg (by omega), if_pos rfl, if_pos (by simp)]; simp
    · by_cases q2 : i + 1 ≤ j ∧ j < i + 1 + ds.length
      · rw [if_pos q2, if_pos (by simp; omega), show j - i = (j - (i + 1)) + 1 by omega]; simp
      · rw [if_neg q2, if_neg q, if_neg (by simp; omega)]
theorem enter_rel {ds : List D} {vs : Array Value} {m : Nat} {t' : Env} (hr : VRelL val M ds vs.toList) (ht : ∀ j, getE t' j = if 0 ≤ j ∧ j < 0 + ds.length then ds.getD (j - 0) (.tup []) else getE .nil j) : ER val M t' (vs ++ Array.replicate m undef) := by
  have hl := VRelL_length hr
  rw [Array.length_toList] at hl
  intro j
  rw [ht]
  simp only [Nat.zero_le, true_and, Nat.zero_add, Nat.sub_zero]
  by_cases q : j < ds.length
  · rw [if_pos q]
    obtain ⟨v, h1, h2⟩ := VRelL_get hr (List.getElem?_eq_getElem q)
    have : (vs ++ Array.replicate m undef).getD j undef = v := by
      rw [Array.getElem?_toList] at h1
      have hj : j < vs.size := by omega
      rw [Array.getElem?_eq_getElem hj] at h1
      cases h1
      simp [Array.getD_eq_getD_getElem?, Array.getElem?_append, hj]
    rw [this]
    simpa [List.getD_eq_getElem?_getD, q] using h2
  · rw [if_neg q]
    have : (vs ++ Array.replicate m undef).getD j undef = undef := by
      simp only [Array.getD_eq_getD_getElem?, Array.getElem?_append, show ¬ j < vs.size by omega, if_false, Array.getElem?_replicate]
      split <;> rfl
    rw [this]
    have : getE (.nil : Env) j = .tup [] := by unfold getE; rw [get_nil]
    rw [this]
    exact VRel_unit
theorem dstOk_mono {sz sz' : Nat} (hs : sz ≤ sz') : ∀ {l : List Oper}, dstOk sz l = true → dstOk sz' l = true
  | [], _ => rfl
  | o :: l, e => by
    simp only [dstOk] at e ⊢
    split at e
    · simp only [Bool.and_eq_true] at e ⊢
      exact ⟨by rw [blt_iff]; have := blt_true e.1; omega, dstOk_mono hs e.2⟩
    · exact dstOk_mono hs e
theorem codeOk_mono {sz sz' : Nat} (hs : sz ≤ sz') : ∀ {c : Code}, codeOk sz c = true → codeOk sz' c = true
  | .region _ ops _, e => by simp only [codeOk, Bool.and_eq_true] at e ⊢; exact ⟨dstOk_mono hs (l := ops.toList) e.1, e.2⟩
  | .seq x y, e => by simp only [codeOk, Bool.and_eq_true] at e ⊢; exact ⟨codeOk_mono hs e.1, codeOk_mono hs e.2⟩
  | .cond _ x y, e => by simp only [codeOk, Bool.and_eq_true] at e ⊢; exact ⟨codeOk_mono hs e.1, codeOk_mono hs e.2⟩
  | .block _ b, e => codeOk_mono hs (c := b) e
  | .loop b, e => codeOk_mono hs (c := b) e
  | .skip, _ | .ret, _ | .exit _, _ | .rangeFunc .., _ | .scope _, _ | .label _, _ | .goto _, _ | .refuse _, _ => rfl

theorem task_sound (hv : Digits val) (hI : TOk P I) (hP : PrimOk P val I) (hF : FOk P I) (hO : OSound P val O) (hD : DrawOk P val I O) : OSound P val (taskK I O) := by
  intro T h n K r e
  cases T with
  | call k args =>
    intro M w vs H hargs
    replace e : (onSome (I.fn k) fun f => funK I O f args h n fun d h n => K (.val d) h n) = some r := e
    replace e := onSome_some e; obtain ⟨f, hf, e⟩ := e
    unfold funK at e
    replace e := onSome_some e; obtain ⟨c, hc, e⟩ := e
    obtain ⟨t', e, ht'⟩ := slotsK_some args 0 .nil e
    obtain ⟨hfn, hname, hok⟩ := hF k f hf
    have hcode : codeOk f.ntmps c = true := by unfold funOk at hok; rw [hc] at hok; exact hok
    refine .inl ⟨f, hfn, hname, by rw [hc]; rfl, calls_of_wp hfn hc ?_⟩
    have E : ER val M t' (vs ++ Array.replicate (f.ntmps - vs.size) undef) := enter_rel hargs ht'
    refine evCode_sound (a := { tmps := vs ++ Array.replicate (f.ntmps - vs.size) undef, defers := [] }) hv hI hP hO hD c (codeOk_mono (by simp; omega) hcode) H E e _ fun x t2 h2 n2 a2 w2 M2 e2 A => ?_
    have fin : (resultsK I t2 h2 f.results.toList fun l => K (.val (oneOrTup l)) h2 n2) = some r → a2.defers = [] ∧ ∃ v, (results f a2.tmps).run P w2 = .ok v w2 ∧ ∃ v' M' d h' n', Ending.returned v = .returned v' ∧ K (.val d) h' n' = some r ∧ n ≤ n' ∧ HR val w2 M' h' n' ∧ VRel val M' d v' ∧ Step M w h M' w2 h' (within n n') := fun e3 => by
      obtain ⟨ds, rvs, e3, g1, g2⟩ := resultsK_some (P := P) hI A.hr A.er e3
      exact ⟨A.defers, _, results_run g2, _, M2, _, h2, n2, rfl, e3, A.le, A.hr, oneOrTup_rel g1, A.step⟩
    cases x with
    | normal => exact fin e2
    | ret => exact fin e2
    | exit i => replace e2 : (none : Option R) = some r := e2; cases e2
  | loop b t =>
    intro M w a H E hcode Q k
    replace e : evCode I O b t h n (again O b K) = some r := e
    refine LW_unroll (evCode_sound hv hI hP hO hD b hcode H E e _ fun x t2 h2 n2 a2 w2 M2 e2 A => ?_)
    cases x with
    | normal =>
      replace e2 : O (.loop b t2) h2 n2 K = some r := e2
      show LW P b Q a2 w2
      refine hO _ _ _ _ _ e2 M2 w2 a2 A.hr A.er (by rw [A.size]; exact hcode) Q fun x t3 h3 n3 a3 w3 M3 e3 hle H3 E3 hs hdf S => ?_
      have hle0 := A.le
      exact k x t3 h3 n3 a3 w3 M3 e3 (by omega) H3 E3 (hs.trans A.size) (hdf.trans A.defers) (A.step.trans S (fun o q => ⟨by have := q.1; omega, by have := q.2; omega⟩) (fun o q => ⟨by have := q.1; omega, by have := q.2; omega⟩))
    | exit i =>
      replace e2 : K (.out (.exit i) t2) h2 n2 = some r := e2
      exact k (.exit i) t2 h2 n2 a2 w2 M2 e2 A.le A.hr A.er A.size A.defers A.step
    | ret =>
      replace e2 : K (.out .ret t2) h2 n2 = some r := e2
      exact k .ret t2 h2 n2 a2 w2 M2 e2 A.le A.hr A.er A.size A.defers A.step
theorem oracle_sound (hm : P.follows .mixedOrders = true) (hv : Digits val) (hI : TOk P I) (hP : PrimOk P val I) (hF : FOk P I) : ∀ n, OSound P val (oracle I n)
  | 0 => fun T h n K r e => by cases e
  | n + 1 => task_sound hv hI hP hF (oracle_sound hm hv hI hP hF n) (draw_ok hm hv hI hP (oracle_sound hm hv hI hP hF n))
end
end Go.Gh
