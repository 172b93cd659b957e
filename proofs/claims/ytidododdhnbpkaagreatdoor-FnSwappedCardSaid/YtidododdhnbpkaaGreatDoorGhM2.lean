import Derived.Test.YtidododdhnbpkaaGreatDoorGhM1
set_option linter.unusedVariables false
set_option linter.unusedSimpArgs false
namespace Go.Gh
open Go.RowKit
section
variable {P : Program} {I : Info} {val : Nat → UInt8} {M M' : Mp} {w w' : World} {h : Heap} {m n : Nat} {r : R}
theorem belows_mem : ∀ {l : List D}, belows m l = true → ∀ d ∈ l, below m d = true
  | [], _, d, hd => by simp at hd
  | x :: l, h, d, hd => by
    simp only [belows, Bool.and_eq_true] at h
    rcases List.mem_cons.1 hd with rfl | hd
    · exact h.1
    · exact belows_mem h.2 d hd
theorem OR_cut (hM : ∀ o l, o < m → M o = some l → M' o = some l) {c : Obj} {l : Loc} (hb : belowO m c = true) (h : OR val w M c l) : OR val w M' c l := by
  cases c with
  | cells ds =>
    obtain ⟨h1, h2, h3⟩ := h
    refine ⟨h1, h2, fun i d hd => ?_⟩
    obtain ⟨v, hv, hr⟩ := h3 i d hd
    exact ⟨v, hv, VRel_cut hM _ _ (belows_mem hb d (List.mem_of_getElem? hd)) hr⟩
  | map es =>
    obtain ⟨es', clock, h1, h2, h3⟩ := h
    simp only [belowO, Bool.and_eq_true] at hb
    exact ⟨es', clock, h1, VRelL_cut hM _ _ hb.1 h2, VRelL_cut hM _ _ hb.2 h3⟩
  | iter s pos => exact h
theorem OR_ren (hM : ∀ o l, M o = some l → M' (renN m n o) = some l) {c : Obj} {l : Loc} (h : OR val w M c l) : OR val w M' (renO m n c) l := by
  cases c with
  | cells ds =>
    obtain ⟨h1, h2, h3⟩ := h
    simp only [renO, renL_map]
    refine ⟨by simpa using h1, h2, fun i d hd => ?_⟩
    rw [List.getElem?_map] at hd
    cases hi : ds[i]? with
    | none => rw [hi] at hd; cases hd
    | some d0 =>
      rw [hi] at hd; cases hd
      obtain ⟨v, hv, hr⟩ := h3 i d0 hi
      exact ⟨v, hv, VRel_ren hM _ _ hr⟩
  | map es =>
    obtain ⟨es', clock, h1, h2, h3⟩ := h
    refine ⟨es', clock, h1, ?_, ?_⟩
    · have := VRelL_ren hM _ _ h2; rw [renL_map] at this; simpa [List.map_map, Function.comp_def] using this
    · have := VRelL_ren hM _ _ h3; rw [renL_map] at this; simpa [List.map_map, Function.comp_def] using this
  | iter s pos => exact h
theorem takeK_some : ∀ {l : List (Nat × Obj)} {h : Heap} {K : Heap → Option R}, takeK l h K = some r → ∃ h', K h' = some r ∧ (∀ x ∈ l, h.get x.1 = some x.2) ∧ ∀ o c, h'.get o = some c → h.get o = some c ∧ ∀ x ∈ l, x.1 ≠ o
  | [], h, K, e => ⟨h, e, by simp, fun o c q => ⟨q, by simp⟩⟩
  | x :: l, h, K, e => by
    simp only [takeK] at e
    replace e := hget_some e; obtain ⟨c, hc, e⟩ := e
    obtain ⟨hcc, e⟩ := req_some e
    rw [hdel_eq] at e
    obtain ⟨h', e, h1, h2⟩ := takeK_some e
    have old : ∀ o c, (h.put x.1 none).get o = some c → h.get o = some c ∧ x.1 ≠ o := fun o c q => by
      rw [get_put] at q
      by_cases q2 : o = x.1
      · rw [if_pos q2] at q; cases q
      · rw [if_neg q2] at q; exact ⟨q, Ne.symm q2⟩
    refine ⟨h', e, ?_, fun o c q => ?_⟩
    · simp only [List.mem_cons]
      rintro y (rfl | hy)
      · rw [eqWo_eq _ _ hcc]; exact hc
      · exact (old _ _ (h1 y hy)).1
    · obtain ⟨g1, g2⟩ := h2 o c q
      obtain ⟨g3, g4⟩ := old o c g1
      exact ⟨g3, by simp only [List.mem_cons]; rintro y (rfl | hy); exact g4; exact g2 y hy⟩
theorem putsK_some : ∀ {l : List (Nat × Obj)} {h : Heap} {K : Heap → Option R}, putsK m n l h K = some r → ∃ h', K h' = some r ∧ ∀ o c, h'.get o = some c → (∃ x ∈ l, o = renN m n x.1 ∧ c = renO m n x.2) ∨ h.get o = some c
  | [], h, K, e => ⟨h, e, fun o c q => .inr q⟩
  | x :: l, h, K, e => by
    simp only [putsK, hput_eq] at e
    obtain ⟨h', e, h1⟩ := putsK_some e
    refine ⟨h', e, fun o c q => ?_⟩
    rcases h1 o c q with ⟨y, hy, q1⟩ | q1
    · exact .inl ⟨y, by simp [hy], q1⟩
    · rw [get_put] at q1
      by_cases q2 : o = renN m n x.1
      · rw [if_pos q2] at q1; cases q1; exact .inl ⟨x, by simp, q2, rfl⟩
      · rw [if_neg q2] at q1; exact .inr q1
theorem putL_some : ∀ {l : List (Nat × Obj)} {h : Heap} {K : Heap → Option R}, putL l h K = some r → ∃ h', K h' = some r ∧ ∀ o c, h'.get o = some c → (o, c) ∈ l ∨ h.get o = some c
  | [], h, K, e => ⟨h, e, fun o c q => .inr q⟩
  | x :: l, h, K, e => by
    simp only [putL, hput_eq] at e
    obtain ⟨h', e, h1⟩ := putL_some e
    refine ⟨h', e, fun o c q => ?_⟩
    rcases h1 o c q with q1 | q1
    · exact .inl (by simp [q1])
    · rw [get_put] at q1
      by_cases q2 : o = x.1
      · rw [if_pos q2] at q1; cases q1; exact .inl (by simp [q2])
      · rw [if_neg q2] at q1; exact .inr q1
theorem getsK_some : ∀ {l : List (Nat × Obj)} {h : Heap} {k : Option R}, getsK l h k = some r → k = some r ∧ ∀ x ∈ l, h.get x.1 = some x.2
  | [], h, k, e => ⟨e, by simp⟩
  | x :: l, h, k, e => by
    simp only [getsK] at e
    replace e := hget_some e; obtain ⟨c, hc, e⟩ := e
    obtain ⟨hcc, e⟩ := req_some e
    obtain ⟨e, h1⟩ := getsK_some e
    exact ⟨e, by simp only [List.mem_cons]; rintro y (rfl | hy); rw [eqWo_eq _ _ hcc]; exact hc; exact h1 y hy⟩
/-- A call that has been run by itself. -/
def MemoOk (P : Program) (val : Nat → UInt8) (m : Memo) : Prop :=
  memoWf m = true ∧ ∃ h0 : Heap, (∀ o c, h0.get o = some c → (o, c) ∈ m.ins) ∧ TaskSem P val (.call m.k m.args) h0 m.n fun res h' n' => res = .val m.d ∧ n' = m.n' ∧ ∀ x ∈ m.outs, h'.get x.1 = some x.2
theorem Ends.mono {k : Nat} {args : Array Value} {Q Q' : Ending → World → Prop} (h : Ends P k args w Q) (hq : ∀ e w', Q e w' → Q' e w') : Ends P k args w Q' := by
  rcases h with ⟨fn, h1, h2, h3, h4⟩ | ⟨v, w', h1, h2⟩
  · exact .inl ⟨fn, h1, h2, h3, h4.mono hq⟩
  · exact .inr ⟨v, w', h1, hq _ _ h2⟩
theorem memoRun_ok {ms : List Memo} {fuel : Nat} {x : Memo} (hO : OSound P val (memoI I ms fuel)) (e : memoRun I ms fuel x = some doneR) : MemoOk P val x := by
  unfold memoRun at e
  obtain ⟨hw, e⟩ := req_some e
  obtain ⟨h0, e, h1⟩ := putL_some e
  refine ⟨hw, h0, fun o c q => (h1 o c q).resolve_right fun q2 => by (rw [get_nil] at q2; cases q2), ?_⟩
  have sem := hO _ _ _ _ _ e
  intro M w vs H hargs
  refine (sem M w vs H hargs).mono ?_
  rintro e w' ⟨v, M', d, h', n', rfl, e2, hle, H', hvr, S⟩
  replace e2 : req (eqW x.d d && Nat.beq x.n' n') (getsK x.outs h' (some doneR)) = some doneR := e2
  obtain ⟨hd, e2⟩ := req_some e2
  rw [Bool.and_eq_true] at hd
  obtain ⟨_, hg⟩ := getsK_some e2
  exact ⟨v, M', d, h', n', rfl, ⟨by rw [eqW_eq _ _ hd.1], (beq_true hd.2).symm, hg⟩, hle, H', hvr, S⟩
theorem renN_lt {o : Nat} (h : o < m) : renN m n o = o := by
  unfold renN; rw [blt_iff.2 h]
theorem renN_ge {o : Nat} (h : ¬ o < m) : renN m n o = n + (o - m) := by
  unfold renN; rw [show Nat.blt o m = false by rw [blt_eq]; simpa using h]; rfl
/-- It is used again. -/
theorem useK_sound {x : Memo} {K : Res → Heap → Nat → Option R} (ok : MemoOk P val x) (e : useK x h n K = some r) : TaskSem P val (.call x.k x.args) h n fun res h' n' => K res h' n' = some r := by
  obtain ⟨hw, h0, hh0, sem⟩ := ok
  unfold useK at e
  obtain ⟨hn, e⟩ := req_some e
  have hmn := ble_true hn
  obtain ⟨h1, e, t1, t2⟩ := takeK_some e
  obtain ⟨h2, e, p1⟩ := putsK_some e
  replace e : K (.val (renD x.n n x.d)) h2 (n + (x.n' - x.n)) = some r := e
  unfold memoWf at hw
  simp only [Bool.and_eq_true, List.all_eq_true] at hw
  obtain ⟨hw1, hw2⟩ := hw
  intro M w vs H hargs
  have cutM : ∀ o l, o < x.n → M o = some l → (fun o => if o < x.n then M o else none : Mp) o = some l := fun o l q1 q2 => by
    show (if o < x.n then M o else none) = some l
    rw [if_pos q1]; exact q2
  have backM : ∀ o l, (fun o => if o < x.n then M o else none : Mp) o = some l → o < x.n ∧ M o = some l := fun o l q => by
    replace q : (if o < x.n then M o else none) = some l := q
    by_cases q2 : o < x.n
    · rw [if_pos q2] at q; exact ⟨q2, q⟩
    · rw [if_neg q2] at q; cases q
  generalize (fun o => if o < x.n then M o else none : Mp) = M1 at cutM backM
  have sub : ∀ o c, h0.get o = some c → h.get o = some c ∧ o < x.n ∧ belowO x.n c = true := fun o c q => by
    have q1 := hh0 o c q
    have q2 := hw2 _ q1
    exact ⟨t1 _ q1, blt_true q2.1, q2.2⟩
  have H1 : HR val w M1 h0 x.n := ⟨fun o c l q1 q2 => OR_cut cutM (sub o c q1).2.2 (H.obj o c l (sub o c q1).1 (backM o l q2).2), fun o o' c c' l l' q1 q2 q3 q4 q5 => H.inj o o' c c' l l' (sub o c q1).1 (sub o' c' q2).1 (backM _ _ q3).2 (backM _ _ q4).2 q5, fun o l q => (backM o l q).1, fun o l q => H.bound o l (backM o l q).2, fun o c q => (sub o c q).2.1⟩
  refine (sem M1 w vs H1 (VRelL_cut cutM _ _ hw1 hargs)).mono ?_
  rintro en w' ⟨v, M1', d, h1', n1', rfl, ⟨hd, hn', houts⟩, hle, H', hvr, S⟩
  cases hd
  subst hn'
  have low : ∀ o l, o < x.n → M1' o = some l → M o = some l := fun o l q1 q2 => by
    cases q : M1 o with
    | none => have := S.fresh o l q q2; have := this.1; omega
    | some l' => have q3 := S.ext o l' q; rw [q2] at q3; cases q3; exact (backM o l q).2
  have up : ∀ o l, o < x.n → M o = some l → M1' o = some l := fun o l q1 q2 => S.ext o l (cutM o l q1 q2)
  have mNew : ∀ o, o < n → (fun o => if o < n then M o else M1' (o - n + x.n) : Mp) o = M o := fun o q => by
    show (if o < n then M o else M1' (o - n + x.n)) = M o
    rw [if_pos q]
  have mGe : ∀ o, ¬ o < n → (fun o => if o < n then M o else M1' (o - n + x.n) : Mp) o = M1' (o - n + x.n) := fun o q => by
    show (if o < n then M o else M1' (o - n + x.n)) = _
    rw [if_neg q]
  generalize (fun o => if o < n then M o else M1' (o - n + x.n) : Mp) = M' at mNew mGe
  have ren : ∀ o l, M1' o = some l → M' (renN x.n n o) = some l := fun o l q => by
    by_cases q1 : o < x.n
    · have q2 := low o l q1 q
      rw [renN_lt q1, mNew o (H.new o l q2)]; exact q2
    · rw [renN_ge q1, mGe _ (by omega), show n + (o - x.n) - n + x.n = o by omega]; exact q
  have back : ∀ o l, M' (renN x.n n o) = some l → M1' o = some l := fun o l q => by
    by_cases q1 : o < x.n
    · rw [renN_lt q1, mNew o (by omega)] at q; exact up o l q1 q
    · rw [renN_ge q1, mGe _ (by omega), show n + (o - x.n) - n + x.n = o by omega] at q; exact q
  have extM : ∀ o l, M o = some l → M' o = some l := fun o l q => by rw [mNew o (H.new o l q)]; exact q
  have kinds : ∀ o c l, h2.get o = some c → M' o = some l → (∃ o1 c1, h1'.get o1 = some c1 ∧ M1' o1 = some l ∧ o = renN x.n n o1 ∧ c = renO x.n n c1) ∨ (h.get o = some c ∧ M o = some l ∧ o < n ∧ l.b < w.heap.size ∧ Away M1 h0 l.b) := fun o c l q1 q2 => by
    rcases p1 o c q1 with ⟨y, hy, rfl, rfl⟩ | q3
    · exact .inl ⟨y.1, y.2, houts y hy, back _ _ q2, rfl, rfl⟩
    · obtain ⟨g1, g2⟩ := t2 o c q3
      have g3 := H.top o c g1
      rw [mNew o g3] at q2
      refine .inr ⟨g1, q2, g3, H.bound o l q2, fun o2 c2 l2 k1 k2 k3 => ?_⟩
      have := H.inj o2 o c2 c l2 l (sub o2 c2 k1).1 g1 (backM _ _ k2).2 q2 k3
      exact g2 _ (hh0 o2 c2 k1) this
  have H2 : HR val w' M' h2 (n + (x.n' - x.n)) := by
    refine ⟨fun o c l q1 q2 => ?_, fun o o' c c' l l' q1 q2 q3 q4 q5 => ?_, fun o l q => ?_, fun o l q => ?_, fun o c q => ?_⟩
    · rcases kinds o c l q1 q2 with ⟨o1, c1, k1, k2, rfl, rfl⟩ | ⟨k1, k2, k3, k4, k5⟩
      · exact OR_ren ren (H'.obj o1 c1 l k1 k2)
      · exact OR_keep extM (S.frame l.b k4 k5).1 (H.obj o c l k1 k2)
    · rcases kinds o c l q1 q3 with ⟨o1, c1, k1, k2, rfl, rfl⟩ | ⟨k1, k2, k3, k4, k5⟩ <;> rcases kinds o' c' l' q2 q4 with ⟨o1', c1', j1, j2, rfl, rfl⟩ | ⟨j1, j2, j3, j4, j5⟩
      · rw [H'.inj o1 o1' c1 c1' l l' k1 j1 k2 j2 q5]
      · exact absurd q5 ((S.frame l'.b j4 j5).2 o1 c1 l k1 k2)
      · exact absurd q5.symm ((S.frame l.b k4 k5).2 o1' c1' l' j1 j2)
      · exact H.inj o o' c c' l l' k1 j1 k2 j2 q5
    · by_cases q1 : o < n
      · omega
      · rw [mGe o q1] at q
        have := H'.new _ _ q
        omega
    · by_cases q1 : o < n
      · rw [mNew o q1] at q; exact Nat.lt_of_lt_of_le (H.bound o l q) S.size
      · rw [mGe o q1] at q; exact H'.bound _ _ q
    · rcases p1 o c q with ⟨y, hy, rfl, rfl⟩ | q3
      · have := H'.top _ _ (houts y hy)
        by_cases q1 : y.1 < x.n
        · rw [renN_lt q1]; omega
        · rw [renN_ge q1]; omega
      · have := H.top o c (t2 o c q3).1; omega
  refine ⟨v, M', _, h2, _, rfl, e, Nat.le_add_right _ _, H2, VRel_ren ren _ _ hvr, ⟨extM, fun o l q1 q2 => ?_, S.os, S.size, fun b hb q => ?_⟩⟩
  · by_cases q3 : o < n
    · rw [mNew o q3, q1] at q2; cases q2
    · exact ⟨by omega, H2.new o l q2⟩
  · have aw : Away M1 h0 b := fun o c l q1 q2 => q o c l (sub o c q1).1 (backM _ _ q2).2
    obtain ⟨f1, f2⟩ := S.frame b hb aw
    refine ⟨f1, fun o c l q1 q2 => ?_⟩
    rcases kinds o c l q1 q2 with ⟨o1, c1, k1, k2, rfl, rfl⟩ | ⟨k1, k2, k3, k4, k5⟩
    · exact f2 o1 c1 l k1 k2
    · exact q o c l k1 k2
theorem findMemo_some {k : Nat} {args : List D} {x : Memo} : ∀ {ms : List Memo}, findMemo k args ms = some x → x ∈ ms ∧ x.k = k ∧ x.args = args
  | [], e => by simp [findMemo] at e
  | y :: ms, e => by
    simp only [findMemo] at e
    split at e
    · rename_i hb
      cases e
      rw [Bool.and_eq_true] at hb
      exact ⟨by simp, (beq_true hb.1).symm, eqWs_eq _ _ hb.2⟩
    · obtain ⟨h1, h2⟩ := findMemo_some e; exact ⟨by simp [h1], h2⟩
theorem memoO_sound {ms : List Memo} {O : Oracle} (hO : OSound P val O) (hms : ∀ x ∈ ms, MemoOk P val x) : OSound P val (memoO ms O) := by
  intro T h n K r e
  cases T with
  | call k args =>
    unfold memoO at e
    dsimp only at e
    split at e
    · rename_i x hx
      obtain ⟨h1, rfl, rfl⟩ := findMemo_some hx
      exact useK_sound (hms x h1) e
    · exact hO _ _ _ _ _ e
  | loop b t => exact hO _ _ _ _ _ e
theorem memoI_sound {ms : List Memo} (hm : P.follows .mixedOrders = true) (hv : Digits val) (hI : TOk P I) (hP : PrimOk P val I) (hF : FOk P I) (hms : ∀ x ∈ ms, MemoOk P val x) : ∀ f, OSound P val (memoI I ms f)
  | 0 => fun T h n K r e => by cases e
  | f + 1 => memoO_sound (task_sound hv hI hP hF (memoI_sound hm hv hI hP hF hms f) (draw_ok hm hv hI hP (memoI_sound hm hv hI hP hF hms f))) hms
end
end Go.Gh
