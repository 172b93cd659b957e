import Derived.Test.YtidododdhnbpkaaGreatDoorGhD4
set_option linter.unusedVariables false
set_option linter.unusedSimpArgs false
namespace Go.Gh
open Go.RowKit
section
variable {P : Program} {val : Nat → UInt8} {I : Info} {O : Oracle} {M M' : Mp} {w w' : World} {h h1 h2 : Heap} {n : Nat} {new : Nat → Prop}
theorem HR_ghost (H : HR val w M h1 n) (hg : ∀ q, M q ≠ none → h2.get q = h1.get q) (ht : ∀ q c, h2.get q = some c → q < n) : HR val w M h2 n := by
  have g : ∀ o c l, h2.get o = some c → M o = some l → h1.get o = some c := fun o c l q1 q2 => by rw [← hg o (by rw [q2]; simp)]; exact q1
  exact ⟨fun o c l q1 q2 => H.obj o c l (g o c l q1 q2) q2, fun o o' c c' l l' q1 q2 q3 q4 q5 => H.inj o o' c c' l l' (g _ _ _ q1 q3) (g _ _ _ q2 q4) q3 q4 q5, H.new, H.bound, ht⟩
theorem Step_ghost (S : Step M w h M' w' h1 new) (hg : ∀ q, M' q ≠ none → h2.get q = h1.get q) : Step M w h M' w' h2 new :=
  ⟨S.ext, S.fresh, S.os, S.size, fun b hb q => ⟨(S.frame b hb q).1, fun o c l q1 q2 => (S.frame b hb q).2 o c l (by rw [← hg o (by rw [q2]; simp)]; exact q1) q2⟩⟩
theorem getD_lt {listed : Array Bool} {i : Nat} (hi : i < listed.size) (d d' : Bool) : listed.getD i d = listed.getD i d' := by simp [Array.getD, hi]
theorem getD_set {listed : Array Bool} {i : Nat} (hi : i < listed.size) (j : Nat) (d : Bool) : (listed.setIfInBounds i true).getD j d = if j = i then true else listed.getD j d := by
  by_cases q : j = i
  · subst q; simp [Array.getD, hi]
  · rw [if_neg q, getD_set_ne d (Ne.symm q)]
def maskE (t : Env) : List Nat → Env
  | [] => t
  | k :: l => (maskE t l).put k (some .undef)
theorem getE_mask (t : Env) : ∀ (l : List Nat) (k : Nat), getE (maskE t l) k = if k ∈ l then .undef else getE t k
  | [], k => by simp [maskE]
  | j :: l, k => by
    simp only [maskE, getE_put, getE_mask t l k, List.mem_cons]
    by_cases q : k = j
    · simp [q]
    · simp [q]
structure Inv (val : Nat → UInt8) (I : Info) (O : Oracle) (ops : Array Oper) (b : Nat) (K : DrawT) (r : R) (M0 : Mp) (w0 : World) (h0 : Heap) (a0 : Act) (listed : Array Bool) (past rest : List It) (t : Env) (h : Heap) (n : Nat) (log : Log) (a : Act) (w : World) (M : Mp) : Prop where
  ord : planOf ops.toList = past ++ rest
  size : listed.size = ops.size
  run : drawK I O ops.toList b rest t h n log K = some r
  head : rest = [] ∨ ∃ x xs, rest = x :: xs ∧ x.cls = .acts
  lg : LogOk I log
  fl : ∀ x ∈ past, listed.getD x.i true = false → Fl I O ops.toList b x t h log
  un : ∀ x ∈ rest, listed.getD x.i true = false ∧ findL x.i log = none
  er : ∀ k, (∃ x ∈ past, listed.getD x.i true = false ∧ x.o.dst = some k) ∨ VRel val M (getE t k) (a.tmps.getD k undef)
  hr : HR val w M h n
  gh : ∀ x ∈ past ++ rest, listed.getD x.i true = false → M (b + x.i) = none
  nn : b + ops.size ≤ n
  step : Step M0 w0 h0 M w h (within b n)
  tm : a.tmps.size = a0.tmps.size
  df : a.defers = a0.defers
  dn : ∀ i, listed.getD i false = true → ∀ j, bitAt (nthL 0 (masks [] ops.toList) i) j = true → listed.getD j false = true
theorem put_getD {a : Act} {dst : Option Tmp} {v : Value} (hd : ∀ k, dst = some k → k < a.tmps.size) (j : Nat) : (a.put dst v).tmps.getD j undef = if dst = some j then v else a.tmps.getD j undef := by
  cases dst with
  | none => simp [Act.put]
  | some k =>
    show (a.tmps.setIfInBounds k v).getD j undef = _
    by_cases q : j = k
    · subst q
      have := hd j rfl
      simp [Array.getD_eq_getD_getElem?, this]
    · rw [if_neg (fun q2 => q (by cases q2; rfl))]
      simp [Array.getD_eq_getD_getElem?, Array.getElem?_setIfInBounds_ne (Ne.symm q)]
/-- What is known of the plan. -/
structure PlanF (ops : Array Oper) : Prop where
  pw : (planOf ops.toList).Pairwise (Pair ops.toList)
  ok : ∀ x ∈ planOf ops.toList, Real ops.toList x ∧ itOk ops.toList x = true
  place : ∀ i, i < ops.size → ∃ x ∈ planOf ops.toList, x.i = i
  edge : ∀ i o, ops[i]? = some o → ∀ e ∈ o.after, Region.binds .any e = true → e.on < i
theorem planF_of {ops : Array Oper} (h : planOk ops.toList = true) : PlanF ops := by
  unfold planOk at h
  simp only [Bool.and_eq_true] at h
  obtain ⟨h1, h2, h3⟩ := h
  obtain ⟨g1, g2⟩ := pairsOk_pw h3
  refine ⟨g1.imp fun q => pair_of q, fun x hx => ⟨planOf_real _ x hx, g2 x hx⟩, fun i hi => placesOk_mem h2 i (by simpa using hi), fun i o ho e he hb => ?_⟩
  have := edgesOk_lt h1 i o (by simpa using ho) e he hb
  omega
theorem pw_or {R : It → It → Prop} : ∀ {l : List It}, l.Pairwise R → ∀ x ∈ l, ∀ y ∈ l, x = y ∨ R x y ∨ R y x
  | [], _, x, hx, _, _ => by simp at hx
  | z :: l, h, x, hx, y, hy => by
    obtain ⟨h1, h2⟩ := List.pairwise_cons.1 h
    rcases List.mem_cons.1 hx with ex | hx' <;> rcases List.mem_cons.1 hy with ey | hy'
    · exact .inl (ex.trans ey.symm)
    · exact .inr (.inl (by rw [ex]; exact h1 y hy'))
    · exact .inr (.inr (by rw [ey]; exact h1 x hx'))
    · exact pw_or h2 x hx' y hy'
section
variable {ops : Array Oper} {b : Nat} {K : DrawT} {r : R} {M0 : Mp} {w0 : World} {h0 : Heap} {a0 : Act} {listed : Array Bool} {past rest : List It} {t : Env} {log : Log} {a : Act}
theorem same_i (F : PlanF ops) {x y : It} (hx : x ∈ planOf ops.toList) (hy : y ∈ planOf ops.toList) (q : x.i = y.i) : x = y := by
  rcases pw_or F.pw x hx y hy with h | h | h
  · exact h
  · exact absurd q h.ne
  · exact absurd q.symm h.ne
theorem same_dst (F : PlanF ops) {x y : It} (hx : x ∈ planOf ops.toList) (hy : y ∈ planOf ops.toList) {k : Nat} (q : x.o.dst = some k) (q' : y.o.dst = some k) : x = y := by
  rcases pw_or F.pw x hx y hy with h | h | h
  · exact h
  · exact absurd q (h.waw k q')
  · exact absurd q' (h.waw k q)
theorem lt_of_real {x : It} (hx : Real ops.toList x) : x.i < ops.size := by
  have := (List.getElem?_eq_some_iff.1 hx.1).1
  simpa using this
/-- What a ready operation rests on has been done. -/
theorem ready_bits (V : Inv val I O ops b K r M0 w0 h0 a0 listed past rest t h n log a w M) {i : Nat} (hi : i ∈ Region.ready .any ops listed) : ∀ j, bitAt (nthL 0 (masks [] ops.toList) i) j = true → listed.getD j false = true := fun j hj => by
  obtain ⟨h1, o, ho, he⟩ := mem_ready.1 hi
  obtain ⟨e, he1, hb, q⟩ := mask_bit (by simpa using ho) hj
  rcases q with rfl | ⟨_, q⟩
  · exact he e he1 hb
  · exact V.dn _ (he e he1 hb) j q
/-- The variables without those that are yet to come. -/
def seen (listed : Array Bool) (past : List It) (t : Env) : Env := maskE t (past.filterMap fun x => if listed.getD x.i true = false then x.o.dst else none)
theorem mem_seen {k : Nat} : k ∈ (past.filterMap fun x => if listed.getD x.i true = false then x.o.dst else none) ↔ ∃ x ∈ past, listed.getD x.i true = false ∧ x.o.dst = some k := by
  simp only [List.mem_filterMap]
  constructor
  · rintro ⟨x, h1, h2⟩
    by_cases q : listed.getD x.i true = false
    · rw [if_pos q] at h2; exact ⟨x, h1, q, h2⟩
    · rw [if_neg q] at h2; cases h2
  · rintro ⟨x, h1, h2, h3⟩
    exact ⟨x, h1, by rw [if_pos h2]; exact h3⟩
theorem seen_er (V : Inv val I O ops b K r M0 w0 h0 a0 listed past rest t h n log a w M) : ER val M (seen listed past t) a.tmps := fun k => by
  unfold seen
  rw [getE_mask]
  by_cases q : k ∈ (past.filterMap fun x => if listed.getD x.i true = false then x.o.dst else none)
  · rw [if_pos q]; simp only [VRel]
  · rw [if_neg q]
    exact (V.er k).resolve_left fun q2 => q (mem_seen.2 q2)
theorem seen_agree (F : PlanF ops) (V : Inv val I O ops b K r M0 w0 h0 a0 listed past rest t h n log a w M) {x : It} (hx : x ∈ planOf ops.toList) (hi : x.i ∈ Region.ready .any ops listed) : Agree ops.toList x.o t (seen listed past t) := fun k hk => by
  unfold seen
  rw [getE_mask, if_neg]
  intro q
  obtain ⟨y, hy, hl, hd⟩ := mem_seen.1 q
  have hyp : y ∈ planOf ops.toList := by rw [V.ord]; exact List.mem_append_left _ hy
  have hfl := V.fl y hy hl
  rcases pw_or F.pw x hx y hyp with rfl | p | p
  · exact itOk_self (F.ok x hx).2 k hd hk
  · exact hfl.1 (p.war k hd hk).1
  · have := ready_bits V hi _ (p.raw k hd hk)
    have hlt := lt_of_real (F.ok y hyp).1
    rw [getD_lt (by rw [V.size]; exact hlt) false true, hl] at this
    cases this
theorem dn_set (V : Inv val I O ops b K r M0 w0 h0 a0 listed past rest t h n log a w M) {i : Nat} (hi : i ∈ Region.ready .any ops listed) (hlt : i < ops.size) : ∀ j, (listed.setIfInBounds i true).getD j false = true → ∀ k, bitAt (nthL 0 (masks [] ops.toList) j) k = true → (listed.setIfInBounds i true).getD k false = true := fun j hj k hk => by
  rw [getD_set (by rw [V.size]; exact hlt)] at hj ⊢
  by_cases q : k = i
  · rw [if_pos q]
  · rw [if_neg q]
    by_cases q2 : j = i
    · rw [q2] at hk; exact ready_bits V hi k hk
    · rw [if_neg q2] at hj; exact V.dn j hj k hk
/-- One that does nothing has its turn. -/
theorem turn_float (F : PlanF ops) (V : Inv val I O ops b K r M0 w0 h0 a0 listed past rest t h n log a w M) {x : It} (hx : x ∈ past) (hi : x.i ∈ Region.ready .any ops listed) {d : D} {v : Value} {h2 : Heap} (hd : ∀ k, x.o.dst = some k → getE t k = d) (hsz : ∀ k, x.o.dst = some k → k < a.tmps.size)
    (hvr : VRel val M' d v) (H : HR val w' M' h2 n) (hh : ∀ q, h.get q = h2.get q) (S : Step M w h M' w' h2 (fun z => z = b + x.i ∨ within n n z)) :
    Inv val I O ops b K r M0 w0 h0 a0 (listed.setIfInBounds x.i true) past rest t h n log (a.put x.o.dst v) w' M' := by
  have hxp : x ∈ planOf ops.toList := by rw [V.ord]; exact List.mem_append_left _ hx
  have hlt := lt_of_real (F.ok x hxp).1
  have hls : x.i < listed.size := by rw [V.size]; exact hlt
  have old : ∀ y : It, (listed.setIfInBounds x.i true).getD y.i true = false → listed.getD y.i true = false ∧ y.i ≠ x.i := fun y hy => by
    rw [getD_set hls] at hy
    by_cases q : y.i = x.i
    · rw [if_pos q] at hy; cases hy
    · rw [if_neg q] at hy; exact ⟨hy, q⟩
  have hun : ∀ y ∈ rest, y.i ≠ x.i := fun y hy q => by
    have p := (List.pairwise_append.1 (V.ord ▸ F.pw)).2.2 x hx y hy
    exact p.ne q.symm
  refine ⟨V.ord, by simp [V.size], V.run, V.head, V.lg, fun y hy hl => V.fl y hy (old y hl).1, fun y hy => ⟨by rw [getD_set hls, if_neg (hun y hy)]; exact (V.un y hy).1, (V.un y hy).2⟩, fun k => ?_, HR_ghost H (fun q _ => (hh q)) (fun q c qc => H.top q c (by rw [← hh]; exact qc)), fun y hy hl => ?_, V.nn, ?_, ?_, ?_, dn_set V hi hlt⟩
  · rw [put_getD hsz]
    by_cases q : x.o.dst = some k
    · rw [if_pos q, hd k q]; exact .inr hvr
    · rw [if_neg q]
      rcases V.er k with ⟨y, hy, hl, hk⟩ | hv
      · refine .inl ⟨y, hy, ?_, hk⟩
        rw [getD_set hls, if_neg]
        · exact hl
        · intro q2
          have := same_i F (by rw [V.ord]; exact List.mem_append_left _ hy) hxp q2
          rw [this] at hk; exact q hk
      · exact .inr (VRel_ext S.ext _ _ hv)
  · obtain ⟨g1, g2⟩ := old y hl
    have g3 := V.gh y hy g1
    cases hM : M' (b + y.i) with
    | none => rfl
    | some l =>
      rcases S.fresh _ l g3 hM with q | q
      · exact absurd (Nat.add_left_cancel q) g2
      · have := q.1; have := q.2; omega
  · refine Step_ghost (V.step.trans S (fun z q => q) fun z q => ?_) fun q _ => hh q
    have hnn := V.nn
    rcases q with rfl | q
    · exact ⟨by omega, by omega⟩
    · exact ⟨by have := q.1; omega, q.2⟩
  · exact put_tmps.1.trans V.tm
  · exact put_tmps.2.trans V.df
/-- One that does something has had its turn: what follows it in the plan is done. -/
theorem turn_act (F : PlanF ops) {x : It} {xs : List It} {n' : Nat} {h' : Heap} {d : D} {v : Value} (V : Inv val I O ops b K r M0 w0 h0 a0 listed past (x :: xs) t h n log a w M) (hi : x.i ∈ Region.ready .any ops listed) {t' : Env} (ht' : ∀ j, getE t' j = if x.o.dst = some j then d else getE t j)
    (hsz : ∀ k, x.o.dst = some k → k < a.tmps.size) (hvr : VRel val M' d v) (H : HR val w' M' h' n') (hle : n ≤ n') (S : Step M w h M' w' h' (fun z => z = b + x.i ∨ within n n' z))
    (hfl : ∀ y ∈ past, listed.getD y.i true = false → Fl I O ops.toList b y t' h' log) (e : drawK I O ops.toList b xs t' h' n' log K = some r) :
    ∃ past' rest' t2 h2 log2, Inv val I O ops b K r M0 w0 h0 a0 (listed.setIfInBounds x.i true) past' rest' t2 h2 n' log2 (a.put x.o.dst v) w' M' := by
  have hxp : x ∈ planOf ops.toList := by rw [V.ord]; simp
  have hlt := lt_of_real (F.ok x hxp).1
  have hls : x.i < listed.size := by rw [V.size]; exact hlt
  have hord : planOf ops.toList = (past ++ [x]) ++ xs := by rw [V.ord]; simp
  have old : ∀ y : It, (listed.setIfInBounds x.i true).getD y.i true = false → listed.getD y.i true = false ∧ y.i ≠ x.i := fun y hy => by
    rw [getD_set hls] at hy
    by_cases q : y.i = x.i
    · rw [if_pos q] at hy; cases hy
    · rw [if_neg q] at hy; exact ⟨hy, q⟩
  have hxs : ∀ y ∈ xs, y.i ≠ x.i ∧ listed.getD y.i true = false ∧ findL y.i log = none ∧ y ∈ planOf ops.toList := fun y hy => by
    have p := (List.pairwise_cons.1 (List.pairwise_append.1 (V.ord ▸ F.pw)).2.1).1 y hy
    have := V.un y (by simp [hy])
    exact ⟨p.ne.symm, this.1, this.2, by rw [hord]; simp [hy]⟩
  obtain ⟨past', rest', t2, h2, log2, g1, g2, g3, g4, g5, g6, g7, g8, g9, g10, g11⟩ := phase (u := fun y => (listed.setIfInBounds x.i true).getD y.i true = false) (I := I) (O := O) (n := n') xs (past ++ [x]) (hord ▸ F.pw) (fun y hy => F.ok y (by rw [hord]; exact hy)) V.lg (fun y hy hu => by
    rcases List.mem_append.1 hy with hy | hy
    · exact hfl y hy (old y hu).1
    · rw [List.mem_singleton.1 hy] at hu; exact absurd rfl (old x hu).2) (fun y hy => (hxs y hy).2.2.1) e
  have hgh : ∀ y ∈ planOf ops.toList, (listed.setIfInBounds x.i true).getD y.i true = false → M' (b + y.i) = none := fun y hy hl => by
    obtain ⟨k1, k2⟩ := old y hl
    have k3 := V.gh y (by rw [← V.ord]; exact hy) k1
    have hyl := lt_of_real (F.ok y hy).1
    have hnn := V.nn
    cases hM : M' (b + y.i) with
    | none => rfl
    | some l =>
      rcases S.fresh _ l k3 hM with q | q
      · exact absurd (Nat.add_left_cancel q) k2
      · have := q.1; omega
  have hset : ∀ y ∈ xs, (listed.setIfInBounds x.i true).getD y.i true = false := fun y hy => by
    rw [getD_set hls, if_neg (hxs y hy).1]; exact (hxs y hy).2.1
  have hgo : ∀ q, M' q ≠ none → h2.get q = h'.get q := fun q hq => by
    rcases g8 q with k | ⟨y, hy, rfl⟩
    · exact k
    · exact absurd (hgh y (hxs y hy).2.2.2 (hset y hy)) hq
  have hnn := V.nn
  refine ⟨past', rest', t2, h2, log2, ⟨hord.trans g1, by simp [V.size], g2, g3, g4, g5, fun y hy => ⟨hset y (g10 y hy), g6 y hy⟩, fun k => ?_, HR_ghost H hgo (fun q c qc => by
    rcases g8 q with k | ⟨y, hy, rfl⟩
    · rw [k] at qc; exact H.top q c qc
    · have := lt_of_real (F.ok y (hxs y hy).2.2.2).1; have := V.nn; omega), fun y hy hl => hgh y (by rw [hord, g1]; exact hy) hl, by omega, ?_, put_tmps.1.trans V.tm, put_tmps.2.trans V.df, dn_set V hi hlt⟩⟩
  · rcases g7 k with q | ⟨y, hy, hyx, hk⟩
    · rw [q, ht', put_getD hsz]
      by_cases q2 : x.o.dst = some k
      · rw [if_pos q2, if_pos q2]; exact .inr hvr
      · rw [if_neg q2, if_neg q2]
        rcases V.er k with ⟨y, hy, hl, hk⟩ | hv
        · refine .inl ⟨y, g11 y (by simp [hy]), ?_, hk⟩
          rw [getD_set hls, if_neg]
          · exact hl
          · intro q3
            have := same_i F (by rw [V.ord]; exact List.mem_append_left _ hy) hxp q3
            rw [this] at hk; exact q2 hk
        · exact .inr (VRel_ext S.ext _ _ hv)
    · exact .inl ⟨y, hy, hset y hyx, hk⟩
  · refine Step_ghost (V.step.trans S (fun z q => ⟨q.1, by have := q.2; omega⟩) fun z q => ?_) hgo
    rcases q with rfl | q
    · exact ⟨by omega, by omega⟩
    · exact ⟨by have := q.1; omega, q.2⟩
end
end
end Go.Gh
