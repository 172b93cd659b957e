import Derived.Test.YtidododdhnbpkaaGreatDoorGhD5
set_option linter.unusedVariables false
set_option linter.unusedSimpArgs false
namespace Go.Gh
open Go.RowKit
section
variable {P : Program} {val : Nat → UInt8} {I : Info} {O : Oracle} {M M' : Mp} {w w' : World} {h h1 h2 : Heap} {n : Nat} {ops : Array Oper} {b : Nat} {K : DrawT} {r : R} {M0 : Mp} {w0 : World} {h0 : Heap} {a0 : Act} {listed : Array Bool} {past rest : List It} {t : Env} {log : Log} {a : Act}
def left (ops : Array Oper) (listed : Array Bool) : List Nat := (List.range ops.size).filter fun i => !listed.getD i true
theorem left_set {i : Nat} (hs : listed.size = ops.size) (hi : listed.getD i true = false) (hlt : i < ops.size) : (left ops (listed.setIfInBounds i true)).length < (left ops listed).length := by
  have h1 : left ops (listed.setIfInBounds i true) = (left ops listed).filter (fun j => j != i) := by
    unfold left
    rw [List.filter_filter]
    refine List.filter_congr fun j hj => ?_
    rw [getD_set (by rw [hs]; exact hlt)]
    by_cases q : j = i
    · simp [q]
    · simp [q]
  rw [h1]
  refine List.length_filter_lt_length_iff_exists.2 ⟨i, ?_, by simp⟩
  unfold left
  simp only [List.mem_filter, List.mem_range, hlt, true_and, hi, Bool.not_false]
theorem all_done (F : PlanF ops) (hs : listed.size = ops.size) (hr : Region.ready .any ops listed = []) : ∀ i, i < ops.size → listed.getD i true = true := fun i => by
  induction i using Nat.strongRecOn with
  | _ i ih =>
    intro hi
    cases hl : listed.getD i true with
    | true => rfl
    | false =>
      have : i ∈ Region.ready .any ops listed := mem_ready.2 ⟨hl, ops[i], Array.getElem?_eq_getElem hi, fun e he hb => by
        have hlt := F.edge i ops[i] (Array.getElem?_eq_getElem hi) e he hb
        rw [getD_lt (by rw [hs]; omega) false true]
        exact ih e.on hlt (by omega)⟩
      rw [hr] at this; cases this
theorem inv_end {Q : Exit → Act → World → Prop} {K' : Env → Heap → Nat → Option R} (F : PlanF ops) (V : Inv val I O ops b (fun t h n _ => K' t h n) r M0 w0 h0 a0 listed past rest t h n log a w M) (hall : ∀ i, i < ops.size → listed.getD i true = true)
    (k : ∀ t' h' n' a' w' M', K' t' h' n' = some r → After val M0 w0 h0 b a0 (within b n') t' h' n' a' w' M' → Q .normal a' w') : Q .normal a w := by
  have hrest : rest = [] := by
    cases hr : rest with
    | nil => rfl
    | cons x xs =>
      have h1 := V.un x (by rw [hr]; simp)
      have h2 := hall x.i (lt_of_real (F.ok x (by rw [V.ord, hr]; simp)).1)
      rw [h1.1] at h2; cases h2
  have e := V.run
  rw [hrest] at e
  refine k t h n a w M e ⟨?_, V.hr, fun j => ?_, V.tm, V.df, V.step⟩
  · have := V.nn; omega
  · refine (V.er j).resolve_left fun ⟨x, hx, hl, _⟩ => ?_
    have h2 := hall x.i (lt_of_real (F.ok x (by rw [V.ord]; simp [hx])).1)
    rw [hl] at h2; cases h2
theorem draw_any {Q : Exit → Act → World → Prop} {K' : Env → Heap → Nat → Option R} (hv : Digits val) (hI : TOk P I) (hP : PrimOk P val I) (hO : OSound P val O) (F : PlanF ops) (hdst : ∀ o ∈ ops.toList, ∀ k, o.dst = some k → k < a0.tmps.size)
    (k : ∀ t' h' n' a' w' M', K' t' h' n' = some r → After val M0 w0 h0 b a0 (within b n') t' h' n' a' w' M' → Q .normal a' w') :
    ∀ (fuel : Nat) {listed : Array Bool} {past rest : List It} {t : Env} {h : Heap} {n : Nat} {log : Log} {a : Act} {w : World} {M : Mp}, (left ops listed).length ≤ fuel → Inv val I O ops b (fun t h n _ => K' t h n) r M0 w0 h0 a0 listed past rest t h n log a w M → wpAny P .any ops Q fuel listed a w
  | 0, listed, past, rest, t, h, n, log, a, w, M, hf, V => by
    have hall : ∀ i, i < ops.size → listed.getD i true = true := fun i hi => by
      cases hl : listed.getD i true with
      | true => rfl
      | false =>
        have : i ∈ left ops listed := by unfold left; simp only [List.mem_filter, List.mem_range, hi, hl, Bool.not_false, and_self]
        have hz : left ops listed = [] := List.length_eq_zero_iff.1 (Nat.le_zero.1 hf)
        rw [hz] at this; cases this
    refine ⟨?_, inv_end F V hall k⟩
    refine List.eq_nil_iff_forall_not_mem.2 fun i hi => ?_
    obtain ⟨g1, o, g2, _⟩ := mem_ready.1 hi
    have := hall i (Array.getElem?_eq_some_iff.1 g2).1
    rw [g1] at this; cases this
  | fuel + 1, listed, past, rest, t, h, n, log, a, w, M, hf, V => by
    refine ⟨fun hr => inv_end F V (all_done F V.size hr) k, fun i hi => ?_⟩
    obtain ⟨hun, o, ho, hedges⟩ := mem_ready.1 hi
    have hlt := (Array.getElem?_eq_some_iff.1 ho).1
    have hless : (left ops (listed.setIfInBounds i true)).length ≤ fuel := by have := left_set V.size hun hlt; omega
    obtain ⟨x, hxp, rfl⟩ := F.place i hlt
    have hreal := (F.ok x hxp).1
    have hxo : o = x.o := by
      have := hreal.1
      rw [Array.getElem?_toList, ho] at this
      cases this; rfl
    subst hxo
    have hE := seen_er V
    have hA := seen_agree F V hxp hi
    have hsz : ∀ k, x.o.dst = some k → k < a.tmps.size := fun k hk => by
      rw [V.tm]; exact hdst x.o (List.mem_of_getElem? hreal.1) k hk
    have hnm : b + x.i < n := by have := V.nn; omega
    have hM : M (b + x.i) = none := V.gh x (by rw [← V.ord]; exact hxp) hun
    unfold wpOp
    rw [ho]
    show if Region.wanted x.o (yielded ops a.tmps) = true then _ else _
    rw [V.ord] at hxp
    rcases List.mem_append.1 hxp with hx | hx
    · -- one that does nothing
      obtain ⟨hc, hfl⟩ := V.fl x hx hun
      rcases hfl with ⟨hw, hd, _⟩ | ⟨hw, d, hd, hk⟩
      · have e0 : wantK ops.toList x.o (seen listed past t) (fun v => match v with | true => none | false => some r) = some r := by rw [← hA.want, hw]
        obtain ⟨v, e0, hwv⟩ := wantK_some hE e0
        cases v with
        | true => cases e0
        | false =>
          rw [hwv, if_neg (by simp)]
          exact draw_any hv hI hP hO F hdst k fuel hless (turn_float (d := .tup []) F V hx hi hd hsz VRel_unit V.hr (fun _ => rfl) (Step.refl ..))
      · have e0 : wantK ops.toList x.o (seen listed past t) (fun v => match v with | false => none | true => some r) = some r := by rw [← hA.want, hw]
        obtain ⟨v, e0, hwv⟩ := wantK_some hE e0
        cases v with
        | false => cases e0
        | true =>
          rw [hwv, if_pos rfl]
          have key : ∃ h2, (∀ q, h.get q = h2.get q) ∧ evOp x.o.op I O (seen listed past t) h (b + x.i) n (fun d h n => some (.val d, h, n)) = some (.val d, h2, n) := by
            rcases hk with ⟨_, hk⟩ | ⟨_, ⟨q, _, hk⟩, _⟩ | ⟨_, ⟨c, hc2, hk⟩, _⟩
            · exact ⟨h, fun _ => rfl, by rw [← hA.op]; exact hk _ _ _ _⟩
            · exact ⟨h, fun _ => rfl, by rw [← hA.op]; exact hk _ _ _ _ fun _ _ => rfl⟩
            · refine ⟨h.put (b + x.i) (some c), fun q => ?_, by rw [← hA.op]; exact hk _ _ _⟩
              rw [get_put]
              by_cases q2 : q = b + x.i
              · rw [if_pos q2, q2, hc2]
              · rw [if_neg q2]
          obtain ⟨h2, hh, e2⟩ := key
          refine .inl (evOp_sound hv hI hP hO V.hr hE hnm hM e2 _ _ fun d' h' n' v w' M' e' hle H' hvr S => ?_)
          cases e'
          exact draw_any hv hI hP hO F hdst k fuel hless (turn_float F V hx hi hd hsz hvr H' hh S)
    · -- one that does something: it is the next
      have hhead : ∃ xs, rest = x :: xs ∧ x.cls = .acts := by
        rcases V.head with q | ⟨y, ys, q, hy⟩
        · rw [q] at hx; cases hx
        · rw [q] at hx
          rcases List.mem_cons.1 hx with rfl | hx
          · exact ⟨ys, q, hy⟩
          · exfalso
            have hpw := F.pw
            rw [V.ord, q] at hpw
            have p := (List.pairwise_cons.1 (List.pairwise_append.1 hpw).2.1).1 x hx
            have h1 := ready_bits V hi _ (p.acts hy)
            have h2 := (V.un y (by rw [q]; simp)).1
            have hyl := lt_of_real (F.ok y (by rw [V.ord, q]; simp)).1
            rw [getD_lt (by rw [V.size]; exact hyl) false true, h2] at h1
            cases h1
      obtain ⟨xs, rfl, hcl⟩ := hhead
      have e := V.run
      replace e : drawStep I O ops.toList x t h b n log (fun t h n log => drawK I O ops.toList b xs t h n log fun t h n _ => K' t h n) = some r := e
      unfold drawStep at e
      rw [hA.want] at e
      obtain ⟨v, e, hwv⟩ := wantK_some hE e
      -- what is known of those that are yet to come
      have hpair : ∀ y ∈ past, Pair ops.toList y x := fun y hy => by
        have hpw := F.pw
        rw [V.ord] at hpw
        exact (List.pairwise_append.1 hpw).2.2 y hy x (by simp)
      have hnot : ∀ y ∈ past, listed.getD y.i true = false → bitAt (nthL 0 (masks [] ops.toList) x.i) y.i ≠ true := fun y hy hl q => by
        have h1 := ready_bits V hi _ q
        have hyl := lt_of_real (F.ok y (by rw [V.ord]; simp [hy])).1
        rw [getD_lt (by rw [V.size]; exact hyl) false true, hl] at h1
        cases h1
      have hagr : ∀ {d : D} {t' : Env}, (∀ j, getE t' j = if x.o.dst = some j then d else getE t j) → ∀ y ∈ past, listed.getD y.i true = false → Agree ops.toList y.o t t' ∧ ∀ k, y.o.dst = some k → getE t' k = getE t k := fun {d t'} ht y hy hl => by
        refine ⟨fun j hj => ?_, fun j hj => ?_⟩
        · rw [ht, if_neg]
          intro q
          exact hnot y hy hl ((hpair y hy).war j q hj).2
        · rw [ht, if_neg]
          intro q
          exact (hpair y hy).waw j q hj
      cases v with
      | false =>
        replace e : putDst x.o.dst (.tup []) t (fun t => drawK I O ops.toList b xs t h n log fun t h n _ => K' t h n) = some r := e
        obtain ⟨t', e, ht'⟩ := putDst_some e
        rw [hwv, if_neg (by simp)]
        obtain ⟨past', rest', t2, h2, log2, V2⟩ := turn_act F V hi (v := undef) ht' hsz VRel_unit V.hr (Nat.le_refl _) (Step.refl ..) (fun y hy hl => (V.fl y hy hl).keep (hagr ht' y hy hl).1 (hagr ht' y hy hl).2 (fun _ _ => rfl) rfl) e
        exact draw_any hv hI hP hO F hdst k fuel hless V2
      | true =>
        replace e : dItem I O x t h b n log (fun t h n log => drawK I O ops.toList b xs t h n log fun t h n _ => K' t h n) = some r := e
        unfold dItem at e
        rw [hcl] at e
        replace e : evOp x.o.op I O t h (b + x.i) n (fun d h' n => reCheck I O b t h h' log (putDst x.o.dst d t fun t => drawK I O ops.toList b xs t h' n log fun t h n _ => K' t h n) x.rel) = some r := e
        rw [hA.op] at e
        rw [hwv, if_pos rfl]
        refine .inl (evOp_sound hv hI hP hO V.hr hE hnm hM e _ _ fun d h' n' v w' M' e hle H' hvr S => ?_)
        obtain ⟨e, hre⟩ := reCheck_some V.lg e
        obtain ⟨t', e, ht'⟩ := putDst_some e
        obtain ⟨past', rest', t2, h2, log2, V2⟩ := turn_act F V hi (v := v) ht' hsz hvr H' hle S (fun y hy hl => by
          have hfl := V.fl y hy hl
          have ag := hagr ht' y hy hl
          have hrel := (hpair y hy).rel hcl
          obtain ⟨f0, f⟩ := hfl
          refine ⟨f0, ?_⟩
          rcases f with ⟨f1, f2, f3⟩ | ⟨f1, dy, f2, f3⟩
          · exact .inl ⟨fun K => by rw [← ag.1.want]; exact f1 K, fun k hk => (ag.2 k hk).trans (f2 k hk), f3⟩
          · refine .inr ⟨fun K => by rw [← ag.1.want]; exact f1 K, dy, fun k hk => (ag.2 k hk).trans (f2 k hk), ?_⟩
            have hin : y.cls = .reads ∨ y.cls = .makes → y.i ∈ x.rel := fun q => by
              rcases hrel with q2 | q2 | q2 | q2
              · rw [q2] at q; rcases q with q | q <;> cases q
              · rw [q2] at q; rcases q with q | q <;> cases q
              · exact absurd q2 (hnot y hy hl)
              · exact q2
            rcases f3 with ⟨g1, g2⟩ | ⟨g1, g2, g3⟩ | ⟨g1, ⟨c, g2, g3⟩, g4⟩
            · exact .inl ⟨g1, fun h2 nm' n' K' => by rw [← ag.1.op]; exact g2 h2 nm' n' K'⟩
            · exact .inr (.inl ⟨g1, ((hre y.i (hin (.inl g1))).1 _ _ g3).agree ag.1 (fun _ _ => rfl), g3⟩)
            · obtain ⟨c', k1, k2⟩ := (hre y.i (hin (.inr g1))).2 g4
              rw [g2] at k1; cases k1
              exact .inr (.inr ⟨g1, ⟨c, k2, fun h2 n' K' => by rw [← ag.1.op]; exact g3 h2 n' K'⟩, g4⟩)) e
        exact draw_any hv hI hP hO F hdst k fuel hless V2
theorem draw_ok (hm : P.follows .mixedOrders = true) (hv : Digits val) (hI : TOk P I) (hP : PrimOk P val I) (hO : OSound P val O) : DrawOk P val I O := by
  intro ops M w h t n a K r hplan hdst H E e Q k tt
  have F := planF_of hplan
  simp only [Region.schedule, hm, Bool.true_or, if_true]
  refine wpAny_sound ops.size tt _ a _ ?_
  replace e : drawK I O ops.toList n (planOf ops.toList) t h (n + ops.toList.length) [] (fun t h n _ => K t h n) = some r := e
  rw [Array.length_toList] at e
  obtain ⟨past, rest, t2, h2, log2, g1, g2, g3, g4, g5, g6, g7, g8, g9, g10, g11⟩ := phase (u := fun _ => True) (planOf ops.toList) [] (by simpa using F.pw) (by simpa using F.ok) (fun i o d q => by cases q) (by simp) (fun _ _ => rfl) e
  have hgo : ∀ q, M q ≠ none → h2.get q = h.get q := fun q hq => by
    rcases g8 q with k | ⟨y, hy, rfl⟩
    · exact k
    · exact absurd (H.none (by omega)) hq
  have hno : ∀ i, i < ops.size → (Array.replicate ops.size false).getD i true = false := fun i hi => by simp [Array.getD, hi]
  have V : Inv val I O ops n (fun t h n _ => K t h n) r M { w with drawn := w.drawn + 1 } h a (Array.replicate ops.size false) past rest t2 h2 (n + ops.size) log2 a { w with drawn := w.drawn + 1 } M :=
    ⟨by simpa using g1, by simp, g2, g3, g4, fun x hx _ => g5 x hx trivial, fun x hx => ⟨hno _ (lt_of_real (F.ok x (g10 x hx)).1), g6 x hx⟩, fun j => by
      rcases g7 j with q | ⟨y, q1, q2, q3⟩
      · rw [q]; exact .inr (E j)
      · exact .inl ⟨y, q1, hno _ (lt_of_real (F.ok y q2).1), q3⟩,
      HR_ghost ((drawn_hr H).mono (by omega)) hgo (fun q c qc => by
        rcases g8 q with k | ⟨y, hy, rfl⟩
        · rw [k] at qc; have := H.top q c qc; omega
        · have := lt_of_real (F.ok y hy).1; omega), fun x _ _ => H.none (by omega), Nat.le_refl _, Step_ghost (Step.refl ..) hgo, rfl, rfl, fun i hi => by
        by_cases q : i < ops.size
        · simp [Array.getD, q] at hi
        · simp [Array.getD, q] at hi⟩
  refine draw_any (w0 := { w with drawn := w.drawn + 1 }) hv hI hP hO F hdst (fun t' h' n' a' w' M' e' A => k t' h' n' a' w' M' e' ⟨A.le, A.hr, A.er, A.size, A.defers, ⟨A.step.ext, A.step.fresh, A.step.os, A.step.size, A.step.frame⟩⟩) ops.size ?_ V
  unfold left
  exact Nat.le_trans (List.length_filter_le _ _) (by simp)
end
end Go.Gh
