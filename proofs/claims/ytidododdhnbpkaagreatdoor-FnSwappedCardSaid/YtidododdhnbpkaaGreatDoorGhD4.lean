import Derived.Test.YtidododdhnbpkaaGreatDoorGhD3
/- A region whose order is left open comes to what the order of the plan comes to. -/
set_option linter.unusedVariables false
set_option linter.unusedSimpArgs false
namespace Go.Gh
open Go.RowKit
section
variable {P : Program} {val : Nat → UInt8} {I : Info} {O : Oracle} {all : List Oper} {b n : Nat} {r : R} {t t' : Env} {h h' : Heap} {log log' : Log} {x y : It}

/-- What has been found out of an operation that does nothing. -/
def Fl (I : Info) (O : Oracle) (all : List Oper) (b : Nat) (x : It) (t : Env) (h : Heap) (log : Log) : Prop :=
  x.cls ≠ .acts ∧ (((∀ K : Bool → Option R, wantK all x.o t K = K false) ∧ (∀ k, x.o.dst = some k → getE t k = .tup []) ∧ findL x.i log = none) ∨
  ((∀ K : Bool → Option R, wantK all x.o t K = K true) ∧ ∃ d, (∀ k, x.o.dst = some k → getE t k = d) ∧
    ((x.cls = .plain ∧ ∀ h' nm' n' K', evOp x.o.op I O t h' nm' n' K' = K' d h' n') ∨
     (x.cls = .reads ∧ Finds x.o.op I O t h d ∧ findL x.i log = some (.rd x.o d)) ∨
     (x.cls = .makes ∧ (∃ c, h.get (b + x.i) = some c ∧ ∀ h' n' K', evOp x.o.op I O t h' (b + x.i) n' K' = K' d (h'.put (b + x.i) (some c)) n') ∧ findL x.i log = some .nw))))
theorem Finds.agree {o : Oper} {d : D} (ha : Agree all o t t') (hh : ∀ q, h.get q ≠ none → h'.get q = h.get q) (f : Finds o.op I O t h d) : Finds o.op I O t' h' d := by
  obtain ⟨q, h1, h2⟩ := f
  refine ⟨q, fun z hz => by rw [hh z (h1 z hz)]; exact h1 z hz, fun h2' nm' n' K' H => ?_⟩
  rw [← ha.op]
  exact h2 h2' nm' n' K' fun z hz => (H z hz).trans (hh z (h1 z hz))
theorem Fl.keep (ha : Agree all x.o t t') (hd : ∀ k, x.o.dst = some k → getE t' k = getE t k) (hh : ∀ q, h.get q ≠ none → h'.get q = h.get q) (hl : findL x.i log' = findL x.i log) (f : Fl I O all b x t h log) : Fl I O all b x t' h' log' := by
  obtain ⟨f0, f⟩ := f
  refine ⟨f0, ?_⟩
  rcases f with ⟨f1, f2, f3⟩ | ⟨f1, d, f2, f3⟩
  · exact .inl ⟨fun K => by rw [← ha.want]; exact f1 K, fun k hk => (hd k hk).trans (f2 k hk), hl.trans f3⟩
  · refine .inr ⟨fun K => by rw [← ha.want]; exact f1 K, d, fun k hk => (hd k hk).trans (f2 k hk), ?_⟩
    rcases f3 with ⟨g1, g2⟩ | ⟨g1, g2, g3⟩ | ⟨g1, ⟨c, g2, g3⟩, g4⟩
    · exact .inl ⟨g1, fun h2 nm' n' K' => by rw [← ha.op]; exact g2 h2 nm' n' K'⟩
    · exact .inr (.inl ⟨g1, g2.agree ha hh, hl.trans g3⟩)
    · exact .inr (.inr ⟨g1, ⟨c, (hh _ (by rw [g2]; simp)).trans g2, fun h2 n' K' => by rw [← ha.op]; exact g3 h2 n' K'⟩, hl.trans g4⟩)
/-- What is remembered are readings. -/
def LogOk (I : Info) (log : Log) : Prop := ∀ i o d, findL i log = some (.rd o d) → classOf o.op = .reads ∧ ∃ (k : Option R) (r : R), readsOnly I o.op k = some r
theorem findL_cons (i j : Nat) (g : Lg) (log : Log) : findL i ((j, g) :: log) = if i = j then some g else findL i log := by
  simp only [findL]
  split
  · rename_i h; rw [if_pos (beq_true h)]
  · rename_i h; rw [if_neg (Nat.ne_of_beq_eq_false h)]
theorem reCheck_some {k : Option R} (hlog : LogOk I log) : ∀ {l : List Nat}, reCheck I O b t h h' log k l = some r → k = some r ∧ ∀ i ∈ l, (∀ o d, findL i log = some (.rd o d) → Finds o.op I O t h' d) ∧ (findL i log = some .nw → ∃ c, h.get (b + i) = some c ∧ h'.get (b + i) = some c)
  | [], e => ⟨e, by simp⟩
  | i :: l, e => by
    simp only [reCheck] at e
    cases hf : findL i log with
    | none =>
      rw [hf] at e
      obtain ⟨h1, h2⟩ := reCheck_some hlog e
      exact ⟨h1, by simp only [List.mem_cons]; rintro j (rfl | hj); exact ⟨fun o d q => by (rw [hf] at q; cases q), fun q => by (rw [hf] at q; cases q)⟩; exact h2 j hj⟩
    | some g =>
      rw [hf] at e
      cases g with
      | rd o d =>
        replace e : evOp o.op I O t h' (Nat.add b i) 0 (fun d' _ _ => req (eqV d d') (reCheck I O b t h h' log k l)) = some r := e
        obtain ⟨hc, k', r', hok⟩ := hlog i o d hf
        obtain ⟨d', e, hfi⟩ := float_reads (I := I) (k := some r) hc (by
          revert hok; generalize o.op = op; intro hok
          cases op <;> first | rfl | skip
          rename_i src dst x
          replace hok := onSome_some hok; obtain ⟨B, hB, hok⟩ := hok
          show (onSome (I.ti dst) fun B => noSlice B (some r)) = some r
          rw [hB]
          show noSlice B (some r) = some r
          unfold noSlice at hok ⊢
          cases hk : B.kind <;> rw [hk] at hok <;> first | rfl | cases hok) e
        obtain ⟨hdd, e⟩ := req_some e
        obtain ⟨h1, h2⟩ := reCheck_some hlog e
        refine ⟨h1, ?_⟩
        simp only [List.mem_cons]
        rintro j (rfl | hj)
        · exact ⟨fun o' d2 q => by (rw [hf] at q; cases q; rw [eqV_eq hdd]; exact hfi), fun q => by (rw [hf] at q; cases q)⟩
        · exact h2 j hj
      | nw =>
        replace e : (hget h (Nat.add b i) fun c => hget h' (Nat.add b i) fun c' => req (eqO c c') (reCheck I O b t h h' log k l)) = some r := e
        replace e := hget_some e; obtain ⟨c, hc, e⟩ := e
        replace e := hget_some e; obtain ⟨c', hc', e⟩ := e
        obtain ⟨hcc, e⟩ := req_some e
        obtain ⟨h1, h2⟩ := reCheck_some hlog e
        refine ⟨h1, ?_⟩
        simp only [List.mem_cons]
        rintro j (rfl | hj)
        · exact ⟨fun o' d2 q => by (rw [hf] at q; cases q), fun _ => ⟨c, hc, by rw [eqO_eq hcc]; exact hc'⟩⟩
        · exact h2 j hj
theorem putDst_some {dst : Option Tmp} {d : D} {K : Env → Option R} (e : putDst dst d t K = some r) : ∃ t', K t' = some r ∧ ∀ j, getE t' j = if dst = some j then d else getE t j := by
  cases dst with
  | none => exact ⟨t, e, fun j => by simp⟩
  | some k =>
    replace e : putE t k d K = some r := e
    rw [putE_eq] at e
    refine ⟨_, e, fun j => ?_⟩
    rw [getE_put]
    by_cases q : j = k
    · subst q; simp
    · rw [if_neg q, if_neg (fun q2 => q (by cases q2; rfl))]
theorem noneAt_some {q : Nat} {k : Option R} (e : noneAt h q k = some r) : h.get q = none ∧ k = some r := by
  unfold noneAt at e
  cases hq : h.get q with
  | none => rw [hq] at e; exact ⟨rfl, e⟩
  | some c => rw [hq] at e; cases e
/-- One that does nothing, in the order of the plan. -/
theorem float_step {K : DrawT} (hr : Real all x) (hok : itOk all x = true) (hc : x.cls ≠ .acts) (hlog : LogOk I log) (e : drawStep I O all x t h b n log K = some r) (hnew : findL x.i log = none) :
    ∃ t' h' log', K t' h' n log' = some r ∧ Fl I O all b x t' h' log' ∧ LogOk I log' ∧ (∀ j, getE t' j = getE t j ∨ x.o.dst = some j) ∧ (∀ q, h.get q ≠ none → h'.get q = h.get q) ∧ (∀ q, q ≠ b + x.i → h'.get q = h.get q) ∧ (∀ i, i ≠ x.i → findL i log' = findL i log) := by
  have hself := itOk_self hok
  have agr : ∀ {d : D} {t' : Env}, (∀ j, getE t' j = if x.o.dst = some j then d else getE t j) → Agree all x.o t t' := fun {d t'} H k hk => by
    rw [H, if_neg fun q => hself k q hk]
  have chg : ∀ {d : D} {t' : Env}, (∀ j, getE t' j = if x.o.dst = some j then d else getE t j) → ∀ j, getE t' j = getE t j ∨ x.o.dst = some j := fun {d t'} H j => by
    by_cases q : x.o.dst = some j
    · exact .inr q
    · rw [H, if_neg q]; exact .inl rfl
  have val : ∀ {d : D} {t' : Env}, (∀ j, getE t' j = if x.o.dst = some j then d else getE t j) → ∀ k, x.o.dst = some k → getE t' k = d := fun {d t'} H k hk => by rw [H, if_pos hk]
  unfold drawStep at e
  obtain ⟨v, e, hv⟩ := want_det _ e
  cases v with
  | false =>
    replace e : putDst x.o.dst (.tup []) t (fun t => K t h n log) = some r := e
    obtain ⟨t', e, ht'⟩ := putDst_some e
    exact ⟨t', h, log, e, ⟨hc, .inl ⟨fun K => by rw [← (agr ht').want]; exact hv K, val ht', hnew⟩⟩, hlog, chg ht', fun _ _ => rfl, fun _ _ => rfl, fun _ _ => rfl⟩
  | true =>
    replace e : dItem I O x t h b n log K = some r := e
    unfold dItem at e
    cases hcl : x.cls with
    | plain =>
      rw [hcl] at e
      replace e : evOp x.o.op I O t h (Nat.add b x.i) n (fun d h n => putDst x.o.dst d t fun t => K t h n log) = some r := e
      obtain ⟨d, e, hd⟩ := float_plain (by rw [← hr.2, hcl]) e
      obtain ⟨t', e, ht'⟩ := putDst_some e
      exact ⟨t', h, log, e, ⟨hc, .inr ⟨fun K => by rw [← (agr ht').want]; exact hv K, d, val ht', .inl ⟨hcl, fun h2 nm' n' K' => by rw [← (agr ht').op]; exact hd h2 nm' n' K'⟩⟩⟩, hlog, chg ht', fun _ _ => rfl, fun _ _ => rfl, fun _ _ => rfl⟩
    | reads =>
      rw [hcl] at e
      replace e : readsOnly I x.o.op (evOp x.o.op I O t h (Nat.add b x.i) n fun d h n => putDst x.o.dst d t fun t => K t h n ((x.i, .rd x.o d) :: log)) = some r := e
      have hcls : classOf x.o.op = .reads := by rw [← hr.2, hcl]
      have e2 : evOp x.o.op I O t h (Nat.add b x.i) n (fun d h n => putDst x.o.dst d t fun t => K t h n ((x.i, .rd x.o d) :: log)) = some r := by
        generalize evOp x.o.op I O t h (Nat.add b x.i) n (fun d h n => putDst x.o.dst d t fun t => K t h n ((x.i, .rd x.o d) :: log)) = k at e
        revert e; generalize x.o.op = op; intro e
        cases op <;> first | exact e | skip
        replace e := onSome_some e; obtain ⟨B, hB, e⟩ := e
        unfold noSlice at e
        cases hk : B.kind <;> rw [hk] at e <;> first | exact e | cases e
      obtain ⟨d, e3, hd⟩ := float_reads hcls e e2
      obtain ⟨t', e3, ht'⟩ := putDst_some e3
      refine ⟨t', h, _, e3, ⟨hc, .inr ⟨fun K => by rw [← (agr ht').want]; exact hv K, d, val ht', .inr (.inl ⟨hcl, hd.agree (agr ht') fun _ _ => rfl, by rw [findL_cons, if_pos rfl]⟩)⟩⟩, fun i o d' q => ?_, chg ht', fun _ _ => rfl, fun _ _ => rfl, fun i hi => by rw [findL_cons, if_neg hi]⟩
      rw [findL_cons] at q
      by_cases hi : i = x.i
      · rw [if_pos hi] at q; cases q; exact ⟨hcls, _, _, e⟩
      · rw [if_neg hi] at q; exact hlog i o d' q
    | makes =>
      rw [hcl] at e
      replace e : noneAt h (b + x.i) (evOp x.o.op I O t h (b + x.i) n fun d h n => putDst x.o.dst d t fun t => K t h n ((x.i, .nw) :: log)) = some r := e
      obtain ⟨hn, e⟩ := noneAt_some e
      obtain ⟨d, c, e, hd⟩ := float_makes (by rw [← hr.2, hcl]) e
      obtain ⟨t', e, ht'⟩ := putDst_some e
      refine ⟨t', _, _, e, ⟨hc, .inr ⟨fun K => by rw [← (agr ht').want]; exact hv K, d, val ht', .inr (.inr ⟨hcl, ⟨c, by rw [get_put, if_pos rfl], fun h2 n' K' => by rw [← (agr ht').op]; exact hd h2 n' K'⟩, by rw [findL_cons, if_pos rfl]⟩)⟩⟩, fun i o d' q => ?_, chg ht', fun q hq => ?_, fun q hq => by rw [get_put, if_neg hq], fun i hi => by rw [findL_cons, if_neg hi]⟩
      · rw [findL_cons] at q
        by_cases hi : i = x.i
        · rw [if_pos hi] at q; cases q
        · rw [if_neg hi] at q; exact hlog i o d' q
      · rw [get_put, if_neg]
        rintro rfl
        exact hq hn
    | acts => exact absurd hcl hc
    | bad => rw [hcl] at e; cases e
/-- From one that does something up to the next. -/
theorem phase {K : DrawT} {u : It → Prop} : ∀ (l past : List It) {t : Env} {h : Heap} {log : Log}, (past ++ l).Pairwise (Pair all) → (∀ x ∈ past ++ l, Real all x ∧ itOk all x = true) → LogOk I log → (∀ x ∈ past, u x → Fl I O all b x t h log) → (∀ x ∈ l, findL x.i log = none) →
    drawK I O all b l t h n log K = some r → ∃ past' l' t' h' log', past ++ l = past' ++ l' ∧ drawK I O all b l' t' h' n log' K = some r ∧ (l' = [] ∨ ∃ x xs, l' = x :: xs ∧ x.cls = .acts) ∧ LogOk I log' ∧ (∀ x ∈ past', u x → Fl I O all b x t' h' log') ∧ (∀ x ∈ l', findL x.i log' = none) ∧
      (∀ j, getE t' j = getE t j ∨ ∃ x ∈ past', x ∈ l ∧ x.o.dst = some j) ∧ (∀ q, h'.get q = h.get q ∨ ∃ x ∈ l, q = b + x.i) ∧ (∀ x ∈ past', x ∈ past ∨ x ∈ l) ∧ (∀ x ∈ l', x ∈ l) ∧ (∀ x ∈ past, x ∈ past')
  | [], past, t, h, log, hp, hr, hlog, hf, hl, e => ⟨past, [], t, h, log, rfl, e, .inl rfl, hlog, hf, by simp, fun _ => .inl rfl, fun _ => .inl rfl, fun _ q => .inl q, fun _ q => q, fun _ q => q⟩
  | x :: l, past, t, h, log, hp, hr, hlog, hf, hl, e => by
    by_cases hc : x.cls = .acts
    · exact ⟨past, x :: l, t, h, log, rfl, e, .inr ⟨x, l, rfl, hc⟩, hlog, hf, hl, fun _ => .inl rfl, fun _ => .inl rfl, fun _ q => .inl q, fun _ q => q, fun _ q => q⟩
    · replace e : drawStep I O all x t h b n log (fun t h n log => drawK I O all b l t h n log K) = some r := e
      obtain ⟨t', h', log', e, f1, f2, f3, f4, f5, f6⟩ := float_step (hr x (by simp)).1 (hr x (by simp)).2 hc hlog e (hl x (by simp))
      have hp' : ((past ++ [x]) ++ l).Pairwise (Pair all) := by simpa using hp
      obtain ⟨pA, pB, pC⟩ := List.pairwise_append.1 hp
      obtain ⟨pD, pE⟩ := List.pairwise_cons.1 pB
      obtain ⟨past', l', t2, h2, log2, g1, g2, g3, g4, g5, g6, g7, g8, g9, g10, g11⟩ := phase (K := K) (u := u) l (past ++ [x]) hp' (by simpa using hr) f2 (fun y hy hu => by
        rcases List.mem_append.1 hy with hy | hy
        · have pr := pC y hy x (by simp)
          refine (hf y hy hu).keep (fun k hk => ?_) (fun k hk => ?_) f4 (f6 _ pr.ne)
          · rcases f3 k with q | q
            · exact q.symm
            · exact absurd (pr.war k q hk).1 hc
          · rcases f3 k with q | q
            · exact q
            · exact absurd hk (pr.waw k q)
        · rw [List.mem_singleton.1 hy]; exact f1) (fun y hy => by rw [f6 _ (pD y hy).ne.symm]; exact hl y (by simp [hy])) e
      refine ⟨past', l', t2, h2, log2, by simpa using g1, g2, g3, g4, g5, g6, fun j => ?_, fun q => ?_, fun y hy => ?_, fun y hy => by simp [g10 y hy], fun y hy => g11 y (by simp [hy])⟩
      · rcases g7 j with q | ⟨y, q1, q2, q3⟩
        · rcases f3 j with q' | q'
          · exact .inl (q.trans q')
          · exact .inr ⟨x, g11 x (by simp), by simp, q'⟩
        · exact .inr ⟨y, q1, by simp [q2], q3⟩
      · rcases g8 q with q' | ⟨y, q1, q2⟩
        · by_cases hq : q = b + x.i
          · exact .inr ⟨x, by simp, hq⟩
          · exact .inl (q'.trans (f5 q hq))
        · exact .inr ⟨y, by simp [q1], q2⟩
      · rcases g9 y hy with q | q
        · rcases List.mem_append.1 q with q | q
          · exact .inl q
          · exact .inr (by simp [List.mem_singleton.1 q])
        · exact .inr (by simp [q])
end
end Go.Gh
