import Derived.Test.YtidododdhnbpkaaGreatDoorGhO6
import Derived.Laws.Small
set_option linter.unusedVariables false
set_option linter.unnecessarySimpa false
set_option linter.unusedSimpArgs false
namespace Go.Gh
open Go.RowKit
section
variable {P : Program} {I : Info} {O : Oracle} {val : Nat → UInt8} {a : Act} {o : Oper} {M : Mp} {w : World} {h : Heap} {t : Env} {nm n : Nat} {r : R}

theorem VRel_unit : VRel val M (.tup []) (.tuple #[]) := by simp only [VRel]; exact ⟨#[], rfl, by simp [VRelL]⟩
theorem ty1_some {ti : Nat → Option T} {tys : List Nat} {K : T → Option R} (e : ty1 ti tys K = some r) : ∃ ty rest T, tys = ty :: rest ∧ ti ty = some T ∧ K T = some r := by
  cases tys with
  | nil => cases e
  | cons ty rest => obtain ⟨T, hT, e⟩ := onSome_some (o := ti ty) e; exact ⟨ty, rest, T, rfl, hT, e⟩
theorem tys2_some {ti : Nat → Option T} {tys : List Nat} {K : T → T → Option R} (e : tys2 ti tys K = some r) : ∃ t1 t2 T1 T2, tys = [t1, t2] ∧ ti t1 = some T1 ∧ ti t2 = some T2 ∧ K T1 T2 = some r := by
  match tys, e with
  | [], e => cases e
  | [_], e => cases e
  | [t1, t2], e =>
    obtain ⟨T1, h1, e⟩ := onSome_some (o := ti t1) e
    obtain ⟨T2, h2, e⟩ := onSome_some (o := ti t2) e
    exact ⟨t1, t2, T1, T2, rfl, h1, h2, e⟩
  | _ :: _ :: _ :: _, e => cases e
theorem ifSliceStr_some {T : T} {k : Option R} (e : ifSliceStr T k = some r) : (T.kind = .slice ∨ T.kind = .str) ∧ k = some r := by
  unfold ifSliceStr at e
  cases h : T.kind <;> rw [h] at e <;> first | exact ⟨.inl rfl, e⟩ | exact ⟨.inr rfl, e⟩ | (change none = some r at e; cases e)

theorem op_copy {c : Call} {d1 d2 : D} {t1 : Nat} {rest : List Nat} {T : T} {K : D → Heap → Option R} (hv : Digits val) (H : HR val w M h n) (ho : o.op = .call c) (hc : c.callee = .builtin .copy) (hds : VRelL val M [d1, d2] (c.args.toList.map a.eval)) (hty : c.argTypes.toList = t1 :: rest)
    (hT : tOf P t1 = some T) (hk : T.kind = .slice) (e : copyK T h d1 d2 K = some r) : ∃ d h', K d h' = some r ∧ Goes P val a o M w h nm n d h' n := by
  simp only [VRelL] at hds
  obtain ⟨v1, _, he, hr1, v2, _, rfl, hr2, rfl⟩ := hds
  have hargs : c.args.map a.eval = #[v1, v2] := by apply Array.ext'; simpa using he
  have hty0 : c.argTypes[0]? = some t1 := by rw [← Array.getElem?_toList, hty]; rfl
  obtain ⟨el, hd⟩ := kind_slice hT hk
  obtain ⟨j, y, hj, hy, hys, hjp, hj64, hjb, ⟨hjb0, _⟩, hel, hez⟩ := slice_T hT hd
  unfold copyK at e
  replace e := cellsIn_some (P := P) hv H hr2 e; obtain ⟨ys, m, vs, e, hvs, hvl, hlen, hfirst⟩ := e
  have hinv : ∀ {v : Value} {w' : World}, (Builtin.copy_ c.argTypes o.type #[v1, v2]).run P w = .ok v w' → (execOp a.eval o).run P w = .ok (.value v) w' := fun q => by
    simp [execOp, ho, resolve, hc, hargs, invoke, builtin, q]
  cases d1 <;> simp only at e
  case nils =>
    simp only [VRel] at hr1
    have hf := hfirst 0 (Nat.zero_le _) w rfl
    refine ⟨_, h, e, Goes_val H (v := .int .i64 0) (hinv ?_) (by simp [VRel])⟩
    rw [hr1]
    rw [hel] at hf
    simp [Builtin.copy_, hty0, run_underlying hd, hlen, sizeOf, typeInfo, hj, hf, goInt]
  case sl st ob off len =>
    replace e := req_some e; obtain ⟨hst, e⟩ := e
    replace e := takeL_some _ _ _ e; obtain ⟨A, B, rfl, hA, e⟩ := e
    replace e := cellsOk_some e; obtain ⟨hok, e⟩ := e
    have hst := beq_true hst
    obtain ⟨vA, vB, rfl, hA', hB'⟩ := VRelL_append.1 hvs
    have lA := VRelL_length hA'
    simp only [VRel] at hr1
    obtain ⟨l, aa, cc, hl, hv1, q1, q2, q3, q4⟩ := hr1
    have hf := hfirst (Nat.min m len) (Nat.min_le_left _ _) w rfl
    have htake : (vA ++ vB).take (Nat.min m len * T.elem) = vA := by rw [← hst, List.take_append_of_le_length (by rw [lA, hA]; exact Nat.le_refl _), List.take_of_length_le (by rw [lA, hA]; exact Nat.le_refl _)]
    rw [htake, hel] at hf
    obtain ⟨h', e, H', S, run⟩ := store_cells (P := P) H hl hA' (fun v hv => by obtain ⟨d, hd, hrd⟩ := VRelL_mem hA' hv; exact cellOk_one (hok d hd) hrd) e
    refine ⟨_, h', e, fun next Q k => ?_⟩
    have haa : (storeCells (ad l.b aa) vA).run P w = .ok () (w.setCells l.b (l.base + off) vA) := by
      by_cases hz : cc = 0
      · have : vA = [] := List.eq_nil_of_length_eq_zero (by rw [lA, hA]; have : len = 0 := by omega
                                                            subst this; simp)
        subst this
        simp [storeCells, World.setCells]
      · rw [q4 hz]; exact run
    unfold Oper.wp
    rw [hinv (v := .int .i64 (Nat.min m len : Nat)) (w' := w.setCells l.b (l.base + off) vA) (by
      rw [hv1]
      simp [Builtin.copy_, hty0, run_underlying hd, hlen, sizeOf, typeInfo, hj, hf, haa, goInt])]
    exact k _ _ M H' (by simp only [VRel]; rfl) (S.weaken fun _ q => q.elim)
  all_goals cases e
theorem op_clear {c : Call} {d1 : D} {t1 : Nat} {rest : List Nat} {T : T} {K : D → Heap → Option R} (hv : Digits val) (H : HR val w M h n) (ho : o.op = .call c) (hc : c.callee = .builtin .clear) (hds : VRelL val M [d1] (c.args.toList.map a.eval)) (hty : c.argTypes.toList = t1 :: rest)
    (hT : tOf P t1 = some T) (hk : T.kind = .slice) (e : clearK T h d1 K = some r) : ∃ d h', K d h' = some r ∧ Goes P val a o M w h nm n d h' n := by
  simp only [VRelL] at hds
  obtain ⟨v1, _, he, hr1, rfl⟩ := hds
  have hargs : c.args.map a.eval = #[v1] := by apply Array.ext'; simpa using he
  have hty0 : c.argTypes[0]? = some t1 := by rw [← Array.getElem?_toList, hty]; rfl
  obtain ⟨el, hd⟩ := kind_slice hT hk
  obtain ⟨j, y, hj, hy, hys, hjp, hj64, hjb, ⟨hjb0, _⟩, hel, hez⟩ := slice_T hT hd
  have hinv : ∀ {v : Value} {w' : World}, (Builtin.clear_ c.argTypes o.type #[v1]).run P w = .ok v w' → (execOp a.eval o).run P w = .ok (.value v) w' := fun q => by
    simp [execOp, ho, resolve, hc, hargs, invoke, builtin, q]
  unfold clearK at e
  cases d1 <;> simp only at e
  case nils =>
    simp only [VRel] at hr1
    refine ⟨_, h, e, Goes_val H (v := .tuple #[]) (hinv ?_) VRel_unit⟩
    rw [hr1]
    simp [Builtin.clear_, hty0, run_underlying hd]
  case sl st ob off len =>
    replace e := req_some e; obtain ⟨hst, e⟩ := e
    rw [repL_eq] at e
    replace e := cellsOk_some e; obtain ⟨hok, e⟩ := e
    have hst := beq_true hst
    simp only [VRel] at hr1
    obtain ⟨l, aa, cc, hl, hv1, q1, q2, q3, q4⟩ := hr1
    have zc : VRelL val M (List.replicate len T.ezero).flatten ((List.replicate len y.cells.toList).flatten) := by
      rw [hez]; exact VRelL_rep (VRelL_dOf hv ..) _
    obtain ⟨h', e, H', S, run⟩ := store_cells (P := P) H hl zc (fun v hv => by obtain ⟨d, hd, hrd⟩ := VRelL_mem zc hv; exact cellOk_one (hok d hd) hrd) e
    have hz : (Builtin.zeroCells y.cells len).toList = (List.replicate len y.cells.toList).flatten := by
      unfold Builtin.zeroCells
      have := zeros_eq (len := len) hys hjp
      rw [← hys] at this
      exact this
    refine ⟨_, h', e, fun next Q k => ?_⟩
    have run' : (Builtin.clear_ c.argTypes o.type #[v1]).run P w = .ok (.tuple #[]) (w.setCells l.b (l.base + off) (List.replicate len y.cells.toList).flatten) := by
      rw [hv1]
      cases len with
      | zero => simp [Builtin.clear_, hty0, run_underlying hd, World.setCells]
      | succ len =>
        rw [← q4 (by omega)] at run ⊢
        generalize (List.replicate (len + 1) y.cells.toList).flatten = L at run hz ⊢
        simp [Builtin.clear_, hty0, run_underlying hd, zeroValue, typeInfo, hj, hy, hz, run]
    unfold Oper.wp
    rw [hinv run']
    exact k _ _ M H' VRel_unit (S.weaken fun _ q => q.elim)
  all_goals cases e
theorem op_builtin {c : Call} {b : Builtin} {ds : List D} {K : D → Heap → Option R} (hv : Digits val) (hI : TOk P I) (H : HR val w M h n) (hnm : nm < n) (hM : M nm = none) (ho : o.op = .call c) (hc : c.callee = .builtin b) (hds : VRelL val M ds (c.args.toList.map a.eval))
    (e : callB b I.ti c.argTypes.toList nm h ds K = some r) : ∃ d h', K d h' = some r ∧ Goes P val a o M w h nm n d h' n := by
  have two' : ∀ {k k' : IntKind} {p q : Int}, VRelL val M [.int k p, .int k' q] (c.args.toList.map a.eval) → c.args.map a.eval = #[.int k p, .int k' q] := fun q => by
    simp only [VRelL, VRel] at q
    obtain ⟨_, _, e1, rfl, _, _, rfl, rfl, rfl⟩ := q
    apply Array.ext'; simpa using e1
  cases b
  case len =>
    replace e := one_some e; obtain ⟨d, rfl, e⟩ := e
    replace e := ty1_some e; obtain ⟨ty, rest, T, hty, hT, e⟩ := e
    obtain ⟨d, e, g⟩ := op_len (K := fun d => K d h) hv H ho hc hds hty (hI _ _ hT) e
    exact ⟨d, h, e, g⟩
  case min =>
    replace e := two_some e; obtain ⟨x, y, rfl, e⟩ := e
    replace e := asInt_some e; obtain ⟨k, p, rfl, e⟩ := e
    replace e := asInt_some e; obtain ⟨k', q, rfl, e⟩ := e
    replace e := req_some e; obtain ⟨hk, e⟩ := e
    have := ikEq_true hk
    subst this
    have e' : K (.int k (if q < p then q else p)) h = some r := by
      rw [ltI_eq] at e
      by_cases hq : q < p
      · simpa [hq] using e
      · simpa [hq] using e
    refine ⟨_, h, e', Goes_val H (v := .int k (if q < p then q else p)) ?_ (by simp [VRel])⟩
    simp [execOp, ho, resolve, hc, two' hds, invoke, builtin, run_min_int2]
  case max =>
    replace e := two_some e; obtain ⟨x, y, rfl, e⟩ := e
    replace e := asInt_some e; obtain ⟨k, p, rfl, e⟩ := e
    replace e := asInt_some e; obtain ⟨k', q, rfl, e⟩ := e
    replace e := req_some e; obtain ⟨hk, e⟩ := e
    have := ikEq_true hk
    subst this
    have e' : K (.int k (if q > p then q else p)) h = some r := by
      rw [ltI_eq] at e
      by_cases hq : p < q
      · simpa [hq] using e
      · simpa [hq] using e
    refine ⟨_, h, e', Goes_val H (v := .int k (if q > p then q else p)) ?_ (by simp [VRel])⟩
    simp [execOp, ho, resolve, hc, two' hds, invoke, builtin, run_max_int2]
  case append =>
    replace e := two_some e; obtain ⟨x, y, rfl, e⟩ := e
    replace e := tys2_some e; obtain ⟨t1, t2, T1, T2, hty, hT1, hT2, e⟩ := e
    replace e := ifSlice_some e; obtain ⟨hk, e⟩ := e
    replace e := ifSliceStr_some e; obtain ⟨hk2, e⟩ := e
    exact op_append hv H hnm hM ho hc hds (by apply Array.ext'; simpa using hty) (hI _ _ hT1) hk (hk2.imp (fun q => kind_slice (hI _ _ hT2) q) (fun q => kind_str (hI _ _ hT2) q)) e
  case copy =>
    replace e := two_some e; obtain ⟨x, y, rfl, e⟩ := e
    replace e := ty1_some e; obtain ⟨ty, rest, T, hty, hT, e⟩ := e
    replace e := ifSlice_some e; obtain ⟨hk, e⟩ := e
    exact op_copy hv H ho hc hds hty (hI _ _ hT) hk e
  case clear =>
    replace e := one_some e; obtain ⟨x, rfl, e⟩ := e
    replace e := ty1_some e; obtain ⟨ty, rest, T, hty, hT, e⟩ := e
    replace e := ifSlice_some e; obtain ⟨hk, e⟩ := e
    exact op_clear hv H ho hc hds hty (hI _ _ hT) hk e
  all_goals (change none = some r at e; cases e)
end
end Go.Gh
