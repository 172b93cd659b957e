import Derived.Test.YtidododdhnbpkaaGreatDoorGhO5
set_option linter.unusedVariables false
set_option linter.unnecessarySimpa false
set_option linter.unusedSimpArgs false
namespace Go.Gh
open Go.RowKit
section
variable {P : Program} {I : Info} {O : Oracle} {val : Nat → UInt8} {a : Act} {o : Oper} {M : Mp} {w : World} {h : Heap} {t : Env} {nm n : Nat} {r : R}

theorem cellsIn_some (hv : Digits val) (H : HR val w M h n) {st : Nat} {d : D} {v : Value} {K : List D → Nat → Option R} (hr : VRel val M d v) (e : cellsIn h st d K = some r) :
    ∃ ys m vs, K ys m = some r ∧ VRelL val M ys vs ∧ vs.length = m * st ∧ (Builtin.lenOf v).run P w = .ok m w ∧ ∀ k, k ≤ m → ∀ w' : World, w'.heap = w.heap → (Builtin.firstCells st k v).run P w' = .ok (vs.take (k * st)).toArray w' := by
  cases d
  case str s =>
    replace e := req_some e; obtain ⟨h1, e⟩ := e
    rw [mapL_eq] at e
    have h1 := beq_true h1
    subst h1
    simp only [VRel] at hr
    subst hr
    refine ⟨_, _, s.map fun c => .int .u8 (val c).toNat, e, VRelL_of (by simp) fun i d v g1 g2 => ?_, by simp, by simp [Builtin.lenOf, size_mk], fun k hk w' hw => ?_⟩
    · simp only [List.getElem?_map, Option.map_eq_some_iff] at g1 g2
      obtain ⟨c, g1, rfl⟩ := g1
      obtain ⟨c', g2, rfl⟩ := g2
      rw [g1] at g2; cases g2
      exact cellOfCode_rel hv c
    · simp only [Builtin.firstCells, bytes_extract]
      simp [Function.comp_def]
  case nils =>
    simp only [VRel] at hr
    subst hr
    exact ⟨[], 0, [], e, by simp [VRelL], by simp, by simp [Builtin.lenOf], fun k hk w' hw => by simp [run_firstCells_none]⟩
  case sl st' ob off len =>
    replace e := req_some e; obtain ⟨h1, e⟩ := e
    replace e := hget_some e; obtain ⟨c, hc, e⟩ := e
    replace e := asCells_some e; obtain ⟨ds, rfl, e⟩ := e
    replace e := cut_some e; obtain ⟨A, B, C, hABC, hA, hB, e⟩ := e
    have h1 := beq_true h1
    subst h1
    simp only [VRel] at hr
    obtain ⟨l, aa, cc, hl, rfl, q1, q2, q3, q4⟩ := hr
    obtain ⟨vs, k1, k2, k3⟩ := cells_read (H.obj _ _ _ hc hl) hABC
    refine ⟨B, len, vs, e, k1, by rw [k2, hB]; rfl, by simp [Builtin.lenOf], fun k hk w' hw => ?_⟩
    have hcell : ∀ x, w'.cell? x = w.cell? x := fun x => by unfold World.cell?; rw [hw]
    have hvl : vs.length = len * st' := by rw [k2, hB]; rfl
    have hle : k * st' ≤ len * st' := Nat.mul_le_mul_right _ hk
    by_cases hz : cc = 0
    · have : k = 0 := by omega
      subst this
      exact run_firstCells_some (P := P) w' st' 0 _ len cc (vs.take (0 * st')) (by simp) (by simp)
    · rw [q4 hz]
      refine run_firstCells_some (P := P) w' st' k _ len cc (vs.take (k * st')) (by rw [List.length_take]; omega) fun j x hj => ?_
      rw [hcell, ad_add, ← hA]
      exact k3 j x (by rw [List.getElem?_take] at hj; split at hj; exact hj; cases hj)
  all_goals (change none = some r at e; cases e)

theorem op_append {c : Call} {d1 d2 : D} {t1 t2 : Nat} {T : T} {K : D → Heap → Option R} (hv : Digits val) (H : HR val w M h n) (hnm : nm < n) (hM : M nm = none) (ho : o.op = .call c) (hc : c.callee = .builtin .append) (hds : VRelL val M [d1, d2] (c.args.toList.map a.eval)) (hty : c.argTypes = #[t1, t2])
    (hT : tOf P t1 = some T) (hk : T.kind = .slice) (hu : (∃ e', P.underlying t2 = some (.slice e')) ∨ P.underlying t2 = some .string) (e : (cellsIn h T.elem d2 fun ys m => appendK T nm h d1 ys m K) = some r) : ∃ d h', K d h' = some r ∧ Goes P val a o M w h nm n d h' n := by
  simp only [VRelL] at hds
  obtain ⟨v1, _, he, hr1, v2, _, rfl, hr2, rfl⟩ := hds
  have hargs : c.args.map a.eval = #[v1, v2] := by apply Array.ext'; simpa using he
  obtain ⟨el, hd⟩ := kind_slice hT hk
  obtain ⟨j, y, hj, hy, hys, hjp, hj64, hjb, ⟨hjb0, _⟩, hel, hez⟩ := slice_T hT hd
  replace e := cellsIn_some (P := P) hv H hr2 e; obtain ⟨ys, m, vs, e, hvs, hvl, hlen, hfirst⟩ := e
  have hfirst' : ∀ w' : World, w'.heap = w.heap → (Builtin.firstCells j.size m v2).run P w' = .ok vs.toArray w' := fun w' hw => by
    have := hfirst m (Nat.le_refl _) w' hw
    rwa [← hvl, List.take_of_length_le (Nat.le_refl _), hel] at this
  have hinv : ∀ {v : Value} {w' : World}, (Builtin.append_ #[t1, t2] o.type #[v1, v2]).run P w = .ok v w' → (execOp a.eval o).run P w = .ok (.value v) w' := fun q => by
    simp [execOp, ho, resolve, hc, hargs, hty, invoke, builtin, q]
  have hyl := VRelL_length hvs
  have h48 : ∀ k, k ≤ maxLenHere → k * j.bytes ≤ 140737488355328 := fun k hk => by
    have : k * j.bytes ≤ maxLenHere * 2048 := Nat.mul_le_mul hk hjb
    unfold maxLenHere at this; omega
  have hdrew : w.drew.heap = w.heap ∧ w.drew.os = w.os ∧ w.drew.tape = w.tape ∧ w.drew.output = w.output := ⟨rfl, rfl, rfl, rfl⟩
  cases d1
  case nils =>
    simp only [VRel] at hr1
    cases m with
    | zero =>
      refine ⟨_, h, e, Goes_val H (v := .slice none 0 0) (hinv ?_) (by simp [VRel])⟩
      rw [hr1]
      exact run_append_stays t1 t2 _ el j hd hj hu hlen (hfirst' w rfl) (Nat.le_refl _) rfl
    | succ m =>
      replace e := req_some e; obtain ⟨hle, e⟩ := e
      rw [hput_eq] at e
      have hle := ble_true hle
      have g := run_append_grows (ty := o.type) (olds := []) t1 t2 el j y hd hj hy hu hlen (hfirst' w.drew rfl) (base := none) (sLen := 0) (sCap := 0) (by simp [run_firstCells_none]) (by omega) (by have := h48 _ hle; simpa using this) hjb0
      simp only [Nat.zero_add] at g
      have hge := grownCap_ge w (m + 1) 0 el
      generalize hcap' : grownCap w (m + 1) 0 el = cap' at *
      obtain ⟨arr, harr⟩ : ∃ arr, arr = ([] : List Value).toArray ++ vs.toArray ++ Builtin.zeroCells y.cells (cap' - (m + 1)) := ⟨_, rfl⟩
      rw [← harr] at g
      have hsz : arr.size = cap' * T.elem := by
        have e1 : (m + 1) * j.size + (cap' - (m + 1)) * j.size = cap' * j.size := by rw [← Nat.add_mul]; congr 1; omega
        rw [harr]
        simp only [Array.size_append, List.size_toArray, size_zeroCells, hys, hvl, hel, List.length_nil]
        omega
      refine ⟨_, _, e, Goes_cells (w0 := w.drew) (vs := vs) (spare := (Builtin.zeroCells y.cells (cap' - (m + 1))).toList) H hnm hM hdrew (hinv (by rw [hr1]; exact g)) (.inl rfl) (by rw [harr]; simp) hvs fun M' q => ?_⟩
      simp only [VRel]
      exact ⟨_, 0, cap', q, rfl, hge, by omega, by show 0 + cap' * T.elem ≤ arr.size; omega, fun _ => rfl⟩
  case sl st ob off len =>
    simp only [VRel] at hr1
    obtain ⟨l, aa, cc, hl, hv1, q1, q2, q3, q4⟩ := hr1
    cases m with
    | zero =>
      have hvs0 : vs = [] := List.eq_nil_of_length_eq_zero (by rw [hvl]; simp)
      refine ⟨_, h, e, Goes_val H (v := .slice (some (ad l.b aa)) len cc) (hinv ?_) (by simp only [VRel]; exact ⟨l, aa, cc, hl, rfl, q1, q2, q3, q4⟩)⟩
      rw [hv1]
      have := run_append_stays (P := P) (w := w) (w' := w) t1 t2 o.type el j hd hj hu hlen (hfirst' w rfl) (base := some (ad l.b aa)) (sLen := len) (sCap := cc) (by omega) (by simp only; rw [hvs0]; rfl)
      simpa using this
    | succ m =>
      replace e := req_some e; obtain ⟨hcc, e⟩ := e
      replace e := cellsOk_some e; obtain ⟨hok, e⟩ := e
      replace e := hget_some e; obtain ⟨cob, hcob, e⟩ := e
      replace e := asCells_some e; obtain ⟨ds, rfl, e⟩ := e
      replace e := cut_some e; obtain ⟨A, B, C, hABC, hA, hB, e⟩ := e
      rw [catL_eq, hdel_eq, hput_eq] at e
      simp only [Bool.and_eq_true] at hcc
      have hst := beq_true hcc.1
      have hle := ble_true hcc.2
      simp only [Nat.mul_eq, Nat.add_eq, Nat.succ_eq_add_one] at hB hle e
      obtain ⟨o1, o2, o3⟩ := H.obj _ _ _ hcob hl
      obtain ⟨olds, k1, k2, k3⟩ := cells_read (H.obj _ _ _ hcob hl) hABC
      rw [hA] at k3
      have hol : olds.length = len * st := by rw [k2, hB]
      have hlb := H.bound _ _ hl
      refine ⟨_, _, e, fun next Q kk => ?_⟩
      by_cases hroom : len + (m + 1) ≤ cc
      · -- in its place
        have haa := q4 (by omega)
        have e1 : (len + (m + 1)) * st = len * st + (m + 1) * st := Nat.add_mul ..
        have e2 : (len + (m + 1)) * st ≤ cc * st := Nat.mul_le_mul_right _ hroom
        rw [← hst] at hvl
        have hvl' : vs.length = (m + 1) * st := hvl
        have hmine : ∀ i, i < vs.length → ∃ v, Mine w l.b (aa + len * st + i) v := fun i hi => by
          have := o2 (off + len * st + i) (by omega)
          rwa [show l.base + (off + len * st + i) = aa + len * st + i by omega] at this
        have h1 : ∀ v ∈ vs, v.oneCell' = true := fun v hv => by obtain ⟨d, hd, hrd⟩ := VRelL_mem hvs hv; exact cellOk_one (hok d hd) hrd
        have st' := run_storeCells_cells (P := P) l.b (aa + len * st) vs 0 w (fun i hi => by obtain ⟨v, hv⟩ := hmine i hi; rw [Nat.add_zero]; exact Option.isSome_iff_exists.2 ⟨v, hv.1⟩) (fun i hi => by obtain ⟨v, hv⟩ := hmine i hi; rw [Nat.add_zero]; exact hv.2) h1
        have run := run_append_stays (P := P) (w := w) (w' := w.setCells l.b (aa + len * st) vs) t1 t2 o.type el j hd hj hu hlen (hfirst' w rfl) (base := some (ad l.b aa)) (sLen := len) (sCap := cc) hroom (by show (storeCells ((ad l.b aa).add (len * j.size)) vs).run P w = _; rw [ad_add, ← hel, ← hst]; exact st')
        obtain ⟨f1, f2, f3, f4, f5, f6⟩ := setCells_facts l.b vs (aa + len * st) w
        have hin := World.cell?_setCells_in l.b vs (aa + len * st) w (fun i hi => by obtain ⟨v, hv⟩ := hmine i hi; exact Option.isSome_iff_exists.2 ⟨v, hv.1⟩)
        have hout : ∀ i, i < len * st → (w.setCells l.b (aa + len * st) vs).cell? (ad l.b (aa + i)) = w.cell? (ad l.b (aa + i)) := fun i hi => World.cell?_setCells_out l.b vs (aa + len * st) w _ (fun _ _ => by show aa + i < aa + len * st ∨ _ ≤ aa + i; omega)
        obtain ⟨M', m1, H', S⟩ := HR_move H (w' := w.setCells l.b (aa + len * st) vs) (c' := .cells (B ++ ys)) (l' := ⟨l.b, aa, cc * st⟩) hcob hl hnm hM (.inl rfl) (by show l.b < _; rw [f4]; exact hlb) ⟨f1, f2, f3⟩ (Nat.le_of_eq f4.symm) (fun b _ hb => f5 b hb) (fun M' ext hM' => by
          refine ⟨by show (B ++ ys).length ≤ cc * st; simp; omega, fun i hi => ?_, fun i d hd => ?_⟩
          · have hi : i < cc * st := hi
            show ∃ v, Mine _ l.b (aa + i) v
            by_cases q : len * st ≤ i ∧ i < len * st + vs.length
            · have := hin (i - len * st) (by omega)
              rw [show aa + len * st + (i - len * st) = aa + i by omega] at this
              obtain ⟨v, hv⟩ := hmine (i - len * st) (by omega)
              rw [show aa + len * st + (i - len * st) = aa + i by omega] at hv
              exact ⟨_, this, (f6 _).trans hv.2⟩
            · obtain ⟨v, hv⟩ := o2 (off + i) (by omega)
              rw [show l.base + (off + i) = aa + i by omega] at hv
              exact ⟨v, (World.cell?_setCells_out l.b vs (aa + len * st) w _ (fun _ _ => by show aa + i < aa + len * st ∨ _ ≤ aa + i; omega)).trans hv.1, (f6 _).trans hv.2⟩
          · show ∃ v, World.cell? _ (ad l.b (aa + i)) = some v ∧ _
            by_cases q : i < B.length
            · rw [List.getElem?_append_left q] at hd
              obtain ⟨v, g1, g2⟩ := VRelL_get k1 hd
              refine ⟨v, (hout i (by omega)).trans ?_, VRel_ext ext _ _ g2⟩
              have := k3 i v g1
              rwa [← haa] at this
            · rw [List.getElem?_append_right (by omega)] at hd
              obtain ⟨v, g1, g2⟩ := VRelL_get hvs hd
              have hlt := (List.getElem?_eq_some_iff.1 g1).1
              have := hin (i - B.length) hlt
              rw [show aa + len * st + (i - B.length) = aa + i by omega] at this
              rw [List.getElem?_eq_getElem hlt] at g1
              cases g1
              exact ⟨_, this, VRel_ext ext _ _ g2⟩)
        unfold Oper.wp
        rw [hinv (by rw [hv1]; exact run)]
        refine kk _ _ M' H' ?_ (S.weaken fun x q => .inl q)
        simp only [VRel]
        exact ⟨_, aa, cc, m1, rfl, hroom, q2, by simp, fun _ => by simp⟩
      · -- at a new place
        have hold : (Builtin.firstCells j.size len (.slice (some (ad l.b aa)) len cc)).run P w.drew = .ok olds.toArray w.drew := by
          by_cases hz : cc = 0
          · have hl0 : len = 0 := by omega
            subst hl0
            have : olds = [] := List.eq_nil_of_length_eq_zero (by simpa using hol)
            subst this
            exact run_firstCells_some (P := P) w.drew j.size 0 _ 0 cc [] (by simp) (by simp)
          · rw [q4 hz]
            exact run_firstCells_some (P := P) w.drew j.size len _ len cc olds (by rw [← hel, ← hst]; exact hol) fun i x hi => by rw [ad_add]; exact k3 i x hi
        have run := run_append_grows (ty := o.type) (olds := olds) t1 t2 el j y hd hj hy hu hlen (hfirst' w.drew rfl) (base := some (ad l.b aa)) hold (by omega) (h48 _ hle) hjb0
        generalize hcap' : grownCap w (len + (m + 1)) cc el = cap' at *
        have hge : len + (m + 1) ≤ cap' := hcap' ▸ grownCap_ge w (len + (m + 1)) cc el
        generalize harr : olds.toArray ++ vs.toArray ++ Builtin.zeroCells y.cells (cap' - (len + (m + 1))) = arr at *
        have harrl : arr.toList = (olds ++ vs) ++ (Builtin.zeroCells y.cells (cap' - (len + (m + 1)))).toList := by rw [← harr]; simp
        have hasz : arr.size = cap' * st := by
          rw [← harr]
          simp only [Array.size_append, List.size_toArray, size_zeroCells, hys, hvl, hol, ← hel, ← hst, ← Nat.add_mul]
          congr 1; omega
        obtain ⟨f1, f2, f3, f4⟩ := alloc_facts w.drew arr el (0, 0)
        rw [hdrew.1] at f2 f3 f4
        have hmine : ∀ i v, arr[i]? = some v → Mine (w.drew.alloc (.cells arr el (0, 0))) w.heap.size (0 + i) v := fun i v hi => by rw [Nat.zero_add]; exact mine_alloc w.drew arr el (0, 0) i v hi (.inl rfl)
        have hyl2 : ys.length = vs.length := by omega
        obtain ⟨M', m1, H', S⟩ := HR_move H (w' := w.drew.alloc (.cells arr el (0, 0))) (c' := .cells (B ++ ys)) (l' := ⟨w.heap.size, 0, arr.size⟩) hcob hl hnm hM (.inr (Nat.le_refl _)) (by show w.heap.size < _; omega) ⟨rfl, rfl, rfl⟩ f2 (fun b hb _ => f3 b hb) (fun M' ext hM' => by
          have hall : VRelL val M (B ++ ys) (olds ++ vs) := VRelL_append.2 ⟨_, _, rfl, k1, hvs⟩
          have hl2 := VRelL_length hall
          have hsz2 : arr.size = (olds ++ vs).length + (Builtin.zeroCells y.cells (cap' - (len + (m + 1)))).toList.length := by rw [← Array.length_toList, harrl, List.length_append]
          refine ⟨by show (B ++ ys).length ≤ arr.size; omega, fun i hi => ⟨_, hmine i _ (Array.getElem?_eq_getElem hi)⟩, fun i d hd => ?_⟩
          obtain ⟨v, g1, g2⟩ := VRelL_get hall hd
          refine ⟨v, (hmine i v ?_).1, VRel_ext ext _ _ g2⟩
          rw [← Array.getElem?_toList, harrl, List.getElem?_append_left (List.getElem?_eq_some_iff.1 g1).1]; exact g1)
        unfold Oper.wp
        rw [hinv (by rw [hv1]; exact run)]
        refine kk _ _ M' H' ?_ (S.weaken fun x q => .inl q)
        simp only [VRel]
        exact ⟨_, 0, cap', m1, rfl, hge, q2, by show 0 + cap' * st ≤ arr.size; omega, fun _ => rfl⟩
  all_goals (change none = some r at e; cases e)
end
end Go.Gh
