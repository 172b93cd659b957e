import Derived.Test.YtidododdhnbpkaaGreatDoorGhO4
import Derived.ChangeMaps3
set_option linter.unusedVariables false
set_option linter.unnecessarySimpa false
set_option linter.unusedSimpArgs false
namespace Go.Gh
open Go.RowKit
section
variable {P : Program} {I : Info} {O : Oracle} {val : Nat → UInt8} {a : Act} {o : Oper} {M : Mp} {w : World} {h : Heap} {t : Env} {nm n : Nat} {r : R} {K : D → Heap → Nat → Option R}
/-- What 'fill' does with one part. -/
theorem fold_set : ∀ (vs A B C : List Value) (off j : Nat), A.length = off + j → B.length = vs.length →
    ((vs.zipIdx j).foldl (fun (cs : Array Value) (x : Value × Nat) => cs.setIfInBounds (off + x.2) x.1) (A ++ B ++ C).toArray) = (A ++ vs ++ C).toArray
  | [], A, B, C, off, j, hA, hB => by
    have : B = [] := List.eq_nil_of_length_eq_zero hB
    subst this; simp
  | v :: vs, A, [], C, off, j, hA, hB => by simp at hB
  | v :: vs, A, b :: B, C, off, j, hA, hB => by
    simp only [List.zipIdx_cons, List.foldl_cons]
    have e : ((A ++ b :: B ++ C).toArray.setIfInBounds (off + j) v) = ((A ++ [v]) ++ B ++ C).toArray := by
      apply Array.ext'
      simp only [Array.toList_setIfInBounds, List.append_assoc, List.cons_append, List.nil_append]
      rw [← hA, List.set_append_right _ _ (by omega)]
      simp
    rw [e, fold_set vs (A ++ [v]) B C off (j + 1) (by simp; omega) (by simpa using hB)]
    simp
theorem fill_step {place : Nat → Option (Nat × Nat)} {i off size : Nat} {v : Value} {rest : List (Nat × Value)} {A B C : List Value} (hp : place i = some (off, size)) (hv : v.cells.size = size) (hA : A.length = off) (hB : B.length = size) :
    Instr.fill place (A ++ B ++ C).toArray ((i, v) :: rest) = Instr.fill place (A ++ v.cells.toList ++ C).toArray rest := by
  have h1 : ¬ (v.cells.size ≠ size || decide (off + v.cells.size > (A ++ B ++ C).toArray.size)) = true := by
    simp only [List.size_toArray, List.length_append, hv, ne_eq, not_true_eq_false, decide_false, Bool.false_or, decide_eq_true_eq]; omega
  simp only [Instr.fill, hp]
  rw [if_neg h1]
  congr 1
  have := fold_set v.cells.toList A B C off 0 (by omega) (by simp [hv, hB])
  rw [← this, ← Array.foldl_toList]
  congr 1
  simp

theorem mapM_tot {α β : Type} {f : α → Option β} (d : β) : ∀ {l : List α}, (∀ x ∈ l, ∃ y, f x = some y) → l.mapM f = some (l.map fun x => (f x).getD d)
  | [], _ => rfl
  | x :: l, h => by
    obtain ⟨y, hy⟩ := h x (by simp)
    simp [List.mapM_cons, hy, mapM_tot d (l := l) (fun x hx => h x (by simp [hx]))]
theorem flatten_len {α : Type} : ∀ (rows : List (List α)) (st : Nat), (∀ r ∈ rows, r.length = st) → rows.flatten.length = rows.length * st
  | [], st, _ => by simp
  | r :: rs, st, h => by
    simp only [List.flatten_cons, List.length_append, List.length_cons, flatten_len rs st (fun x hx => h x (by simp [hx])), h r (by simp), Nat.succ_mul]; omega
theorem zeros_eq {z : Array Value} {size len : Nat} (hz : z.size = size) (hp : 0 < size) : ((Array.range (len * size)).map (fun i => z[i % z.size]!)).toList = (List.replicate len z.toList).flatten := by
  subst hz
  apply List.ext_getElem?
  intro i
  simp only [Array.toList_map, Array.toList_range, List.getElem?_map]
  by_cases hi : i < len * z.size
  · rw [List.getElem?_range hi]
    have key : ∀ (len i : Nat), i < len * z.size → ((List.replicate len z.toList).flatten)[i]? = z.toList[i % z.size]? := by
      intro len
      induction len with
      | zero => intro i h; simp at h
      | succ len ih =>
        intro i h
        simp only [List.replicate_succ, List.flatten_cons]
        by_cases hlt : i < z.size
        · rw [List.getElem?_append_left (by simpa using hlt), Nat.mod_eq_of_lt hlt]
        · rw [List.getElem?_append_right (by simpa using Nat.le_of_not_lt hlt), Array.length_toList, ih (i - z.size) (by rw [Nat.succ_mul] at h; omega)]
          congr 1
          rw [Nat.mod_eq_sub_mod (a := i) (by omega)]
    rw [key len i hi]
    have hm : i % z.size < z.size := Nat.mod_lt _ hp
    simp [hm]
  · rw [List.getElem?_eq_none (by simpa using Nat.le_of_not_lt hi), List.getElem?_eq_none]
    · rfl
    · rw [flatten_len _ z.size (fun x hx => by rw [List.eq_of_mem_replicate hx]; simp)]; simpa using Nat.le_of_not_lt hi

theorem run_append_stays {w' : World} (t u ty e : TypeId) (i : TypeInfo) (ht : P.underlying t = some (.slice e)) (hi : P.info? e = some i) (hu : (∃ e', P.underlying u = some (.slice e')) ∨ P.underlying u = some .string)
    {y : Value} {k : Nat} {news : List Value} (hlen : (Builtin.lenOf y).run P w = .ok k w) (hfirst : (Builtin.firstCells i.size k y).run P w = .ok news.toArray w)
    {base : Option Addr} {sLen sCap : Nat} (hroom : sLen + k ≤ sCap) (hst : match base with | some b => (storeCells (b.add (sLen * i.size)) news).run P w = .ok () w' | none => w' = w) :
    (Builtin.append_ #[t, u] ty #[.slice base sLen sCap, y]).run P w = .ok (.slice base (sLen + k) sCap) w' := by
  rcases hu with ⟨e', hu⟩ | hu <;> cases base with
  | none =>
    simp only at hst
    subst hst
    simp [Builtin.append_, run_underlying ht, run_underlying hu, sizeOf, typeInfo, hi, hlen, hroom, hfirst]
  | some b =>
    simp only at hst
    simp [Builtin.append_, run_underlying ht, run_underlying hu, sizeOf, typeInfo, hi, hlen, hroom, hfirst, hst]
theorem run_append_grows (t u ty e : TypeId) (i : TypeInfo) (z : Value) (ht : P.underlying t = some (.slice e)) (hi : P.info? e = some i) (hz : i.zero = some z) (hu : (∃ e', P.underlying u = some (.slice e')) ∨ P.underlying u = some .string)
    {y : Value} {k : Nat} {news olds : List Value} (hlen : (Builtin.lenOf y).run P w = .ok k w) (hfirst : (Builtin.firstCells i.size k y).run P w.drew = .ok news.toArray w.drew)
    {base : Option Addr} {sLen sCap : Nat} (hold : (Builtin.firstCells i.size sLen (.slice base sLen sCap)).run P w.drew = .ok olds.toArray w.drew) (hg : sCap < sLen + k)
    (h48 : (sLen + k) * i.bytes ≤ 140737488355328) (hb : 0 < i.bytes) :
    (Builtin.append_ #[t, u] ty #[.slice base sLen sCap, y]).run P w = .ok (.slice (some ⟨w.heap.size, 0, none⟩) (sLen + k) (grownCap w (sLen + k) sCap e))
        (w.drew.alloc (.cells (olds.toArray ++ news.toArray ++ Builtin.zeroCells z.cells (grownCap w (sLen + k) sCap e - (sLen + k))) e)) := by
  have hn : ¬ (sLen + k ≤ sCap) := by omega
  have hfit := growslice_fits (old := sCap) hg h48
  have h48' : ¬ (281474976710656 < Builtin.nextslicecap (sLen + k) sCap * i.bytes) := by omega
  have hle : sLen + k ≤ (sLen + k) * i.bytes := Nat.le_mul_of_pos_right _ hb
  have h63' : ¬ (9223372036854775807 < ((sLen : Int) + (k : Int))) := by omega
  rcases hu with ⟨e', hu⟩ | hu <;>
    simp [Builtin.append_, run_underlying ht, run_underlying hu, sizeOf, typeInfo, zeroValue, hi, hz, hlen, hn, h63', h48', Question.forced, hfirst, hold, newRow, grownCap, ← Array.append_assoc]


/-- Parts of a struct, or elements. -/
theorem place_step {cells : List D} {cs : List Value} {d : D} {v : Value} {off size i : Nat} {place : Nat → Option (Nat × Nat)} {rest : List (Nat × Value)} {K : List D → Option R} (hp : place i = some (off, size)) (hc : VRelL val M cells cs) (hv1 : VRel val M d v)
    (e : cellsK d (fun c => req (Nat.beq c.length size) (splice off cells c K)) = some r) : ∃ cells' cs', K cells' = some r ∧ VRelL val M cells' cs' ∧ cs'.length = cs.length ∧ Instr.fill place cs.toArray ((i, v) :: rest) = Instr.fill place cs'.toArray rest := by
  replace e := cellsK_some hv1 e; obtain ⟨c, e, hcc, hl, _⟩ := e
  replace e := req_some e; obtain ⟨hsz, e⟩ := e
  replace e := splice_some _ _ _ _ e; obtain ⟨A, B, C, rfl, hA, hB, e⟩ := e
  obtain ⟨vAB, vC, rfl, hAB, hC⟩ := VRelL_append.1 hc
  obtain ⟨vA, vB, rfl, hA', hB'⟩ := VRelL_append.1 hAB
  have lA := VRelL_length hA'
  have lB := VRelL_length hB'
  have hsz := beq_true hsz
  refine ⟨A ++ c ++ C, vA ++ v.cells.toList ++ vC, e, VRelL_append.2 ⟨_, _, rfl, VRelL_append.2 ⟨_, _, rfl, hA', hcc⟩, hC⟩, by simp; omega, ?_⟩
  exact fill_step hp (by rw [← hl, hsz]) (by omega) (by omega)
theorem placeParts_some {offs : List (Nat × Nat × Bool)} {place : Nat → Option (Nat × Nat)} (hpl : ∀ (i : Nat) p, offs[i]? = some p → place i = some (p.1, p.2.1)) : ∀ (l : List (Nat × D)) (vs : List Value) (cells : List D) (cs : List Value) (K : List D → Option R),
    VRelL val M cells cs → VRelL val M (l.map (·.2)) vs → placeParts offs l cells K = some r → ∃ c cs', K c = some r ∧ Instr.fill place cs.toArray ((l.map (·.1)).zip vs) = some cs'.toArray ∧ VRelL val M c cs' ∧ cs'.length = cs.length
  | [], vs, cells, cs, K, hc, hv, e => ⟨cells, cs, e, by simp [Instr.fill], hc, rfl⟩
  | x :: l, vs, cells, cs, K, hc, hv, e => by
    simp only [List.map_cons, VRelL] at hv
    obtain ⟨v, vs', rfl, hv1, hv2⟩ := hv
    replace e : onSome offs[x.1]? (fun p => cellsK x.2 fun c => req (Nat.beq c.length p.2.1) (splice p.1 cells c fun cells => placeParts offs l cells K)) = some r := e
    replace e := onSome_some e; obtain ⟨p, hp, e⟩ := e
    obtain ⟨cells', cs', e, k1, k2, k3⟩ := place_step (rest := (l.map (·.1)).zip vs') (hpl _ _ hp) hc hv1 e
    obtain ⟨c, cs2, e, f1, f2, f3⟩ := placeParts_some hpl l vs' cells' cs' K k1 hv2 e
    exact ⟨c, cs2, e, by simp only [List.map_cons, List.zip_cons_cons]; rw [k3]; exact f1, f2, by omega⟩
theorem placeElems_some {st : Nat} : ∀ (l : List (Nat × D)) (vs : List Value) (cells : List D) (cs : List Value) (K : List D → Option R),
    VRelL val M cells cs → VRelL val M (l.map (·.2)) vs → placeElems st l cells K = some r → ∃ c cs', K c = some r ∧ Instr.fill (fun i => some (i * st, st)) cs.toArray ((l.map (·.1)).zip vs) = some cs'.toArray ∧ VRelL val M c cs' ∧ cs'.length = cs.length
  | [], vs, cells, cs, K, hc, hv, e => ⟨cells, cs, e, by simp [Instr.fill], hc, rfl⟩
  | x :: l, vs, cells, cs, K, hc, hv, e => by
    simp only [List.map_cons, VRelL] at hv
    obtain ⟨v, vs', rfl, hv1, hv2⟩ := hv
    replace e : cellsK x.2 (fun c => req (Nat.beq c.length st) (splice (Nat.mul x.1 st) cells c fun cells => placeElems st l cells K)) = some r := e
    obtain ⟨cells', cs', e, k1, k2, k3⟩ := place_step (place := fun i => some (i * st, st)) (i := x.1) (rest := (l.map (·.1)).zip vs') rfl hc hv1 e
    obtain ⟨c, cs2, e, f1, f2, f3⟩ := placeElems_some l vs' cells' cs' K k1 hv2 e
    exact ⟨c, cs2, e, by simp only [List.map_cons, List.zip_cons_cons]; rw [k3]; exact f1, f2, by omega⟩
theorem parts_zip {ps : Array (Nat × Operand)} {l : List (Nat × D)} (hl : l.map (·.1) = ps.toList.map (·.1)) : (ps.map fun x => (x.1, a.eval x.2)).toList = (l.map (·.1)).zip (ps.toList.map fun x => a.eval x.2) := by
  rw [hl, Array.toList_map]
  clear hl
  induction ps.toList with
  | nil => rfl
  | cons x xs ih => simp [ih]
theorem op_build {ty : Nat} {ps : Array (Nat × Operand)} (hv : Digits val) (hI : TOk P I) (H : HR val w M h n) (E : ER val M t a.tmps) (ho : o.op = .build ty ps) (e : evBuild ty ps I O t h nm n K = some r) : ∃ d h', K d h' n = some r ∧ Goes P val a o M w h nm n d h' n := by
  replace e := onSome_some e; obtain ⟨T, hT, e⟩ := e
  replace e := ifStruct_some e; obtain ⟨hk, e⟩ := e
  replace e := parts_some hv E e; obtain ⟨l, e, hl, hps⟩ := e
  obtain ⟨i, ds, z, hi, hd, hz, hsz, h1, h2, hm⟩ := tOf_base (hI ty T hT)
  have zc : VRelL val M T.zero z.cells.toList := by rw [h2]; exact VRelL_dOf hv ..
  obtain ⟨fs, hd'⟩ := kind_struct (hI ty T hT) hk
  rw [hd] at hd'
  cases hd'
  obtain ⟨hkind, ⟨c0, hc0⟩, hoffs, hcmp, hinfo⟩ := hm
  have hpl : fs.toList.mapM (fun f => (P.info? f.type).map fun i => (f.offset, i.size)) = some (fs.toList.map fun f => (f.offset, ((P.info? f.type).map (·.size)).getD 0)) := by
    rw [mapM_tot (0, 0) (fun f hf => ?_)]
    · congr 1
      apply List.map_congr_left
      intro f hf
      obtain ⟨j, hj⟩ := Option.isSome_iff_exists.1 (List.all_eq_true.1 hinfo.1 f hf)
      simp [hj]
    · obtain ⟨j, hj⟩ := Option.isSome_iff_exists.1 (List.all_eq_true.1 hinfo.1 f hf)
      exact ⟨_, by simp [hj]; rfl⟩
  obtain ⟨c, cs', e', f1, f2, f3⟩ := placeParts_some (place := ((fs.toList.map fun f => (f.offset, ((P.info? f.type).map (·.size)).getD 0)).toArray[·]?)) (fun i p hp => by
    rw [hoffs] at hp
    simp only [offsOf, List.getElem?_map, Option.map_eq_some_iff] at hp
    obtain ⟨f, hf, rfl⟩ := hp
    simp only [List.getElem?_toArray, List.getElem?_map, hf, Option.map_some]) l _ T.zero z.cells.toList _ zc hps e
  refine ⟨_, h, e', Goes_val H (v := .agg cs'.toArray) ?_ (by simp only [VRel]; exact ⟨_, rfl, by simpa using f2⟩)⟩
  have hb := run_build (P := P) w ty (ps.map fun x => (x.1, a.eval x.2)) cs'.toArray (by
    simp only [Program.built, hi, hd, hz, hpl]
    rw [← f1]
    congr 1
    exact parts_zip hl)
  simp [execOp, ho, hb]
theorem op_buildSlice {ty len : Nat} {ps : Array (Nat × Operand)} (hv : Digits val) (hI : TOk P I) (H : HR val w M h n) (E : ER val M t a.tmps) (hnm : nm < n) (hM : M nm = none) (ho : o.op = .buildSlice ty len ps) (e : evBuildSlice ty len ps I O t h nm n K = some r) :
    ∃ d h', K d h' n = some r ∧ Goes P val a o M w h nm n d h' n := by
  replace e := onSome_some e; obtain ⟨T, hT, e⟩ := e
  replace e := ifSlice_some e; obtain ⟨hk, e⟩ := e
  replace e := req_some e; obtain ⟨hlen, e⟩ := e
  replace e := parts_some hv E e; obtain ⟨l, e, hl, hps⟩ := e
  rw [repL_eq] at e
  obtain ⟨el, hd⟩ := kind_slice (hI ty T hT) hk
  obtain ⟨j, y, hj, hy, hys, hjp, hj64, hjb, hjb0, hel, hez⟩ := slice_T (hI ty T hT) hd
  have hlen := ble_true hlen
  have zc : VRelL val M (List.replicate len T.ezero).flatten ((List.replicate len y.cells.toList).flatten) := by
    rw [hez]; exact VRelL_rep (VRelL_dOf hv ..) _
  obtain ⟨c, cs', e, f1, f2, f3⟩ := placeElems_some l _ _ _ _ zc hps e
  rw [hput_eq] at e
  have hcl : cs'.length = len * j.size := by
    rw [f3, flatten_len _ j.size (fun x hx => by rw [List.eq_of_mem_replicate hx]; simpa using hys), List.length_replicate]
  refine ⟨_, _, e, Goes_cells (w0 := w) (cs := cs'.toArray) (ty := el) (fr := (0, 0)) (vs := cs') (spare := []) H hnm hM ⟨rfl, rfl, rfl, rfl⟩ (v := .slice (some ⟨w.heap.size, 0, none⟩) len len) ?_ (.inl rfl) (by simp) f2 fun M' q => ?_⟩
  · have hparts := parts_zip (a := a) hl
    have h24 : ¬ (16777216 < len * j.size) := by rw [← hel]; simp only [Nat.mul_eq] at hlen; omega
    by_cases h0 : len * j.size = 0
    · have hl0 : len = 0 := by rcases Nat.mul_eq_zero.1 h0 with h | h <;> omega
      subst hl0
      have hfill : Instr.fill (fun i => some (i * j.size, j.size)) (Array.map (fun _ => (default : Value)) (Array.range 0)) (List.map (fun x => (x.1, a.eval x.2)) ps.toList) = some cs'.toArray := by
        rw [← f1, hel, ← hparts, Array.toList_map]
        congr 1
        apply Array.ext'
        simp
      simp [execOp, ho, Instr.buildSlice, run_underlying hd, sizeOf, typeInfo, hj, newRow]
      rw [hfill]
      simp
    · have hfill : Instr.fill (fun i => some (i * j.size, j.size)) (Array.map (fun x => y.cells[x % y.cells.size]!) (Array.range (len * j.size))) (List.map (fun x => (x.1, a.eval x.2)) ps.toList) = some cs'.toArray := by
        rw [← f1, hel, ← hparts, Array.toList_map]
        congr 1
        apply Array.ext'
        rw [zeros_eq hys hjp]
      have h0' : ¬ (len = 0 ∨ j.size = 0) := by rintro (h | h) <;> simp [h] at h0
      simp [execOp, ho, Instr.buildSlice, run_underlying hd, sizeOf, typeInfo, hj, newRow, zeroValue, hy, h24, h0', h0]
      rw [hfill]
      simp
  · simp only [VRel]
    exact ⟨_, 0, len, q, rfl, Nat.le_refl _, by omega, by simp [hcl, hel], fun _ => rfl⟩
theorem op_makeSlice {ty : Nat} {l c : Operand} (hv : Digits val) (hI : TOk P I) (H : HR val w M h n) (E : ER val M t a.tmps) (hnm : nm < n) (hM : M nm = none) (ho : o.op = .makeSlice ty l c) (e : evMakeSlice ty l c I O t h nm n K = some r) :
    ∃ d h', K d h' n = some r ∧ Goes P val a o M w h nm n d h' n := by
  replace e := onSome_some e; obtain ⟨T, hT, e⟩ := e
  replace e := opd_some hv E e; obtain ⟨dl, e, hl⟩ := e
  replace e := opd_some hv E e; obtain ⟨dc, e, hc⟩ := e
  replace e := asInt_some e; obtain ⟨k, p, rfl, e⟩ := e
  replace e := asInt_some e; obtain ⟨k', q, rfl, e⟩ := e
  replace e := ifSlice_some e; obtain ⟨hk, e⟩ := e
  replace e := req_some e; obtain ⟨hcc, e⟩ := e
  rw [repL_eq, hput_eq] at e
  simp only [Bool.and_eq_true] at hcc
  have h0 := leI_true hcc.1
  have h1 := leI_true hcc.2.1
  have h2 := leI_true hcc.2.2
  simp only [VRel] at hl hc
  obtain ⟨el, hd⟩ := kind_slice (hI ty T hT) hk
  obtain ⟨j, y, hj, hy, hys, hjp, hj64, hjb, hjb0, hel, hez⟩ := slice_T (hI ty T hT) hd
  have run := run_make (P := P) w ty el j y hd hj hy k k' p q h0 h1 (by
    have : (j.bytes : Int) * q ≤ 2048 * q := Int.mul_le_mul_of_nonneg_right (by omega) (by omega)
    omega) (by omega)
  have zc : VRelL val M (List.replicate p.toNat T.ezero).flatten ((List.replicate p.toNat y.cells.toList).flatten) := by
    rw [hez]; exact VRelL_rep (VRelL_dOf hv ..) _
  have hcs : (madeCells y.cells (q.toNat * j.size)).toList = (List.replicate p.toNat y.cells.toList).flatten ++ (List.replicate (q.toNat - p.toNat) y.cells.toList).flatten := by
    rw [madeCells, zeros_eq hys hjp, ← List.flatten_append, List.replicate_append_replicate]
    congr 2; omega
  refine ⟨_, _, e, Goes_cells (w0 := w) (cs := madeCells y.cells (q.toNat * j.size)) (ty := el) (fr := (0, 0)) H hnm hM ⟨rfl, rfl, rfl, rfl⟩ (v := .slice (some ⟨w.heap.size, 0, none⟩) p.toNat q.toNat) ?_ (.inl rfl) hcs zc fun M' hq => ?_⟩
  · simp only [execOp, ho, hl, hc]; simp [run]
  · simp only [VRel]
    exact ⟨_, 0, q.toNat, hq, rfl, by omega, by omega, by simp [size_madeCells, hel], fun _ => rfl⟩
end
end Go.Gh
