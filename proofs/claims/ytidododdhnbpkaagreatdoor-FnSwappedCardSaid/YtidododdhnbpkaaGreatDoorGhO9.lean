import Derived.Test.YtidododdhnbpkaaGreatDoorGhO8
set_option linter.unusedVariables false
set_option linter.unnecessarySimpa false
set_option linter.unusedSimpArgs false
namespace Go.Gh
open Go.RowKit
section
variable {P : Program} {I : Info} {O : Oracle} {val : Nat → UInt8} {a : Act} {o : Oper} {M : Mp} {w : World} {h : Heap} {t : Env} {nm n : Nat} {r : R} {K : D → Heap → Nat → Option R}

theorem bytes_beq (x y : List UInt8) : ((⟨x.toArray⟩ : ByteArray) == ⟨y.toArray⟩) = (x == y) := by
  show (x.toArray == y.toArray) = (x == y)
  simp
theorem findM_some (hv : Digits val) {s : List Nat} : ∀ {es : List (D × D)} {res : Option D} {es' : List MapEntry} (i : Nat), findM s es = some res → VRelL val M (es.map (·.1)) (es'.map (·.key)) → VRelL val M (es.map (·.2)) (es'.map (·.val)) →
    match res with
    | none => Instr.findNow .string (.string ⟨(s.map val).toArray⟩) es' i = some none
    | some d => ∃ j v, Instr.findNow .string (.string ⟨(s.map val).toArray⟩) es' i = some (some (j, v)) ∧ VRel val M d v
  | [], res, es', i, e, h1, h2 => by
    simp only [findM] at e
    cases e
    simp only [List.map_nil, VRelL] at h1
    have : es' = [] := by simpa using h1
    subst this
    rfl
  | (k, x) :: es, res, es', i, e, h1, h2 => by
    simp only [findM] at e
    cases es' with
    | nil => simp [VRelL] at h1
    | cons e' es' =>
      simp only [List.map_cons, VRelL, List.cons.injEq] at h1 h2
      obtain ⟨_, _, ⟨rfl, rfl⟩, h3, h1⟩ := h1
      obtain ⟨_, _, ⟨rfl, rfl⟩, h4, h2⟩ := h2
      cases k <;> simp only at e
      case str s' =>
        simp only [VRel] at h3
        split at e
        · rename_i q
          cases e
          refine ⟨i, e'.val, ?_, h4⟩
          simp [Instr.findNow, Instr.sameNow, h3, bytes_beq, sameS_eq hv q]
        · rename_i q
          have ih := findM_some hv (i + 1) e h1 h2
          have hf : Instr.findNow .string (.string ⟨(s.map val).toArray⟩) (e' :: es') i = Instr.findNow .string (.string ⟨(s.map val).toArray⟩) es' (i + 1) := by
            simp [Instr.findNow, Instr.sameNow, h3, bytes_beq, sameS_eq hv q]
          rw [hf]; exact ih
        · cases e
      all_goals cases e
theorem insM_some (hv : Digits val) {s : List Nat} {d : D} : ∀ {es : List (D × D)} {es' : List MapEntry} (i : Nat) {K : List (D × D) → Option R}, insM s d es K = some r → VRelL val M (es.map (·.1)) (es'.map (·.key)) →
    K (es ++ [(.str s, d)]) = some r ∧ Instr.findNow .string (.string ⟨(s.map val).toArray⟩) es' i = some none
  | [], es', i, K, e, h1 => by
    simp only [insM] at e
    simp only [List.map_nil, VRelL] at h1
    have : es' = [] := by simpa using h1
    subst this
    exact ⟨e, rfl⟩
  | (k, x) :: es, es', i, K, e, h1 => by
    simp only [insM] at e
    cases es' with
    | nil => simp [VRelL] at h1
    | cons e' es' =>
      simp only [List.map_cons, VRelL, List.cons.injEq] at h1
      obtain ⟨_, _, ⟨rfl, rfl⟩, h3, h1⟩ := h1
      cases k <;> simp only at e
      case str s' =>
        simp only [VRel] at h3
        split at e
        · cases e
        · rename_i q
          obtain ⟨g1, g2⟩ := insM_some hv (i + 1) e h1
          exact ⟨g1, by rw [← g2]; simp [Instr.findNow, Instr.sameNow, h3, bytes_beq, sameS_eq hv q]⟩
        · cases e
      all_goals cases e

theorem obj_alloc {w0 : World} (ob : Go.Obj) : (w0.alloc ob).heap[w0.heap.size]? = some ob := by
  show (w0.heap.push ob)[w0.heap.size]? = _
  simp
theorem obj_alloc_facts (w : World) (ob : Go.Obj) : ((w.alloc ob).os = w.os ∧ (w.alloc ob).tape = w.tape ∧ (w.alloc ob).output = w.output) ∧ w.heap.size ≤ (w.alloc ob).heap.size ∧ (∀ b, b < w.heap.size → (w.alloc ob).heap[b]? = w.heap[b]?) ∧ (w.alloc ob).heap.size = w.heap.size + 1 :=
  ⟨⟨rfl, rfl, rfl⟩, by show w.heap.size ≤ (w.heap.push _).size; simp, fun b hb => Below.heap_alloc _ _ _ hb, by show (w.heap.push _).size = _; simp⟩
theorem set_facts (w : World) (b : Nat) (ob : Go.Obj) : ({ w with heap := w.heap.setIfInBounds b ob } : World).heap.size = w.heap.size ∧ ∀ b', b' ≠ b → ({ w with heap := w.heap.setIfInBounds b ob } : World).heap[b']? = w.heap[b']? :=
  ⟨by simp, fun b' hb => by simp [Array.getElem?_setIfInBounds_ne (Ne.symm hb)]⟩
theorem set_self (w : World) (b : Nat) (ob : Go.Obj) (hb : b < w.heap.size) : ({ w with heap := w.heap.setIfInBounds b ob } : World).heap[b]? = some ob := by simp [hb]

theorem op_makeMap {ty : Nat} {x : Option Operand} (hv : Digits val) (H : HR val w M h n) (hnm : nm < n) (hM : M nm = none) (ho : o.op = .makeMap ty x) (e : evMakeMap ty x I O t h nm n K = some r) : ∃ d h', K d h' n = some r ∧ Goes P val a o M w h nm n d h' n := by
  cases x with
  | some _ => cases e
  | none =>
    replace e : (hput h nm (.map []) fun h => K (.map nm) h n) = some r := e
    rw [hput_eq] at e
    obtain ⟨f1, f2, f3, f4⟩ := obj_alloc_facts w (.map #[] 0)
    refine ⟨_, _, e, Goes_new H hnm hM (v := .map (some w.heap.size)) (w' := w.alloc (.map #[] 0)) ?_ (l := ⟨w.heap.size, 0, 0⟩) ⟨Nat.le_refl _, by show w.heap.size < _; omega⟩ f1 f2 f3 (fun M' _ _ => ⟨#[], 0, obj_alloc _, by simp [VRelL], by simp [VRelL]⟩) fun M' q => by simp only [VRel]; exact ⟨_, q, rfl⟩⟩
    simp [execOp, ho, Instr.makeMap]
theorem op_insert {ty : Nat} {m k x : Operand} (hv : Digits val) (hI : TOk P I) (H : HR val w M h n) (E : ER val M t a.tmps) (ho : o.op = .insert ty m k x) (e : evInsert ty m k x I O t h nm n K = some r) : ∃ d h', K d h' n = some r ∧ Goes P val a o M w h nm n d h' n := by
  replace e := onSome_some e; obtain ⟨T, hT, e⟩ := e
  replace e := ifMap_some e; obtain ⟨hk, e⟩ := e
  replace e := opd_some hv E e; obtain ⟨dm, e, hm⟩ := e
  replace e := asMap_some e; obtain ⟨ob, rfl, e⟩ := e
  replace e := opd_some hv E e; obtain ⟨dk, e, hkey⟩ := e
  replace e := asStr_some e; obtain ⟨s, rfl, e⟩ := e
  replace e := opd_some hv E e; obtain ⟨dx, e, hx⟩ := e
  replace e := req_some e; obtain ⟨hok, e⟩ := e
  replace e := hget_some e; obtain ⟨c, hc, e⟩ := e
  replace e := asEntries_some e; obtain ⟨es, rfl, e⟩ := e
  obtain ⟨kt, et, j, y, hd, hdk, hj, hy, hya, hyt, hez⟩ := kind_map (hI ty T hT) hk
  simp only [VRel] at hm hkey
  obtain ⟨l, hl, hmv⟩ := hm
  obtain ⟨es', clock, ho1, ho2, ho3⟩ := H.obj _ _ _ hc hl
  obtain ⟨e, hfind⟩ := insM_some (M := M) hv 0 e ho2
  rw [hput_eq] at e
  have hb := H.bound _ _ hl
  obtain ⟨s1, s2⟩ := set_facts w l.b (.map (es'.push { key := .string ⟨(s.map val).toArray⟩, val := a.eval x, born := clock }) (clock + 1))
  obtain ⟨H', S⟩ := HR_upd H (c' := .map (es ++ [(.str s, dx)])) hc hl (w' := { w with heap := w.heap.setIfInBounds l.b (.map (es'.push { key := .string ⟨(s.map val).toArray⟩, val := a.eval x, born := clock }) (clock + 1)) }) ⟨rfl, rfl, rfl⟩ s1 s2
    ⟨_, _, set_self w l.b _ hb, by
      simp only [List.map_append, List.map_cons, List.map_nil, Array.toList_push]
      exact VRelL_append.2 ⟨_, _, rfl, ho2, VRelL_one (by simp [VRel])⟩, by
      simp only [List.map_append, List.map_cons, List.map_nil, Array.toList_push]
      exact VRelL_append.2 ⟨_, _, rfl, ho3, VRelL_one hx⟩⟩
  refine ⟨_, _, e, fun next Q kk => ?_⟩
  unfold Oper.wp
  have hck : (Instr.checkKey false 10000 kt (.string ⟨(s.map val).toArray⟩)).run P w = .ok () w := MapKept.run_checkKey hdk (by trivial) false 9999
  have hfk : (Instr.findKey kt (.string ⟨(s.map val).toArray⟩) es'.toList).run P w = .ok none w := MapKept.run_findKey hdk hfind
  rw [show (execOp a.eval o).run P w = .ok .skip _ by simp [execOp, ho, Instr.mapUpdate, run_underlying hd, hmv, hkey, getObj, setObj, Sem.run, ho1, hck, hfk]; rfl]
  exact kk undef _ M H' VRel_unit (S.weaken fun _ q => q.elim)
theorem op_lookup {ty : Nat} {m k : Operand} {ok : Bool} (hv : Digits val) (hI : TOk P I) (H : HR val w M h n) (E : ER val M t a.tmps) (ho : o.op = .lookup ty m k ok) (e : evLookup ty m k ok I O t h nm n K = some r) : ∃ d h', K d h' n = some r ∧ Goes P val a o M w h nm n d h' n := by
  replace e := onSome_some e; obtain ⟨T, hT, e⟩ := e
  replace e := ifMap_some e; obtain ⟨hk, e⟩ := e
  replace e := opd_some hv E e; obtain ⟨dm, e, hm⟩ := e
  replace e := asMap_some e; obtain ⟨ob, rfl, e⟩ := e
  replace e := opd_some hv E e; obtain ⟨dk, e, hkey⟩ := e
  replace e := asStr_some e; obtain ⟨s, rfl, e⟩ := e
  replace e := hget_some e; obtain ⟨c, hc, e⟩ := e
  replace e := asEntries_some e; obtain ⟨es, rfl, e⟩ := e
  replace e := onSome_some e; obtain ⟨res, hres, e⟩ := e
  obtain ⟨kt, et, j, y, hd, hdk, hj, hy, hya, hyt, hez⟩ := kind_map (hI ty T hT) hk
  simp only [VRel] at hm hkey
  obtain ⟨l, hl, hmv⟩ := hm
  obtain ⟨es', clock, ho1, ho2, ho3⟩ := H.obj _ _ _ hc hl
  have hf := findM_some (M := M) hv 0 hres ho2 ho3
  have hck : ∀ b, (Instr.checkKey b 10000 kt (.string ⟨(s.map val).toArray⟩)).run P w = .ok () w := fun b => MapKept.run_checkKey hdk (by trivial) b 9999
  have hyr : VRel val M (dOf y) y := VRel_dOf hv M y
  cases res with
  | none =>
    have hfk : (Instr.findKey kt (.string ⟨(s.map val).toArray⟩) es'.toList).run P w = .ok none w := MapKept.run_findKey hdk hf
    cases ok <;> simp only at e
    · replace e := one_some e; obtain ⟨z, hz, e⟩ := e
      rw [hez] at hz; cases hz
      refine ⟨_, h, e, Goes_val H (v := y) ?_ hyr⟩
      simp [execOp, ho, Instr.lookup, run_underlying hd, hmv, hkey, getObj, Sem.run, ho1, hck, hfk, zeroValue, typeInfo, hj, hy]
    · replace e := one_some e; obtain ⟨z, hz, e⟩ := e
      rw [hez] at hz; cases hz
      refine ⟨_, h, e, Goes_val H (v := .tuple #[y, .bool false]) ?_ (by simp only [VRel]; exact ⟨_, rfl, by simp only [VRelL]; exact ⟨_, _, rfl, hyr, _, _, rfl, by simp [VRel], rfl⟩⟩)⟩
      simp [execOp, ho, Instr.lookup, run_underlying hd, hmv, hkey, getObj, Sem.run, ho1, hck, hfk, zeroValue, typeInfo, hj, hy]
  | some d =>
    obtain ⟨jj, v, hf, hvr⟩ := hf
    have hfk : (Instr.findKey kt (.string ⟨(s.map val).toArray⟩) es'.toList).run P w = .ok (some (jj, v)) w := MapKept.run_findKey hdk hf
    cases ok <;> simp only at e
    · refine ⟨_, h, e, Goes_val H (v := v) ?_ hvr⟩
      simp [execOp, ho, Instr.lookup, run_underlying hd, hmv, hkey, getObj, Sem.run, ho1, hck, hfk]
    · refine ⟨_, h, e, Goes_val H (v := .tuple #[v, .bool true]) ?_ (by simp only [VRel]; exact ⟨_, rfl, by simp only [VRelL]; exact ⟨_, _, rfl, hvr, _, _, rfl, by simp [VRel], rfl⟩⟩)⟩
      simp [execOp, ho, Instr.lookup, run_underlying hd, hmv, hkey, getObj, Sem.run, ho1, hck, hfk]
theorem op_range {ty : Nat} {x : Operand} (hv : Digits val) (hI : TOk P I) (H : HR val w M h n) (E : ER val M t a.tmps) (hnm : nm < n) (hM : M nm = none) (ho : o.op = .range ty x) (e : evRange ty x I O t h nm n K = some r) : ∃ d h', K d h' n = some r ∧ Goes P val a o M w h nm n d h' n := by
  replace e := onSome_some e; obtain ⟨T, hT, e⟩ := e
  replace e := ifStr_some e; obtain ⟨hk, e⟩ := e
  replace e := opd_some hv E e; obtain ⟨d, e, hr⟩ := e
  replace e := asStr_some e; obtain ⟨s, rfl, e⟩ := e
  rw [hput_eq] at e
  simp only [VRel] at hr
  obtain ⟨f1, f2, f3, f4⟩ := obj_alloc_facts w (.stringIter ⟨(s.map val).toArray⟩ 0)
  refine ⟨_, _, e, Goes_new H hnm hM (v := .pointer (some ⟨w.heap.size, 0, none⟩)) (w' := w.iter ⟨(s.map val).toArray⟩ 0) ?_ (l := ⟨w.heap.size, 0, 0⟩) ⟨Nat.le_refl _, by show w.heap.size < (w.alloc _).heap.size; omega⟩ f1 f2 f3 (fun M' _ _ => ⟨_, obj_alloc _, by rw [size_mk, List.length_map, Nat.zero_add], by simp⟩) fun M' q => by simp only [VRel]; exact ⟨_, q, rfl⟩⟩
  simp [execOp, ho, hr, run_range_string w ty _ (kind_str (hI ty T hT) hk)]
theorem op_next {x : Operand} {str : Bool} (hv : Digits val) (H : HR val w M h n) (E : ER val M t a.tmps) (ho : o.op = .next x str) (e : evNext x str I O t h nm n K = some r) : ∃ d h', K d h' n = some r ∧ Goes P val a o M w h nm n d h' n := by
  cases str with
  | false => cases e
  | true =>
  simp only [evNext] at e
  replace e := opd_some hv E e; obtain ⟨d, e, hr⟩ := e
  replace e := asIter_some e; obtain ⟨ob, rfl, e⟩ := e
  replace e := hget_some e; obtain ⟨c, hc, e⟩ := e
  replace e := asState_some e; obtain ⟨s, pos, rfl, e⟩ := e
  simp only [VRel] at hr
  obtain ⟨l, hl, hx⟩ := hr
  obtain ⟨bs, ho1, ho2, ho3⟩ := H.obj _ _ _ hc hl
  have hb := H.bound _ _ hl
  cases s with
  | nil =>
    simp only at e
    refine ⟨_, h, e, Goes_val H (v := .tuple #[.bool false]) ?_ (by simp only [VRel]; exact ⟨_, rfl, VRelL_one (by simp [VRel])⟩)⟩
    have : ¬ pos < bs.size := by simp at ho2; omega
    simp [execOp, ho, hx, ad, Instr.next, getObj, Sem.run, ho1, this]
  | cons c s =>
    simp only at e
    have hpos : pos < bs.size := by simp at ho2; omega
    have hget : bs[pos]'hpos = val c := by
      have g := congrArg (·[0]?) ho3
      simp only [List.getElem?_drop, Nat.add_zero, List.map_cons, List.getElem?_cons_zero] at g
      have hl2 : pos < bs.data.toList.length := by rw [Array.length_toList]; exact hpos
      rw [List.getElem?_eq_getElem hl2] at g
      exact Option.some.inj g
    obtain ⟨s1, s2⟩ := set_facts w l.b (.stringIter bs (pos + 1))
    obtain ⟨H', S⟩ := HR_upd H (c' := .iter s (Nat.succ pos)) hc hl (w' := { w with heap := w.heap.setIfInBounds l.b (.stringIter bs (pos + 1)) }) ⟨rfl, rfl, rfl⟩ s1 s2
      ⟨bs, set_self w l.b _ hb, by simp at ho2; omega, by
        have := congrArg (List.drop 1) ho3
        rw [List.drop_drop] at this
        simpa using this⟩
    have fin : ∀ (hlt : (val c).toNat < 128) (d : D), VRel val M d (.int .i32 (val c).toNat) → (hput h ob (.iter s (Nat.succ pos)) fun h => K (.tup [.bool true, .int .i64 (.ofNat pos), d]) h n) = some r → ∃ d h', K d h' n = some r ∧ Goes P val a o M w h nm n d h' n := fun hlt d hd e => by
      rw [hput_eq] at e
      refine ⟨_, _, e, fun next Q kk => ?_⟩
      unfold Oper.wp
      rw [show (execOp a.eval o).run P w = .ok (.value (.tuple #[.bool true, .int .i64 pos, .int .i32 (val c).toNat])) _ by
        simp [execOp, ho, hx, ad, Instr.next, getObj, setObj, Sem.run, ho1, hpos, decode_ascii bs pos hpos (by rw [hget]; exact hlt), hget, goInt]; rfl]
      exact kk _ _ M H' (by simp only [VRel]; exact ⟨_, rfl, by simp only [VRelL]; exact ⟨_, _, rfl, by simp [VRel], _, _, rfl, by simp only [VRel]; rfl, _, _, rfl, hd, rfl⟩⟩) (S.weaken fun _ q => q.elim)
    cases hc' : isLit c with
    | true =>
      rw [hc'] at e
      simp only at e
      replace e := req_some e; obtain ⟨hlt, e⟩ := e
      have hlt := blt_true hlt
      have hvl := val_lit hv (c := c) (by omega)
      exact fin (by omega) _ (by simp only [VRel]; rw [hvl]; rfl) e
    | false =>
      rw [hc'] at e
      simp only at e
      have hdg := hv.dig c (isLit_false hc')
      exact fin (by omega) _ (by simp only [VRel]; exact ⟨isLit_false hc', trivial⟩) e
end
end Go.Gh
