import Derived.Test.YtidododdhnbpkaaGreatDoorGhT2
import Derived.Laws.IdiomCopy
import Derived.Laws.IdiomStrings
import Derived.Laws.Append
set_option linter.unusedVariables false
set_option linter.unnecessarySimpa false
set_option linter.unusedSimpArgs false
namespace Go.Gh
open Go.RowKit
/-- An operation comes to this value and this heap. -/
def Goes (P : Program) (val : Nat → UInt8) (a : Act) (o : Oper) (M : Mp) (w : World) (h : Heap) (nm n : Nat) (d : D) (h' : Heap) (n' : Nat) : Prop :=
  ∀ (next : Act → World → Prop) (Q : Exit → Act → World → Prop),
    (∀ v w' M', HR val w' M' h' n' → VRel val M' d v → Step M w h M' w' h' (fun x => x = nm ∨ (n ≤ x ∧ x < n')) → next (a.put o.dst v) w') → o.wp P a w next Q
/-- The variables. -/
def ER (val : Nat → UInt8) (M : Mp) (t : Env) (tmps : Array Value) : Prop := ∀ k, VRel val M (getE t k) (tmps.getD k undef)

section
variable {P : Program} {I : Info} {O : Oracle} {val : Nat → UInt8} {a : Act} {o : Oper} {M : Mp} {w : World} {h : Heap} {t : Env} {nm n : Nat} {r : R} {K : D → Heap → Nat → Option R}

theorem Goes_val {d : D} {v : Value} (H : HR val w M h n) (e : (execOp a.eval o).run P w = .ok (.value v) w) (hr : VRel val M d v) : Goes P val a o M w h nm n d h n := by
  intro next Q k
  unfold Oper.wp
  rw [e]
  exact k v w M H hr (Step.refl ..)
/-- A new object, and a value that names it. -/
theorem Goes_new {w' : World} {d : D} {v : Value} (H : HR val w M h n) (hnm : nm < n) (hM : M nm = none) (e : (execOp a.eval o).run P w = .ok (.value v) w') {c : Obj} {l : Loc} (hl : w.heap.size ≤ l.b ∧ l.b < w'.heap.size)
    (hs : w'.os = w.os ∧ w'.tape = w.tape ∧ w'.output = w.output) (hz : w.heap.size ≤ w'.heap.size) (hb : ∀ b, b < w.heap.size → w'.heap[b]? = w.heap[b]?)
    (hc : ∀ M' : Mp, (∀ o l, M o = some l → M' o = some l) → M' nm = some l → OR val w' M' c l) (hr : ∀ M' : Mp, M' nm = some l → VRel val M' d v) : Goes P val a o M w h nm n d (h.put nm (some c)) n := by
  intro next Q k
  unfold Oper.wp
  rw [e]
  obtain ⟨M', h1, H', S⟩ := HR_new H hnm hM hl hs hz hb hc
  exact k v w' M' H' (hr M' h1) (S.weaken fun x q => .inl q)

theorem VRel_const (hv : Digits val) {v : Value} {d : D} (e : constD v = some d) : VRel val M d v := by
  unfold constD at e
  split at e
  all_goals first
    | (cases e; simp only [VRel]; done)
    | (cases e; simp only [VRel]; rw [codes_val hv]; done)
    | cases e
theorem opd_some (hv : Digits val) (E : ER val M t a.tmps) {x : Operand} {K : D → Option R} (e : opd t x K = some r) : ∃ d, K d = some r ∧ VRel val M d (a.eval x) := by
  cases x with
  | tmp k => exact ⟨_, e, E k⟩
  | const v =>
    obtain ⟨d, hd, e⟩ := onSome_some (o := constD v) e
    exact ⟨d, e, VRel_const hv hd⟩
  | global g => cases e
  | func f => exact ⟨_, e, by simp only [VRel, Act.eval]; exact ⟨#[], rfl, by simp [VRelL]⟩⟩
theorem optOpd_some (hv : Digits val) (E : ER val M t a.tmps) {x : Option Operand} {d0 : D} {K : D → Option R} (e : optOpd t x d0 K = some r) :
    x = none ∧ K d0 = some r ∨ ∃ y d, x = some y ∧ K d = some r ∧ VRel val M d (a.eval y) := by
  cases x with
  | none => exact .inl ⟨rfl, e⟩
  | some y => obtain ⟨d, h1, h2⟩ := opd_some hv E (K := K) e; exact .inr ⟨y, d, rfl, h1, h2⟩
theorem opds_some (hv : Digits val) (E : ER val M t a.tmps) : ∀ {l : List Operand} {K : List D → Option R}, opds t l K = some r → ∃ ds, K ds = some r ∧ VRelL val M ds (l.map a.eval)
  | [], K, e => ⟨[], e, by simp [VRelL]⟩
  | x :: l, K, e => by
    obtain ⟨d, e, h1⟩ := opd_some hv E (x := x) (K := fun d => opds t l fun ds => K (d :: ds)) e
    obtain ⟨ds, e, h2⟩ := opds_some hv E e
    exact ⟨d :: ds, e, by simp only [VRelL, List.map_cons]; exact ⟨_, _, rfl, h1, h2⟩⟩
theorem parts_some (hv : Digits val) (E : ER val M t a.tmps) : ∀ {l : List (Nat × Operand)} {K : List (Nat × D) → Option R}, parts t l K = some r →
    ∃ ds, K ds = some r ∧ ds.map (·.1) = l.map (·.1) ∧ VRelL val M (ds.map (·.2)) (l.map fun x => a.eval x.2)
  | [], K, e => ⟨[], e, rfl, by simp [VRelL]⟩
  | x :: l, K, e => by
    obtain ⟨d, e, h1⟩ := opd_some hv E (x := x.2) (K := fun d => parts t l fun ds => K ((x.1, d) :: ds)) e
    obtain ⟨ds, e, h0, h2⟩ := parts_some hv E e
    exact ⟨(x.1, d) :: ds, e, by simp [h0], by simp only [VRelL, List.map_cons]; exact ⟨_, _, rfl, h1, h2⟩⟩
theorem VRelL_one {d : D} {v : Value} (h : VRel val M d v) : VRelL val M [d] [v] := by simp only [VRelL]; exact ⟨v, [], rfl, h, rfl⟩
theorem cellsK_some {d : D} {v : Value} (hr : VRel val M d v) {K : List D → Option R} (e : cellsK d K = some r) : ∃ c, K c = some r ∧ VRelL val M c v.cells.toList ∧ c.length = v.cells.size ∧ (c.length ≠ 1 → ∃ vs, v = .agg vs) := by
  cases d
  case agg c =>
    simp only [VRel] at hr
    obtain ⟨vs, rfl, hr⟩ := hr
    exact ⟨c, e, hr, by have := VRelL_length hr; simpa [Value.cells] using this.symm, fun _ => ⟨vs, rfl⟩⟩
  case undef => change none = some r at e; cases e
  case tup l => change none = some r at e; cases e
  all_goals
    have hv : v.cells = #[v] := by
      simp only [VRel] at hr
      first
        | (subst hr; rfl)
        | (obtain ⟨_, rfl⟩ := hr; rfl)
        | (obtain ⟨_, _, rfl⟩ := hr; rfl)
        | (obtain ⟨_, rfl, _⟩ := hr; rfl)
        | (obtain ⟨_, _, _, _, rfl, _⟩ := hr; rfl)
    have h1 := VRelL_one hr
    rw [show [v] = v.cells.toList by rw [hv]] at h1
    exact ⟨_, e, h1, by rw [hv]; rfl, fun q => absurd rfl q⟩
/-- What may stand in one cell is no struct. -/
theorem cellOk_one {d : D} {v : Value} (h : cellOk d = true) (hr : VRel val M d v) : v.oneCell' = true := by
  cases d
  case undef => cases h
  case agg => cases h
  case tup => cases h
  all_goals
    simp only [VRel] at hr
    first
        | (subst hr; rfl)
        | (obtain ⟨_, rfl⟩ := hr; rfl)
        | (obtain ⟨_, _, rfl⟩ := hr; rfl)
        | (obtain ⟨_, rfl, _⟩ := hr; rfl)
        | (obtain ⟨_, _, _, _, rfl, _⟩ := hr; rfl)

theorem op_move {x : Operand} (hv : Digits val) (H : HR val w M h n) (E : ER val M t a.tmps) (ho : o.op = .move x ∨ o.op = .assign x) (e : evMove x I O t h nm n K = some r) : ∃ d h', K d h' n = some r ∧ Goes P val a o M w h nm n d h' n := by
  obtain ⟨d, e, hr⟩ := opd_some hv E (K := fun d => K d h n) e
  exact ⟨d, h, e, Goes_val H (v := a.eval x) (by rcases ho with ho | ho <;> simp [execOp, ho]) hr⟩
theorem op_pick {c x y : Operand} (hv : Digits val) (H : HR val w M h n) (E : ER val M t a.tmps) (ho : o.op = .pick c x y) (e : evPick c x y I O t h nm n K = some r) : ∃ d h', K d h' n = some r ∧ Goes P val a o M w h nm n d h' n := by
  obtain ⟨dc, e, hc⟩ := opd_some hv E e
  obtain ⟨b, rfl, e⟩ := asBool_some e
  simp only [VRel] at hc
  cases b
  · obtain ⟨d, e, hr⟩ := opd_some hv E (K := fun d => K d h n) e
    exact ⟨d, h, e, Goes_val H (v := a.eval y) (by simp [execOp, ho, hc, Go.asBool]) hr⟩
  · obtain ⟨d, e, hr⟩ := opd_some hv E (K := fun d => K d h n) e
    exact ⟨d, h, e, Goes_val H (v := a.eval x) (by simp [execOp, ho, hc, Go.asBool]) hr⟩

theorem alloc_facts (w : World) (c : Array Value) (ty : TypeId) (fr : Nat × Nat) : ((w.alloc (.cells c ty fr)).os = w.os ∧ (w.alloc (.cells c ty fr)).tape = w.tape ∧ (w.alloc (.cells c ty fr)).output = w.output) ∧ w.heap.size ≤ (w.alloc (.cells c ty fr)).heap.size ∧
    (∀ b, b < w.heap.size → (w.alloc (.cells c ty fr)).heap[b]? = w.heap[b]?) ∧ (w.alloc (.cells c ty fr)).heap.size = w.heap.size + 1 :=
  ⟨⟨rfl, rfl, rfl⟩, by show w.heap.size ≤ (w.heap.push _).size; simp, fun b hb => Below.heap_alloc _ _ _ hb, by show (w.heap.push _).size = _; simp⟩
theorem mine_alloc (w : World) (c : Array Value) (ty : TypeId) (fr : Nat × Nat) (j : Nat) (v : Value) (h : c[j]? = some v) (hf : fr = (0, 0) ∨ fr.1 = c.size) : Mine (w.alloc (.cells c ty fr)) w.heap.size j v := by
  have hj : j < c.size := (Array.getElem?_eq_some_iff.1 h).1
  refine ⟨(World.cell?_alloc_mark w c ty fr j).trans h, ?_⟩
  obtain ⟨f1, f2⟩ := fr
  refine (World.frozen?_alloc_mark w c ty f1 f2 j).trans ?_
  rcases hf with hf | hf
  · cases hf; simp
  · simp only at hf
    have : ¬ f1 ≤ j := by omega
    simp [this]
/-- A new row of cells: some are known, there may be more behind. -/
theorem Goes_cells {w0 : World} {cs : Array Value} {ty : TypeId} {fr : Nat × Nat} {cells : List D} {vs spare : List Value} {d : D} {v : Value} (H : HR val w M h n) (hnm : nm < n) (hM : M nm = none) (h0 : w0.heap = w.heap ∧ w0.os = w.os ∧ w0.tape = w.tape ∧ w0.output = w.output)
    (run : (execOp a.eval o).run P w = .ok (.value v) (w0.alloc (.cells cs ty fr))) (hf : fr = (0, 0) ∨ fr.1 = cs.size) (hcs : cs.toList = vs ++ spare) (hc : VRelL val M cells vs)
    (hr : ∀ M' : Mp, M' nm = some ⟨w.heap.size, 0, cs.size⟩ → VRel val M' d v) : Goes P val a o M w h nm n d (h.put nm (some (.cells cells))) n := by
  obtain ⟨f1, f2, f3, f4⟩ := alloc_facts w0 cs ty fr
  rw [h0.1] at f2 f3 f4
  refine Goes_new H hnm hM run (l := ⟨w.heap.size, 0, cs.size⟩) ⟨Nat.le_refl _, by show w.heap.size < _; omega⟩ ⟨f1.1.trans h0.2.1, f1.2.1.trans h0.2.2.1, f1.2.2.trans h0.2.2.2⟩ f2 f3 (fun M' ext hM' => ?_) hr
  have hlen := VRelL_length hc
  have hm : ∀ j v, cs[j]? = some v → Mine (w0.alloc (.cells cs ty fr)) w.heap.size (0 + j) v := fun j v hj => by rw [Nat.zero_add, ← h0.1]; exact mine_alloc w0 cs ty fr j v hj hf
  have hsz : cs.size = vs.length + spare.length := by rw [← Array.length_toList, hcs, List.length_append]
  refine ⟨by show cells.length ≤ cs.size; omega, fun i hi => ?_, fun i d hd => ?_⟩
  · exact ⟨_, hm i _ (Array.getElem?_eq_getElem hi)⟩
  · obtain ⟨x, h1, h2⟩ := VRelL_get hc hd
    refine ⟨x, (hm i x ?_).1, VRel_ext ext _ _ h2⟩
    rw [← Array.getElem?_toList, hcs, List.getElem?_append_left (List.getElem?_eq_some_iff.1 h1).1]; exact h1

theorem op_alloc {ty : Nat} (hv : Digits val) (hI : TOk P I) (H : HR val w M h n) (hnm : nm < n) (hM : M nm = none) (ho : o.op = .alloc ty) (e : evAlloc ty I O t h nm n K = some r) : ∃ d h', K d h' n = some r ∧ Goes P val a o M w h nm n d h' n := by
  obtain ⟨T, hT, e⟩ := onSome_some e
  rw [hput_eq] at e
  obtain ⟨i, d, z, hi, hd, hz, hsz, h1, h2, _⟩ := tOf_base (hI ty T hT)
  refine ⟨_, _, e, Goes_cells (w0 := w) (cs := z.cells) (ty := ty) (fr := (0, 0)) (vs := z.cells.toList) (spare := []) H hnm hM ⟨rfl, rfl, rfl, rfl⟩ ?_ (.inl rfl) (by simp) (by rw [h2]; exact VRelL_dOf hv ..) (v := .pointer (some ⟨w.heap.size, 0, none⟩)) fun M' q => ?_⟩
  · simp [execOp, ho, Instr.alloc, zeroValue, typeInfo, hi, hz, newVar, newRow]
  · simp only [VRel]; exact ⟨_, q, rfl⟩
theorem op_box {ty : Nat} {x : Operand} (hv : Digits val) (hI : TOk P I) (H : HR val w M h n) (E : ER val M t a.tmps) (hnm : nm < n) (hM : M nm = none) (ho : o.op = .box ty x) (e : evBox ty x I O t h nm n K = some r) : ∃ d h', K d h' n = some r ∧ Goes P val a o M w h nm n d h' n := by
  obtain ⟨T, hT, e⟩ := onSome_some e
  obtain ⟨d, e, hr⟩ := opd_some hv E e
  obtain ⟨c, e, hc, hl, _⟩ := cellsK_some hr e
  obtain ⟨_, e⟩ := req_some e
  obtain ⟨_, e⟩ := cellsOk_some e
  rw [hput_eq] at e
  refine ⟨_, _, e, Goes_cells (w0 := w) (cs := (a.eval x).cells) (ty := ty) (fr := (0, 0)) (vs := (a.eval x).cells.toList) (spare := []) H hnm hM ⟨rfl, rfl, rfl, rfl⟩ ?_ (.inl rfl) (by simp) hc (v := .pointer (some ⟨w.heap.size, 0, none⟩)) fun M' q => ?_⟩
  · simp [execOp, ho, Instr.box, newVar, newRow]
  · simp only [VRel]; exact ⟨_, q, rfl⟩

theorem ad_add (b o i : Nat) : (ad b o).add i = ad b (o + i) := by unfold Addr.add ad; split <;> simp_all
theorem op_nilCheck {x : Operand} (hv : Digits val) (H : HR val w M h n) (E : ER val M t a.tmps) (ho : o.op = .nilCheck x) (e : evNilCheck x I O t h nm n K = some r) : ∃ d h', K d h' n = some r ∧ Goes P val a o M w h nm n d h' n := by
  obtain ⟨d, e, hr⟩ := opd_some hv E e
  cases d
  case ptr ob off =>
    refine ⟨_, h, e, Goes_val H (v := a.eval x) ?_ hr⟩
    simp only [VRel] at hr
    obtain ⟨l, _, q⟩ := hr
    simp [execOp, ho, q]
  case clo f cap =>
    refine ⟨_, h, e, Goes_val H (v := a.eval x) ?_ hr⟩
    simp only [VRel] at hr
    obtain ⟨vs, q, _⟩ := hr
    simp [execOp, ho, q]
  all_goals (change none = some r at e; cases e)
theorem op_extract {x : Operand} {i : Nat} (hv : Digits val) (H : HR val w M h n) (E : ER val M t a.tmps) (ho : o.op = .extract x i) (e : evExtract x i I O t h nm n K = some r) : ∃ d h', K d h' n = some r ∧ Goes P val a o M w h nm n d h' n := by
  obtain ⟨d, e, hr⟩ := opd_some hv E e
  obtain ⟨l, rfl, e⟩ := asTup_some e
  obtain ⟨d, hd, e⟩ := onSome_some e
  simp only [VRel] at hr
  obtain ⟨vs, hvs, hr⟩ := hr
  obtain ⟨v, hv2, hr2⟩ := VRelL_get hr hd
  exact ⟨_, h, e, Goes_val H (v := v) (by simp [execOp, ho, hvs, Instr.extract, show vs[i]? = some v by simpa using hv2]) hr2⟩
theorem op_makeFunc {f : Fn} {first cap : Array Operand} (hv : Digits val) (H : HR val w M h n) (E : ER val M t a.tmps) (ho : o.op = .makeFunc f first cap) (e : evMakeFunc f first cap I O t h nm n K = some r) : ∃ d h', K d h' n = some r ∧ Goes P val a o M w h nm n d h' n := by
  unfold evMakeFunc at e
  split at e
  · rename_i f
    obtain ⟨hf, e⟩ := req_some e
    obtain ⟨ds, e, hr⟩ := opds_some hv E e
    refine ⟨_, h, e, Goes_val H (v := .func (.func f) #[] (cap.map a.eval)) ?_ ?_⟩
    · have : first = #[] := by
        apply Array.eq_empty_of_size_eq_zero
        have := Nat.eq_of_beq_eq_true hf
        simpa using this
      subst this
      simp [execOp, ho, Instr.makeFunc]
    · simp only [VRel]; exact ⟨_, rfl, by simpa using hr⟩
  · cases e
theorem op_makeInterface {ty : Nat} {x : Operand} (hv : Digits val) (hI : TOk P I) (H : HR val w M h n) (E : ER val M t a.tmps) (ho : o.op = .makeInterface ty x) (e : evMakeInterface ty x I O t h nm n K = some r) : ∃ d h', K d h' n = some r ∧ Goes P val a o M w h nm n d h' n := by
  obtain ⟨T, hT, e⟩ := onSome_some e
  have hk : T.kind ≠ .iface ∧ (opd t x fun d => K (.ifc ty d) h n) = some r := by
    split at e
    · cases e
    · rename_i q; exact ⟨fun q2 => q q2, e⟩
  obtain ⟨d, e, hr⟩ := opd_some hv E hk.2
  refine ⟨_, h, e, Goes_val H (v := .iface ty (a.eval x)) ?_ (by simp only [VRel]; exact ⟨_, rfl, hr⟩)⟩
  obtain ⟨i, ds, z, hi, hd, hz, hsz, h1, h2, hm⟩ := tOf_base (hI ty T hT)
  have hn : ∀ ms, ds ≠ .interface ms := fun ms q => by subst q; exact hk.1 hm.1
  cases ds <;> first
    | exact absurd rfl (hn _)
    | simp [execOp, ho, Instr.makeInterface, run_underlying hd]
theorem op_fieldAddr {ty f : Nat} {x : Operand} (hv : Digits val) (hI : TOk P I) (H : HR val w M h n) (E : ER val M t a.tmps) (ho : o.op = .fieldAddr ty x f) (e : evFieldAddr ty x f I O t h nm n K = some r) : ∃ d h', K d h' n = some r ∧ Goes P val a o M w h nm n d h' n := by
  obtain ⟨T, hT, e⟩ := onSome_some e
  obtain ⟨p, hp, e⟩ := onSome_some e
  obtain ⟨fs, g, j, hd, hg, hj, rfl, hun⟩ := field_facts (hI ty T hT) hp
  obtain ⟨d, e, hr⟩ := opd_some hv E e
  obtain ⟨ob, k, rfl, e⟩ := asPtr_some e
  have e' : Nat.rec (motive := fun _ => Option R) none (fun _ _ => K (.ptr ob (Nat.add k g.offset)) h n) j.size = some r := e
  cases hs : j.size with
  | zero => rw [hs] at e'; cases e'
  | succ s =>
    rw [hs] at e'
    simp only [VRel] at hr
    obtain ⟨l, hl, q⟩ := hr
    refine ⟨_, h, e', Goes_val H (v := .pointer (some (ad l.b (l.base + (k + g.offset))))) ?_ (by simp only [VRel]; exact ⟨l, hl, rfl⟩)⟩
    have hs' : j.size ≠ 0 := by omega
    simp [execOp, ho, q, Instr.fieldAt, run_underlying hd, hg, Instr.sureAddr, fieldPlace, sizeOf, typeInfo, hj, hs', ad_add, Nat.add_assoc]
theorem op_field {ty f : Nat} {x : Operand} (hv : Digits val) (hI : TOk P I) (H : HR val w M h n) (E : ER val M t a.tmps) (ho : o.op = .field ty x f) (e : evField ty x f I O t h nm n K = some r) : ∃ d h', K d h' n = some r ∧ Goes P val a o M w h nm n d h' n := by
  obtain ⟨T, hT, e⟩ := onSome_some e
  obtain ⟨p, hp, e⟩ := onSome_some e
  obtain ⟨fs, g, j, hd, hg, hj, rfl, hun⟩ := field_facts (hI ty T hT) hp
  obtain ⟨d, e, hr⟩ := opd_some hv E e
  obtain ⟨c, rfl, e⟩ := asAgg_some e
  have hagg : ∀ (b : Bool), isAggT P g.type = b → (∃ dd, P.underlying g.type = some dd) → (isAgg g.type).run P w = .ok b w := fun b hb ⟨dd, hdd⟩ => by
    unfold isAggT at hb
    rw [hdd] at hb
    cases dd <;> simp only at hb <;> subst hb <;> simp [isAgg, run_underlying hdd]
  simp only [VRel] at hr
  obtain ⟨vs, hvs, hr⟩ := hr
  obtain ⟨A, B, C, rfl, hA, hB, e⟩ := cut_some e
  obtain ⟨v1, v3, e1, h1, h3⟩ := VRelL_append.1 hr
  obtain ⟨vA, vB, rfl, hA', hB'⟩ := VRelL_append.1 h1
  have lA := VRelL_length hA'
  have lB := VRelL_length hB'
  simp only at hA hB
  cases hb : isAggT P g.type with
  | true =>
    have e' : K (.agg B) h n = some r := by simpa only [hb] using e
    refine ⟨_, h, e', Goes_val H (v := .agg vB.toArray) ?_ (by simp only [VRel]; exact ⟨_, rfl, by simpa using hB'⟩)⟩
    have ex : vs.extract g.offset (g.offset + j.size) = vB.toArray := by
      apply Array.ext'
      rw [Array.toList_extract, e1, List.extract_eq_take_drop]
      simp only [List.append_assoc]
      rw [← hA, ← lA, List.drop_left, show vA.length + j.size - vA.length = vB.length by omega, List.take_left]
    simp [execOp, ho, hvs, Instr.field, run_underlying hd, hg, Go.asAgg, part, hagg true hb hun, sizeOf, typeInfo, hj, ex]
  | false =>
    have e' : one B (fun d => K d h n) = some r := by simpa only [hb] using e
    obtain ⟨d, rfl, e'⟩ := one_some e'
    simp only [VRelL] at hB'
    obtain ⟨v, _, rfl, hv1, rfl⟩ := hB'
    refine ⟨_, h, e', Goes_val H (v := v) ?_ hv1⟩
    have ex : vs[g.offset]? = some v := by
      rw [← Array.getElem?_toList, e1, List.append_assoc, List.getElem?_append_right (by omega), show g.offset - vA.length = 0 by omega]; rfl
    simp [execOp, ho, hvs, Instr.field, run_underlying hd, hg, Go.asAgg, part, hagg false hb hun, ex]
end
end Go.Gh
