import Derived.Test.YtidododdhnbpkaaGreatDoorGhO3
import Derived.Laws.BytesArg
import Derived.Laws.Tables
set_option linter.unusedVariables false
set_option linter.unnecessarySimpa false
set_option linter.unusedSimpArgs false
namespace Go.Gh
open Go.RowKit
section
variable {P : Program} {I : Info} {O : Oracle} {val : Nat → UInt8} {a : Act} {o : Oper} {M : Mp} {w : World} {h : Heap} {t : Env} {nm n : Nat} {r : R} {K : D → Heap → Nat → Option R}

theorem op_indexAddr {ty : Nat} {x i : Operand} (hv : Digits val) (hI : TOk P I) (H : HR val w M h n) (E : ER val M t a.tmps) (ho : o.op = .indexAddr ty x i) (e : evIndexAddr ty x i I O t h nm n K = some r) : ∃ d h', K d h' n = some r ∧ Goes P val a o M w h nm n d h' n := by
  replace e := onSome_some e; obtain ⟨T, hT, e⟩ := e
  replace e := opd_some hv E e; obtain ⟨dx, e, hx⟩ := e
  replace e := opd_some hv E e; obtain ⟨di, e, hi⟩ := e
  replace e := asInt_some e; obtain ⟨ik, k, rfl, e⟩ := e
  simp only [VRel] at hi
  cases dx
  case ptr ob off =>
    replace e := ifArr_some e; obtain ⟨len, hk, e⟩ := e
    replace e := req_some e; obtain ⟨hc, e⟩ := e
    obtain ⟨el, jn, hd, hj, hjp, hel, hez⟩ := kind_arr (hI ty T hT) hk
    simp only [Bool.and_eq_true] at hc
    have k0 := leI_true hc.1
    have k1 := blt_true hc.2
    simp only [VRel] at hx
    obtain ⟨l, hl, q⟩ := hx
    refine ⟨_, h, e, Goes_val H (v := .pointer (some (ad l.b (l.base + (off + k.toNat * T.elem))))) ?_ (by simp only [VRel]; exact ⟨l, hl, rfl⟩)⟩
    have k2 : k < (len : Int) := by omega
    simp [execOp, ho, q, hi, Instr.indexAt, asIntOf, run_underlying hd, k0, k2, sizeOf, typeInfo, hj, ad_add, Instr.sureAddr, hel, Nat.add_assoc]
  case sl st ob off len =>
    replace e := ifSlice_some e; obtain ⟨hk, e⟩ := e
    replace e := req_some e; obtain ⟨hc, e⟩ := e
    obtain ⟨el, hd⟩ := kind_slice (hI ty T hT) hk
    obtain ⟨jn, y, hj, hy, hys, hjp, hj64, hjb, hjb0, hel, hez⟩ := slice_T (hI ty T hT) hd
    simp only [Bool.and_eq_true] at hc
    have hst := beq_true hc.1
    have k0 := leI_true hc.2.1
    have k1 := blt_true hc.2.2
    simp only [VRel] at hx
    obtain ⟨l, aa, c, hl, q, q1, q2, q3, q4⟩ := hx
    have q5 := q4 (by omega)
    refine ⟨_, h, e, Goes_val H (v := .pointer (some (ad l.b (l.base + (off + k.toNat * st))))) ?_ (by simp only [VRel]; exact ⟨l, hl, rfl⟩)⟩
    have k2 : k < (len : Int) := by omega
    simp [execOp, ho, q, hi, Instr.indexAt, asIntOf, run_underlying hd, k0, k2, sizeOf, typeInfo, hj, ad_add, q5, hst, hel, Nat.add_assoc]
  all_goals (change none = some r at e; cases e)
theorem bytes_get (c : List UInt8) (k : Nat) : ((⟨c.toArray⟩ : ByteArray)[k]? : Option UInt8) = c[k]? := by
  by_cases h : k < c.length
  · have h' : k < (⟨c.toArray⟩ : ByteArray).size := by simpa [ByteArray.size] using h
    rw [getElem?_pos (⟨c.toArray⟩ : ByteArray) k h', List.getElem?_eq_getElem h]; rfl
  · have h' : ¬ k < (⟨c.toArray⟩ : ByteArray).size := by simpa [ByteArray.size] using h
    rw [getElem?_neg (⟨c.toArray⟩ : ByteArray) k h', List.getElem?_eq_none (by omega)]
theorem cellOfCode_rel (hv : Digits val) (c : Nat) : VRel val M (cellOfCode c) (.int .u8 (val c).toNat) := by
  unfold cellOfCode
  cases hc : isLit c
  · simp only [VRel]; exact ⟨isLit_false hc, trivial⟩
  · simp only [VRel]; rw [val_lit hv (isLit_true hc)]; rfl
theorem op_index {ty : Nat} {x i : Operand} (hv : Digits val) (hI : TOk P I) (H : HR val w M h n) (E : ER val M t a.tmps) (ho : o.op = .index ty x i) (e : evIndex ty x i I O t h nm n K = some r) : ∃ d h', K d h' n = some r ∧ Goes P val a o M w h nm n d h' n := by
  replace e := onSome_some e; obtain ⟨T, hT, e⟩ := e
  replace e := opd_some hv E e; obtain ⟨dx, e, hx⟩ := e
  replace e := opd_some hv E e; obtain ⟨di, e, hi⟩ := e
  replace e := asInt_some e; obtain ⟨ik, k, rfl, e⟩ := e
  simp only [VRel] at hi
  cases dx
  case str c =>
    replace e := ifStr_some e; obtain ⟨hk, e⟩ := e
    replace e := req_some e; obtain ⟨hc, e⟩ := e
    replace e := dropL_some _ _ _ e; obtain ⟨A, B, rfl, hA, e⟩ := e
    have k0 := leI_true hc
    cases B with
    | nil => cases e
    | cons b B =>
      replace e : K (cellOfCode b) h n = some r := e
      simp only [VRel] at hx
      refine ⟨_, h, e, Goes_val H (v := .int .u8 (val b).toNat) ?_ (cellOfCode_rel hv b)⟩
      have g : ((⟨((A ++ b :: B).map val).toArray⟩ : ByteArray)[k.toNat]? : Option UInt8) = some (val b) := by
        rw [bytes_get, List.map_append, List.getElem?_append_right (by simp; omega)]
        simp [hA]
      simp [execOp, ho, hx, hi, Instr.index, asIntOf, run_underlying (kind_str (hI ty T hT) hk), k0] at g ⊢
      simp [g]
  case agg l =>
    replace e := ifArr_some e; obtain ⟨len, hk, e⟩ := e
    replace e := one_some e; obtain ⟨zz, hzz, e⟩ := e
    replace e := req_some e; obtain ⟨hc, e⟩ := e
    replace e := dropL_some _ _ _ e; obtain ⟨A, B, rfl, hA, e⟩ := e
    simp only [Bool.and_eq_true] at hc
    have k0 := leI_true hc.1.1
    have k1 := blt_true hc.1.2
    have k3 := beq_true hc.2
    cases B with
    | nil => cases e
    | cons b B =>
      replace e : K b h n = some r := e
      simp only [VRel] at hx
      obtain ⟨vs, hvs, hx⟩ := hx
      obtain ⟨el, jn, hd, hj, hjp, hel, hez⟩ := kind_arr (hI ty T hT) hk
      obtain ⟨v, g1, g2⟩ := VRelL_get (i := k.toNat) (d := b) hx (by rw [List.getElem?_append_right (by omega), hA]; simp)
      refine ⟨_, h, e, Goes_val H (v := v) ?_ g2⟩
      have hna : aggOrNone P el = false := by
        cases q : aggOrNone P el
        · rfl
        · rw [hez, q] at hzz; simp at hzz
      have hagg : (isAgg el).run P w = .ok false w := by
        unfold aggOrNone isAggT at hna
        cases hu : P.underlying el with
        | none => rw [hu] at hna; simp at hna
        | some u => rw [hu] at hna; cases u <;> simp only [Option.isNone, Bool.or_false] at hna <;> first | (cases hna; done) | exact (by simp [isAgg, run_underlying hu])
      have k2 : k < (len : Int) := by omega
      have g3 : vs[k.toNat * jn.size]? = some v := by rw [← hel, k3, Nat.mul_one, ← Array.getElem?_toList]; exact g1
      simp [execOp, ho, hvs, hi, Instr.index, asIntOf, run_underlying hd, k0, k2, sizeOf, typeInfo, hj, part, hagg, g3]
  all_goals (change none = some r at e; cases e)
theorem op_len {c : Call} {ty : Nat} {d : D} {T : T} {K : D → Option R} (hv : Digits val) (H : HR val w M h n) (ho : o.op = .call c) (hc : c.callee = .builtin .len) (hds : VRelL val M [d] (c.args.toList.map a.eval)) {rest : List Nat} (hty : c.argTypes.toList = ty :: rest)
    (hT : tOf P ty = some T) (e : lenK T d K = some r) : ∃ d, K d = some r ∧ Goes P val a o M w h nm n d h n := by
  simp only [VRelL] at hds
  obtain ⟨v, _, he, hr, rfl⟩ := hds
  have hargs : c.args.map a.eval = #[v] := by apply Array.ext'; simpa using he
  have hty0 : c.argTypes[0]? = some ty := by rw [← Array.getElem?_toList, hty]; rfl
  have run : ∀ m : Nat, (∀ w, (Builtin.len_ c.argTypes o.type #[v]).run P w = .ok (.int .i64 m) w) → (execOp a.eval o).run P w = .ok (.value (.int .i64 m)) w := fun m q => by
    simp [execOp, ho, resolve, hc, hargs, invoke, builtin, q]
  unfold lenK at e
  cases hk : T.kind <;> rw [hk] at e
  case str =>
    replace e := asStr_some e; obtain ⟨s, rfl, e⟩ := e
    simp only [VRel] at hr
    subst hr
    have hu := kind_str hT hk
    exact ⟨_, e, Goes_val H (run s.length fun w => by simp [Builtin.len_, hty0, run_underlying hu, goInt, size_mk]) (by simp [VRel])⟩
  case slice =>
    obtain ⟨el, hu⟩ := kind_slice hT hk
    have go : ∀ A k C, v = .slice A k C → (execOp a.eval o).run P w = .ok (.value (.int .i64 k)) w := fun A k C q => by
      subst q
      exact run k fun w => by simp [Builtin.len_, hty0, run_underlying hu, goInt]
    cases d
    case nils => simp only [VRel] at hr; exact ⟨_, e, Goes_val H (go _ _ _ hr) (by simp [VRel])⟩
    case sl st ob off len => simp only [VRel] at hr; obtain ⟨l, aa, cc, _, q, _⟩ := hr; exact ⟨_, e, Goes_val H (go _ _ _ q) (by simp [VRel])⟩
    all_goals (change none = some r at e; cases e)
  all_goals (change none = some r at e; cases e)

theorem bytes_extract (c : List UInt8) (l r : Nat) : ((⟨c.toArray⟩ : ByteArray).extract l r) = ⟨((c.drop l).take (r - l)).toArray⟩ := by
  apply ByteArray.ext
  apply Array.ext'
  simp [List.extract_eq_take_drop]
theorem run_bounds {b : Bool} {len cap : Nat} {lo hi : Option Value} {l r : Int} {k1 k2 : IntKind} (hl : lo = some (.int k1 l) ∨ lo = none ∧ l = 0) (hr : hi = some (.int k2 r) ∨ hi = none ∧ r = len) (h0 : 0 ≤ l) (h1 : l ≤ r) (h2 : r ≤ len) (h3 : len ≤ cap) :
    (Instr.sliceBounds b len cap lo hi none).run P w = .ok (l.toNat, r.toNat, cap) w := by
  have hr0 : 0 ≤ r := by omega
  have hrc : r ≤ cap := by omega
  rcases hl with rfl | ⟨rfl, rfl⟩ <;> rcases hr with rfl | ⟨rfl, rfl⟩ <;>
    simp [Instr.sliceBounds, Instr.sliceBound, asIntOf, h0, h1, hr0, hrc, Int.toNat_of_nonneg] <;> omega
theorem op_slice {ty : Nat} {x : Operand} {lo hi mx : Option Operand} (hv : Digits val) (hI : TOk P I) (H : HR val w M h n) (E : ER val M t a.tmps) (ho : o.op = .slice ty x lo hi mx) (e : evSliceOp ty x lo hi mx I O t h nm n K = some r) :
    ∃ d h', K d h' n = some r ∧ Goes P val a o M w h nm n d h' n := by
  cases mx with
  | some _ => cases e
  | none =>
  replace e : (onSome (I.ti ty) fun T => opd t x fun d => onSome (lenOf d) fun m => optOpd t lo (.int .i64 (.ofNat 0)) fun dl => optOpd t hi (.int .i64 (.ofNat m)) fun dr =>
    asInt dl fun _ l => asInt dr fun _ r => req (leI 0 l && leI l r) (sliceD T d l.toNat r.toNat fun d => K d h n)) = some r := e
  replace e := onSome_some e; obtain ⟨T, hT, e⟩ := e
  replace e := opd_some hv E e; obtain ⟨d, e, hx⟩ := e
  replace e := onSome_some e; obtain ⟨len, hlen, e⟩ := e
  have bound : ∀ {y : Option Operand} {d0 : D} {K' : D → Option R}, optOpd t y d0 K' = some r → ∃ d, K' d = some r ∧ (y.map a.eval = none ∧ d = d0 ∨ ∃ v, y.map a.eval = some v ∧ VRel val M d v) := fun e => by
    rcases optOpd_some hv E e with ⟨rfl, e⟩ | ⟨y, d, rfl, e, hr⟩
    · exact ⟨_, e, .inl ⟨rfl, rfl⟩⟩
    · exact ⟨d, e, .inr ⟨_, rfl, hr⟩⟩
  replace e := bound e; obtain ⟨dl, e, hl⟩ := e
  replace e := bound e; obtain ⟨dr, e, hr⟩ := e
  clear bound
  replace e := asInt_some e; obtain ⟨k1, l, rfl, e⟩ := e
  replace e := asInt_some e; obtain ⟨k2, r', rfl, e⟩ := e
  have hl' : lo.map a.eval = some (.int k1 l) ∨ lo.map a.eval = none ∧ l = 0 := by
    rcases hl with ⟨q1, q2⟩ | ⟨v, q1, q2⟩
    · cases q2; exact .inr ⟨q1, rfl⟩
    · simp only [VRel] at q2; subst q2; exact .inl q1
  have hr' : hi.map a.eval = some (.int k2 r') ∨ hi.map a.eval = none ∧ r' = len := by
    rcases hr with ⟨q1, q2⟩ | ⟨v, q1, q2⟩
    · cases q2; exact .inr ⟨q1, rfl⟩
    · simp only [VRel] at q2; subst q2; exact .inl q1
  replace e := req_some e; obtain ⟨hc, e⟩ := e
  simp only [Bool.and_eq_true] at hc
  have h0 := leI_true hc.1
  have h1 := leI_true hc.2
  cases d
  case str c =>
    replace e := ifStr_some e; obtain ⟨hk, e⟩ := e
    replace e := dropL_some _ _ _ e; obtain ⟨A, B, rfl, hA, e⟩ := e
    replace e := takeL_some _ _ _ e; obtain ⟨B, C, rfl, hB, e⟩ := e
    have hlen' : len = (A ++ (B ++ C)).length := by cases hlen; rfl
    simp only [VRel] at hx
    have hd := kind_str (hI ty T hT) hk
    have h2 : r' ≤ ((A ++ (B ++ C)).map val).length := by simp only [List.length_map, List.length_append] at *; simp only [Nat.sub_eq] at hB; omega
    have bd := run_bounds (P := P) (w := w) (b := false) (cap := ((A ++ (B ++ C)).map val).length) hl' (by rw [hlen', ← List.length_map (f := val)] at hr'; exact hr') h0 h1 h2 (Nat.le_refl _)
    refine ⟨_, h, e, Goes_val H (v := .string ⟨(B.map val).toArray⟩) ?_ (by simp [VRel])⟩
    simp only [Nat.sub_eq] at hB
    have ex : (((A ++ (B ++ C)).map val).drop l.toNat).take (r'.toNat - l.toNat) = B.map val := by
      rw [List.map_append, List.map_append, List.drop_append_of_le_length (by simp; omega), List.drop_eq_nil_of_le (by simp; omega), List.nil_append, List.take_append_of_le_length (by simp; omega), List.take_of_length_le (by simp; omega)]
    generalize (A ++ (B ++ C)).map val = S at *
    simp only [execOp, ho]
    simp [Instr.sliceAt, Instr.slice, run_underlying hd, hx, size_mk, bd, bytes_extract, ex]
  case nils =>
    replace e := ifSlice_some e; obtain ⟨hk, e⟩ := e
    replace e := req_some e; obtain ⟨hc2, e⟩ := e
    obtain ⟨el, hd⟩ := kind_slice (hI ty T hT) hk
    obtain ⟨jn, y, hj, hy, hys, hjp, hj64, hjb, hjb0, hel, hez⟩ := slice_T (hI ty T hT) hd
    have hr0 : r' = 0 := by have := beq_true hc2; omega
    have hl0 : l = 0 := by omega
    subst hr0 hl0
    cases hlen
    simp only [VRel] at hx
    have bd := run_bounds (P := P) (w := w) (b := true) (len := 0) (cap := 0) hl' hr' h0 h1 (by omega) (Nat.le_refl _)
    refine ⟨_, h, e, Goes_val H (v := .slice none 0 0) ?_ (by simp [VRel])⟩
    simp only [execOp, ho]
    simp [Instr.sliceAt, Instr.slice, run_underlying hd, hx, bd, sizeOf, typeInfo, hj]
  case sl st ob off ln =>
    replace e := ifSlice_some e; obtain ⟨hk, e⟩ := e
    replace e := req_some e; obtain ⟨hc2, e⟩ := e
    simp only [Bool.and_eq_true] at hc2
    have h2 := ble_true hc2.1
    have hst := beq_true hc2.2
    obtain ⟨el, hd⟩ := kind_slice (hI ty T hT) hk
    obtain ⟨jn, y, hj, hy, hys, hjp, hj64, hjb, hjb0, hel, hez⟩ := slice_T (hI ty T hT) hd
    obtain rfl : ln = len := by cases hlen; rfl
    simp only [VRel] at hx
    obtain ⟨lc, aa, c, hM, hvx, q1, q2, q3, q4⟩ := hx
    have bd := run_bounds (P := P) (w := w) (b := true) (len := ln) (cap := c) hl' hr' h0 h1 (by omega) q1
    refine ⟨_, h, e, Goes_val H (v := .slice (some (if c = l.toNat then ad lc.b aa else ad lc.b (aa + l.toNat * jn.size))) (r'.toNat - l.toNat) (c - l.toNat)) ?_ ?_⟩
    · simp only [execOp, ho]
      simp [Instr.sliceAt, Instr.slice, run_underlying hd, hvx, bd, sizeOf, typeInfo, hj, ad_add]
      split <;> rfl
    · simp only [VRel]
      refine ⟨lc, if c = l.toNat then aa else aa + l.toNat * jn.size, c - l.toNat, hM, ?_, ?_, q2, ?_, fun q => ?_⟩
      · split <;> rfl
      · simp only [Nat.sub_eq]; omega
      · have : (c - l.toNat) * st + l.toNat * st = c * st := by rw [← Nat.add_mul]; congr 1; omega
        simp only [Nat.add_eq, Nat.mul_eq]; omega
      · rw [if_neg (by omega), q4 (by omega), hst, hel]
        simp only [Nat.add_eq, Nat.mul_eq]; omega
  all_goals (change none = some r at e; cases e)
end
end Go.Gh
