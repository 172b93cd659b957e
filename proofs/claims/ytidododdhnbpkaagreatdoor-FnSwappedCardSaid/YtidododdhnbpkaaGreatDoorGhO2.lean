import Derived.Test.YtidododdhnbpkaaGreatDoorGhO1
import Derived.IntWalk
import Derived.Laws.MakeOwn
import Derived.Laws.Small
import Derived.Laws.StructEq
import Derived.Laws.Strings
set_option linter.unusedVariables false
set_option linter.unnecessarySimpa false
set_option linter.unusedSimpArgs false
namespace Go.Gh
open Go.RowKit
/-! ### Numbers -/
theorem eqI_eq (a b : Int) : eqI a b = (a == b) := by
  cases a <;> cases b <;> simp only [eqI]
  · rename_i n m
    cases h : Nat.beq n m
    · have := Nat.ne_of_beq_eq_false h; simp; omega
    · have := Nat.eq_of_beq_eq_true h; simp [this]
  · simp
  · simp
  · rename_i n m
    cases h : Nat.beq n m
    · have := Nat.ne_of_beq_eq_false h; simp; omega
    · have := Nat.eq_of_beq_eq_true h; simp [this]
theorem blt_iff {n m : Nat} : Nat.blt n m = true ↔ n < m := by rw [Nat.blt_eq]
theorem ble_iff {n m : Nat} : Nat.ble n m = true ↔ n ≤ m := by rw [Nat.ble_eq]
theorem blt_eq (n m : Nat) : Nat.blt n m = decide (n < m) := by
  rw [Bool.eq_iff_iff, blt_iff]; simp
theorem ble_eq (n m : Nat) : Nat.ble n m = decide (n ≤ m) := by
  rw [Bool.eq_iff_iff, ble_iff]; simp
theorem beq_true {n m : Nat} (h : Nat.beq n m = true) : n = m := Nat.eq_of_beq_eq_true h
theorem blt_true {n m : Nat} (h : Nat.blt n m = true) : n < m := blt_iff.1 h
theorem ble_true {n m : Nat} (h : Nat.ble n m = true) : n ≤ m := ble_iff.1 h
theorem ltI_eq (a b : Int) : ltI a b = decide (a < b) := by
  rw [Bool.eq_iff_iff]
  cases a <;> cases b <;> simp only [ltI, blt_eq, decide_eq_true_eq, Int.ofNat_eq_natCast, Bool.false_eq_true, false_iff, true_iff, iff_self] <;> omega
theorem leI_eq (a b : Int) : leI a b = decide (a ≤ b) := by
  rw [Bool.eq_iff_iff]
  cases a <;> cases b <;> simp only [leI, ble_eq, decide_eq_true_eq, Int.ofNat_eq_natCast, Bool.false_eq_true, false_iff, true_iff, iff_self] <;> omega
theorem leI_true {a b : Int} (h : leI a b = true) : a ≤ b := by rw [leI_eq] at h; exact of_decide_eq_true h
theorem ltI_true {a b : Int} (h : ltI a b = true) : a < b := by rw [ltI_eq] at h; exact of_decide_eq_true h
theorem addI_eq (a b : Int) : addI a b = a + b := by cases a <;> cases b <;> simp only [addI] <;> rfl
theorem subI_eq (a b : Int) : subI a b = a - b := by
  cases a <;> cases b <;> simp only [subI]
  rename_i n m
  cases h : Nat.ble m n
  · rfl
  · have := ble_true h
    show (Int.ofNat (n - m)) = Int.ofNat n - Int.ofNat m
    simp only [Int.ofNat_eq_natCast]; omega
theorem wrapF_eq (k : IntKind) (x : Int) : wrapF k x = k.wrap x := by
  cases x with
  | ofNat n =>
    simp only [wrapF]
    cases h : Nat.blt n (limit k)
    · rfl
    · have h := blt_true h
      cases k <;> simp only [limit] at h <;> simp only [IntKind.wrap, IntKind.signed, IntKind.bits] <;> simp <;> omega
  | negSucc n =>
    simp only [wrapF]
    cases hs : isSigned k
    · rfl
    · cases h : Nat.blt n (limit k)
      · rfl
      · have h := blt_true h
        cases k <;> simp only [isSigned] at hs <;> first
          | (cases hs; done)
          | (simp only [limit] at h
             rw [show Int.negSucc n = -(n : Int) - 1 by omega]
             simp only [IntKind.wrap, IntKind.signed, IntKind.bits, Int.reducePow, Nat.reduceSub, Bool.true_and, decide_eq_true_eq, ge_iff_le]
             split <;> omega)
theorem eqB_eq (a b : Bool) : eqB a b = (a == b) := by cases a <;> cases b <;> rfl
theorem ikEq_true : ∀ {k k' : IntKind}, ikEq k k' = true → k = k' := by
  intro k k' h
  cases k <;> cases k' <;> first | rfl | (simp [ikEq] at h)

/-! ### Codes -/
section
variable {val : Nat → UInt8}
theorem isLit_true {c : Nat} (h : isLit c = true) : c < 256 := blt_true h
theorem isLit_false {c : Nat} (h : isLit c = false) : 256 ≤ c := by
  unfold isLit at h; rw [blt_eq] at h; have := of_decide_eq_false h; omega
theorem val_lit (hv : Digits val) {c : Nat} (h : c < 256) : (val c).toNat = c := by
  rw [hv.lit c h]; show c % 256 = c; exact Nat.mod_eq_of_lt h
theorem isDig_false {c : Nat} (h : isDig c = false) : c < 48 ∨ 57 < c := by
  unfold isDig at h; rw [ble_eq, ble_eq] at h
  simp only [Bool.and_eq_false_iff, decide_eq_false_iff_not] at h; omega
theorem sameC_eq (hv : Digits val) {a b : Nat} {c : Bool} (h : sameC a b = some c) : (val a == val b) = c := by
  unfold sameC at h
  cases hab : Nat.beq a b
  · rw [hab] at h
    have hne := Nat.ne_of_beq_eq_false hab
    simp only at h
    cases ha : isLit a <;> cases hb : isLit b <;> rw [ha, hb] at h <;> simp only at h
    · cases h
    · cases hd : isDig b <;> rw [hd] at h <;> simp only at h <;> cases h
      have h1 := hv.dig a (isLit_false ha)
      have h2 := val_lit hv (isLit_true hb)
      have h3 := isDig_false hd
      simp only [beq_eq_false_iff_ne, ne_eq]
      intro q; rw [q] at h1; omega
    · cases hd : isDig a <;> rw [hd] at h <;> simp only at h <;> cases h
      have h1 := hv.dig b (isLit_false hb)
      have h2 := val_lit hv (isLit_true ha)
      have h3 := isDig_false hd
      simp only [beq_eq_false_iff_ne, ne_eq]
      intro q; rw [← q] at h1; omega
    · cases h
      have h1 := val_lit hv (isLit_true ha)
      have h2 := val_lit hv (isLit_true hb)
      simp only [beq_eq_false_iff_ne, ne_eq]
      intro q; rw [q] at h1; omega
  · rw [hab] at h; cases h
    rw [beq_true hab]; simp
theorem sameS_eq (hv : Digits val) : ∀ {x y : List Nat} {c : Bool}, sameS x y = some c → (x.map val == y.map val) = c
  | [], [], c, h => by simp only [sameS] at h; cases h; rfl
  | [], _ :: _, c, h => by simp only [sameS] at h; cases h; rfl
  | _ :: _, [], c, h => by simp only [sameS] at h; cases h; rfl
  | a :: x, b :: y, c, h => by
    simp only [sameS] at h
    split at h
    · rename_i q
      have h1 := sameC_eq hv q
      have h2 := sameS_eq hv h
      simp only [List.map_cons, List.cons_beq_cons, h1, h2, Bool.true_and]
    · rename_i q
      have h1 := sameC_eq hv q
      cases h
      simp only [List.map_cons, List.cons_beq_cons, h1, Bool.false_and]
    · cases h
theorem lessS_eq (hv : Digits val) : ∀ {x y : List Nat} {c : Bool}, lessS x y = some c → Op.bytesLess (x.map val) (y.map val) = c
  | x, [], c, h => by cases x <;> (simp only [lessS] at h; cases h; simp [Op.bytesLess])
  | [], _ :: _, c, h => by simp only [lessS] at h; cases h; rfl
  | a :: x, b :: y, c, h => by
    simp only [lessS] at h
    simp only [List.map_cons, Op.bytesLess]
    split at h
    · rename_i q
      rw [beq_true q, lessS_eq hv h]
      simp
    · rename_i q
      split at h
      · rename_i q2
        simp only [Bool.and_eq_true] at q2
        have ha := val_lit hv (isLit_true q2.1)
        have hb := val_lit hv (isLit_true q2.2)
        have hne := Nat.ne_of_beq_eq_false q
        cases h
        have : (val a == val b) = false := by
          simp only [beq_eq_false_iff_ne, ne_eq]; intro q; rw [q] at ha; omega
        rw [this, blt_eq]
        simp [UInt8.lt_iff_toNat_lt, ha, hb]
      · cases h
theorem bytes_toList (l : List UInt8) : (⟨l.toArray⟩ : ByteArray).toList = l := by rw [ByteArray.toList_eq]
theorem bytes_append (x y : List UInt8) : (⟨x.toArray⟩ ++ ⟨y.toArray⟩ : ByteArray) = ⟨(x ++ y).toArray⟩ := by
  apply ByteArray.ext
  rw [ByteArray.data_append]
  simp
theorem size_mk (l : List UInt8) : (⟨l.toArray⟩ : ByteArray).size = l.length := by simp [ByteArray.size]
end

section
variable {P : Program} {I : Info} {O : Oracle} {val : Nat → UInt8} {a : Act} {o : Oper} {M : Mp} {w : World} {h : Heap} {t : Env} {nm n : Nat} {r : R} {K : D → Heap → Nat → Option R}
theorem run_guard_int {op : BinOp} {t : TypeId} {x y : Operand} {k k' : IntKind} {p q : Int} : (eqGuard op t x y (.int k p) (.int k' q)).run P w = .ok () w := by
  cases op <;> simp [eqGuard]
theorem run_guard_str {op : BinOp} {t : TypeId} {x y : Operand} {p q : ByteArray} : (eqGuard op t x y (.string p) (.string q)).run P w = .ok () w := by
  cases op <;> simp [eqGuard]
theorem run_guard_bool {op : BinOp} {t : TypeId} {x y : Operand} {p q : Bool} : (eqGuard op t x y (.bool p) (.bool q)).run P w = .ok () w := by
  cases op <;> simp [eqGuard]
theorem symCmp_run {op : BinOp} {t : TypeId} {k : IntKind} {x c : Int} {b : Bool} (h1 : 48 ≤ x) (h2 : x ≤ 57) (e : symCmp op c = some b) : (binOp op t (.int k x) (.int k c)).run P w = .ok (.bool b) w := by
  cases op <;> simp only [symCmp] at e
  all_goals first
    | (cases e; done)
    | skip
  all_goals
    simp only [binOp, Op.intCmp, ne_eq, not_true_eq_false, if_false]
    (repeat' split at e) <;> cases e <;> simp <;> omega
theorem symCmp_flip {op : BinOp} {t : TypeId} {k : IntKind} {x c : Int} {b : Bool} (h1 : 48 ≤ x) (h2 : x ≤ 57) (e : symCmp (flipOp op) c = some b) : (binOp op t (.int k c) (.int k x)).run P w = .ok (.bool b) w := by
  cases op <;> simp only [flipOp, symCmp] at e
  all_goals first
    | (cases e; done)
    | skip
  all_goals
    simp only [binOp, Op.intCmp, ne_eq, not_true_eq_false, if_false]
    (repeat' split at e) <;> cases e <;> simp <;> omega
theorem intInt_run {op : BinOp} {t : TypeId} {k k' : IntKind} {p q : Int} {K : D → Option R} (e : intInt op k k' p q K = some r) : ∃ d v, K d = some r ∧ (binOp op t (.int k p) (.int k' q)).run P w = .ok v w ∧ VRel val M d v := by
  unfold intInt at e
  by_cases hs : op = .shl ∨ op = .shr
  · rcases hs with rfl | rfl
    · replace e : aShl k p q K = some r := e
      obtain ⟨h0, e⟩ := req_some e
      exact ⟨_, _, e, by simp [binOp, Op.shift, Int.not_lt.2 (leI_true h0)]; rfl, by simp [VRel]⟩
    · replace e : aShr k p q K = some r := e
      obtain ⟨h0, e⟩ := req_some e
      exact ⟨_, _, e, by simp [binOp, Op.shift, Int.not_lt.2 (leI_true h0)]; rfl, by simp [VRel]⟩
  · have hs' : (shiftI op : Option ArithFn) = none := by cases op <;> first | rfl | exact absurd (.inl rfl) hs | exact absurd (.inr rfl) hs
    rw [hs'] at e
    simp only at e
    replace e := req_some e
    obtain ⟨hk, e⟩ := e
    have := ikEq_true hk
    subst this
    clear hs' hk
    cases op
    case shl => exact absurd (.inl rfl) hs
    case shr => exact absurd (.inr rfl) hs
    case quo =>
      replace e : aQuo k p q K = some r := e
      simp only [aQuo, wrapF_eq, eqI_eq] at e
      obtain ⟨h0, e⟩ := req_some e
      exact ⟨_, _, e, by simp [binOp, Op.intDiv, show q ≠ 0 by simpa using h0]; rfl, by simp [VRel]⟩
    case rem =>
      replace e : aRem k p q K = some r := e
      simp only [aRem, eqI_eq] at e
      obtain ⟨h0, e⟩ := req_some e
      exact ⟨_, _, e, by simp [binOp, Op.intDiv, show q ≠ 0 by simpa using h0]; rfl, by simp [VRel]⟩
    case add =>
      replace e : aAdd k p q K = some r := e
      simp only [aAdd, wrapF_eq, eqI_eq, ltI_eq, leI_eq, addI_eq, subI_eq] at e
      exact ⟨_, _, e, by simp [binOp, Op.intArith]; rfl, by simp [VRel]⟩
    case sub =>
      replace e : aSub k p q K = some r := e
      simp only [aSub, wrapF_eq, eqI_eq, ltI_eq, leI_eq, addI_eq, subI_eq] at e
      exact ⟨_, _, e, by simp [binOp, Op.intArith]; rfl, by simp [VRel]⟩
    case mul =>
      replace e : aMul k p q K = some r := e
      simp only [aMul, wrapF_eq, eqI_eq, ltI_eq, leI_eq, addI_eq, subI_eq] at e
      exact ⟨_, _, e, by simp [binOp, Op.intArith]; rfl, by simp [VRel]⟩
    case and =>
      replace e : aAnd k p q K = some r := e
      simp only [aAnd, wrapF_eq, eqI_eq, ltI_eq, leI_eq, addI_eq, subI_eq] at e
      exact ⟨_, _, e, by simp [binOp, Op.intBits]; rfl, by simp [VRel]⟩
    case or =>
      replace e : aOr k p q K = some r := e
      simp only [aOr, wrapF_eq, eqI_eq, ltI_eq, leI_eq, addI_eq, subI_eq] at e
      exact ⟨_, _, e, by simp [binOp, Op.intBits]; rfl, by simp [VRel]⟩
    case xor =>
      replace e : aXor k p q K = some r := e
      simp only [aXor, wrapF_eq, eqI_eq, ltI_eq, leI_eq, addI_eq, subI_eq] at e
      exact ⟨_, _, e, by simp [binOp, Op.intBits]; rfl, by simp [VRel]⟩
    case eql =>
      replace e : aEql k p q K = some r := e
      simp only [aEql, wrapF_eq, eqI_eq, ltI_eq, leI_eq, addI_eq, subI_eq] at e
      exact ⟨_, _, e, by simp [binOp, Op.intCmp]; rfl, by simp [VRel]⟩
    case lss =>
      replace e : aLss k p q K = some r := e
      simp only [aLss, wrapF_eq, eqI_eq, ltI_eq, leI_eq, addI_eq, subI_eq] at e
      exact ⟨_, _, e, by simp [binOp, Op.intCmp]; rfl, by simp [VRel]⟩
    case leq =>
      replace e : aLeq k p q K = some r := e
      simp only [aLeq, wrapF_eq, eqI_eq, ltI_eq, leI_eq, addI_eq, subI_eq] at e
      exact ⟨_, _, e, by simp [binOp, Op.intCmp]; rfl, by simp [VRel]⟩
    case gtr =>
      replace e : aGtr k p q K = some r := e
      simp only [aGtr, wrapF_eq, eqI_eq, ltI_eq, leI_eq, addI_eq, subI_eq] at e
      exact ⟨_, _, e, by simp [binOp, Op.intCmp]; rfl, by simp [VRel]⟩
    case geq =>
      replace e : aGeq k p q K = some r := e
      simp only [aGeq, wrapF_eq, eqI_eq, ltI_eq, leI_eq, addI_eq, subI_eq] at e
      exact ⟨_, _, e, by simp [binOp, Op.intCmp]; rfl, by simp [VRel]⟩
    case neq =>
      replace e : aNeq k p q K = some r := e
      simp only [aNeq, eqI_eq] at e
      exact ⟨_, .bool (p != q), e, by simp [binOp, Op.intCmp], by simp only [VRel]; rfl⟩
    all_goals (change none = some r at e; cases e)
theorem arithS_run (hv : Digits val) {op : BinOp} {t : TypeId} {p q : List Nat} {K : D → Option R} (e : arithS op p q K = some r) : ∃ d v, K d = some r ∧ (binOp op t (.string ⟨(p.map val).toArray⟩) (.string ⟨(q.map val).toArray⟩)).run P w = .ok v w ∧ VRel val M d v := by
  cases op <;> simp only [arithS] at e
  case add =>
    obtain ⟨h0, e⟩ := req_some e
    rw [catL_eq] at e
    refine ⟨_, .string ⟨((p ++ q).map val).toArray⟩, e, ?_, by simp [VRel]⟩
    have h0 := ble_true h0
    have : ¬ ((((p.map val).length + (q.map val).length : Nat) : Int) > IntKind.i64.max) := by
      have : IntKind.i64.max = 9223372036854775807 := by decide
      simp only [List.length_map, Nat.add_eq] at *; omega
    simp only [binOp, Op.stringOp, size_mk, bytes_append]
    rw [if_neg this, List.map_append]; rfl
  case eql =>
    unfold boolK at e
    split at e
    · rename_i b hb
      exact ⟨_, .bool b, e, by simp only [binOp, Op.stringOp, bytes_toList]; rw [sameS_eq hv hb]; rfl, by simp [VRel]⟩
    · cases e
  case neq =>
    obtain ⟨b, hb, e⟩ := onSome_some e
    exact ⟨_, .bool (!b), e, by simp only [binOp, Op.stringOp, bytes_toList]; rw [sameS_eq hv hb]; rfl, by simp [VRel]⟩
  case lss =>
    unfold boolK at e
    split at e
    · rename_i b hb
      exact ⟨_, .bool b, e, by simp only [binOp, Op.stringOp, bytes_toList]; rw [lessS_eq hv hb]; rfl, by simp [VRel]⟩
    · cases e
  case geq =>
    obtain ⟨b, hb, e⟩ := onSome_some e
    exact ⟨_, .bool (!b), e, by simp only [binOp, Op.stringOp, bytes_toList]; rw [lessS_eq hv hb]; rfl, by simp [VRel]⟩
  case leq =>
    unfold orSame at e
    split at e
    · rename_i hb
      exact ⟨_, .bool true, e, by simp only [binOp, Op.stringOp, bytes_toList]; rw [lessS_eq hv hb]; rfl, by simp [VRel]⟩
    · rename_i hb
      split at e
      · rename_i b hb2
        exact ⟨_, .bool b, e, by simp only [binOp, Op.stringOp, bytes_toList]; rw [lessS_eq hv hb, sameS_eq hv hb2]; simp, by simp [VRel]⟩
      · cases e
    · cases e
  case gtr =>
    unfold orSame at e
    split at e
    · rename_i hb
      exact ⟨_, .bool (!true), e, by simp only [binOp, Op.stringOp, bytes_toList]; rw [lessS_eq hv hb]; rfl, by simp [VRel]⟩
    · rename_i hb
      split at e
      · rename_i b hb2
        exact ⟨_, .bool (!b), e, by simp only [binOp, Op.stringOp, bytes_toList]; rw [lessS_eq hv hb, sameS_eq hv hb2]; simp, by simp [VRel]⟩
      · cases e
    · cases e
  all_goals (change none = some r at e; cases e)
theorem same1_run (hv : Digits val) {k : Kind} {x y : D} {v v' : Value} {c : Bool} {ty : TypeId} {u : TypeDesc} (d : Nat) (hu : P.underlying ty = some u) (hk : match k with | .int k => u = .int k | .bool => u = .bool | .str => u = .string | _ => False)
    (hx : VRel val M x v) (hy : VRel val M y v') (e : same1 k x y = some c) : (Op.equalIn (d + 1) ty v v').run P w = .ok c w := by
  cases k <;> simp only at hk <;> simp only [same1] at e
  case int k =>
    subst hk
    cases x <;> simp only at e
    case int k1 p =>
      cases y <;> simp only at e
      case int k2 q =>
        cases hkk : ikEq k1 k2 <;> rw [hkk] at e <;> simp only at e
        · cases e
        · have := ikEq_true hkk
          subst this
          cases e
          simp only [VRel] at hx hy
          subst hx hy
          rw [eqI_eq]
          exact run_equalIn_int w d ty _ _ p q hu
      all_goals cases e
    all_goals cases e
  case bool =>
    subst hk
    cases x <;> simp only at e
    case bool p =>
      cases y <;> simp only at e
      case bool q =>
        cases e
        simp only [VRel] at hx hy
        subst hx hy
        rw [eqB_eq]
        exact run_equalIn_bool' w d ty p q hu
      all_goals cases e
    all_goals cases e
  case str =>
    subst hk
    cases x <;> simp only at e
    case str p =>
      cases y <;> simp only at e
      case str q =>
        simp only [VRel] at hx hy
        subst hx hy
        rw [run_equalIn_string w d ty _ _ hu, bytes_toList, bytes_toList, sameS_eq hv e]
      all_goals cases e
    all_goals cases e
theorem eqFields_run (hv : Digits val) (d : Nat) : ∀ (fs : List Field) (i : Nat) (ks : List Kind) (as bs : List D) (xs ys : Array Value) (b : Bool),
    kindsOf P fs i = some ks → VRelL val M as (xs.toList.drop i) → VRelL val M bs (ys.toList.drop i) → sameK ks as bs = some b → (Op.eqFields (d + 1) xs ys fs).run P w = .ok b w
  | [], i, ks, as, bs, xs, ys, b, hf, ha, hb, e => by
    simp only [kindsOf, Option.some.injEq] at hf
    subst hf
    cases as <;> cases bs <;> simp only [sameK] at e
    · cases e; simp [Op.eqFields]
    all_goals cases e
  | f :: fs, i, ks, as, bs, xs, ys, b, hf, ha, hb, e => by
    simp only [kindsOf] at hf
    split at hf
    · rename_i hc
      obtain ⟨hoff, hname⟩ := hc
      have key : ∃ k ks' u, ks = k :: ks' ∧ kindsOf P fs (i + 1) = some ks' ∧ P.underlying f.type = some u ∧ (match k with | .int k => u = .int k | .bool => u = .bool | .str => u = .string | _ => False) ∧ (isAgg f.type).run P w = .ok false w := by
        split at hf
        · rename_i k hu
          obtain ⟨ks', h1, h2⟩ := Option.map_eq_some_iff.1 hf
          exact ⟨_, ks', _, h2.symm, h1, hu, rfl, by simp [isAgg, run_underlying hu]⟩
        · rename_i hu
          obtain ⟨ks', h1, h2⟩ := Option.map_eq_some_iff.1 hf
          exact ⟨_, ks', _, h2.symm, h1, hu, rfl, by simp [isAgg, run_underlying hu]⟩
        · rename_i hu
          obtain ⟨ks', h1, h2⟩ := Option.map_eq_some_iff.1 hf
          exact ⟨_, ks', _, h2.symm, h1, hu, rfl, by simp [isAgg, run_underlying hu]⟩
        · cases hf
      obtain ⟨k, ks', u, rfl, hks, hu, hk, hagg⟩ := key
      cases as with
      | nil => simp only [sameK] at e; cases e
      | cons x as =>
        cases bs with
        | nil => simp only [sameK] at e; cases e
        | cons y bs =>
          simp only [sameK] at e
          simp only [VRelL] at ha hb
          obtain ⟨v, vs, ev, hvx, ha⟩ := ha
          obtain ⟨v', vs', ev', hv', hb⟩ := hb
          have gx : xs[i]? = some v := by rw [← Array.getElem?_toList, ← Nat.add_zero i, ← List.getElem?_drop, ev]; rfl
          have gy : ys[i]? = some v' := by rw [← Array.getElem?_toList, ← Nat.add_zero i, ← List.getElem?_drop, ev']; rfl
          have dx : xs.toList.drop (i + 1) = vs := by rw [← List.drop_drop, ev]; rfl
          have dy : ys.toList.drop (i + 1) = vs' := by rw [← List.drop_drop, ev']; rfl
          have px : (part f.type xs f.offset).run P w = .ok v w := by simp [part, hagg, hoff, gx]
          have py : (part f.type ys f.offset).run P w = .ok v' w := by simp [part, hagg, hoff, gy]
          split at e
          · rename_i e1
            have ih := eqFields_run hv d fs (i + 1) ks' as bs xs ys b hks (by rw [dx]; exact ha) (by rw [dy]; exact hb) e
            have one := same1_run (P := P) (w := w) hv d hu hk hvx hv' e1
            simp only [Op.eqFields, if_pos hname, Sem.run_bind, px, py, one, Result.andThen_ok]
            simp [ih]
          · rename_i e1
            cases e
            have one := same1_run (P := P) (w := w) hv d hu hk hvx hv' e1
            simp only [Op.eqFields, if_pos hname, Sem.run_bind, px, py, one, Result.andThen_ok]
            simp
          · cases e
    · cases hf
theorem cmp_struct {T : T} {ty : Nat} {ks : List Kind} (h : tOf P ty = some T) (hk : T.cmp = some ks) : ∃ fs, P.underlying ty = some (.struct fs) ∧ P.stoodInHeld ty = false ∧ P.eqGuardType P.depth ty = false ∧ kindsOf P fs.toList 0 = some ks := by
  obtain ⟨i, ds, z, hi, hd', hz, hsz, h1, h2, hk'⟩ := tOf_base h
  cases ds <;> simp only at hk'
  case struct fs =>
    rw [hk] at hk'
    have hc := hk'.2.2.2.1
    unfold cmpOf at hc
    split at hc
    · rename_i q; exact ⟨fs, hd', q.1, q.2, hc.symm⟩
    · cases hc
  all_goals first
    | exact hk'.elim
    | (have q : T.cmp = none := by first | exact hk'.2.2.2.1 | exact hk'.2.2.2 | exact hk'.2.2.1
       rw [q] at hk; cases hk)
end
end Go.Gh
