import Derived.Test.YtidododdhnbpkaaGreatDoorGhO7
import Derived.MapKept
import Derived.Laws.RangeString
set_option linter.unusedVariables false
set_option linter.unnecessarySimpa false
set_option linter.unusedSimpArgs false
namespace Go.Gh
open Go.RowKit
section
variable {P : Program} {I : Info} {O : Oracle} {val : Nat → UInt8} {a : Act} {o : Oper} {M : Mp} {w : World} {h : Heap} {t : Env} {nm n : Nat} {r : R}

theorem isBytes_some {T : T} {ty : Nat} {k : Option R} (h : tOf P ty = some T) (e : isBytes T k = some r) : k = some r ∧ ∃ el, P.underlying ty = some (.slice el) ∧ P.underlying el = some (.int .u8) ∧ T.elem = 1 := by
  replace e := ifSlice_some e; obtain ⟨hk, e⟩ := e
  unfold byteZero at e
  split at e
  · rename_i z hz
    obtain ⟨el, hd⟩ := kind_slice h hk
    obtain ⟨j, y, hj, hy, hys, hjp, hj64, hjb, ⟨hjb0, hby⟩, hel, hez⟩ := slice_T h hd
    refine ⟨e, el, hd, ?_, ?_⟩
    · rw [hz] at hez
      match hl : y.cells.toList, hez with
      | [], hez => simp at hez
      | _ :: _ :: _, hez => simp at hez
      | [v], hez =>
        rw [hl] at hby
        simp only [List.map_cons, List.map_nil, List.cons.injEq, and_true] at hez
        unfold dOf at hez
        split at hez <;> cases hez
        simp only [byteOk] at hby
        split at hby
        · assumption
        · cases hby
    · have : T.ezero.length = T.elem := by rw [hez, hel, ← hys]; simp
      rw [hz] at this
      exact this.symm
  · cases e
theorem codeOfCell_some (hv : Digits val) {d : D} {c : Nat} {v : Value} (h : codeOfCell d = some c) (hr : VRel val M d v) : ∃ n : Int, v = .int .u8 n ∧ val c = UInt8.ofNat n.toNat := by
  unfold codeOfCell at h
  split at h
  · rename_i n
    simp only [VRel] at hr
    split at h
    · rename_i q; cases h
      exact ⟨_, hr, hv.lit _ (isLit_true q)⟩
    · cases h
  · rename_i c'
    simp only [VRel] at hr
    split at h
    · cases h
    · cases h
      exact ⟨_, hr.2, by simp⟩
  · cases h
theorem bytes_ext {x y : ByteArray} (h : x.data.toList = y.data.toList) : x = y := by
  apply ByteArray.ext; apply Array.ext'; exact h
theorem cellsIn_kind {st : Nat} {d : D} {K : List D → Nat → Option R} (e : cellsIn h st d K = some r) : (∃ s, d = .str s) ∨ d = .nils ∨ ∃ st o off len, d = .sl st o off len := by
  cases d <;> first
    | exact .inl ⟨_, rfl⟩
    | exact .inr (.inl rfl)
    | exact .inr (.inr ⟨_, _, _, _, rfl⟩)
    | (change none = some r at e; cases e)
theorem op_convert {src dst : Nat} {x : Operand} {K : D → Heap → Nat → Option R} (hv : Digits val) (hI : TOk P I) (H : HR val w M h n) (E : ER val M t a.tmps) (hnm : nm < n) (hM : M nm = none) (ho : o.op = .convert src dst x) (e : evConvert src dst x I O t h nm n K = some r) :
    ∃ d h', K d h' n = some r ∧ Goes P val a o M w h nm n d h' n := by
  replace e := onSome_some e; obtain ⟨A, hA, e⟩ := e
  replace e := onSome_some e; obtain ⟨B, hB, e⟩ := e
  replace e := opd_some hv E e; obtain ⟨d, e, hr⟩ := e
  have tA := hI src A hA
  have tB := hI dst B hB
  obtain ⟨ia, da, za, _, hda, _⟩ := tOf_base tA
  have hrun : ∀ {v : Value} {w' : World}, (convert src dst (a.eval x)).run P w = .ok v w' → (execOp a.eval o).run P w = .ok (.value v) w' := fun q => by
    simp [execOp, ho, q]
  unfold convK at e
  cases hk : B.kind <;> rw [hk] at e
  case int k' =>
    replace e : convInt k' d (fun d => K d h n) = some r := e
    have hd := kind_int tB hk
    cases d
    case int k p =>
      simp only [VRel] at hr
      replace e : K (.int k' (wrapF k' p)) h n = some r := e
      rw [wrapF_eq] at e
      refine ⟨_, h, e, Goes_val H (v := .int k' (k'.wrap p)) (hrun ?_) (by simp [VRel])⟩
      rw [hr]
      simp [convert, run_underlying hda, run_underlying hd, Conv.intToInt]
    case sym k c =>
      simp only [VRel] at hr
      replace e : K (.sym k' c) h n = some r := e
      have hdg := hv.dig c hr.1
      have hwr : k'.wrap ((val c).toNat : Int) = ((val c).toNat : Int) := by
        rw [← wrapF_eq]
        show wrapF k' (.ofNat (val c).toNat) = _
        have : Nat.blt (val c).toNat (limit k') = true := by rw [blt_iff]; cases k' <;> simp only [limit] <;> omega
        simp only [wrapF, this]
        rfl
      refine ⟨_, h, e, Goes_val H (v := .int k' (val c).toNat) (hrun ?_) (by simp only [VRel]; exact ⟨hr.1, trivial⟩)⟩
      rw [hr.2]
      simp [convert, run_underlying hda, run_underlying hd, Conv.intToInt, hwr]
    all_goals (change none = some r at e; cases e)
  case str =>
    replace e : convStr A h d (fun d => K d h n) = some r := e
    have hd := kind_str tB hk
    have bytes : ∀ d, (isBytes A (cellsIn h 1 d fun l _ => optL codeOfCell l fun s => K (.str s) h n)) = some r → VRel val M d (a.eval x) → (∀ s, d ≠ .str s) → ∃ d h', K d h' n = some r ∧ Goes P val a o M w h nm n d h' n := fun d e hr hns => by
      replace e := isBytes_some tA e; obtain ⟨e, el, hs, he, _⟩ := e
      have hkind := cellsIn_kind e
      replace e := cellsIn_some (P := P) hv H hr e; obtain ⟨ys, m, vs, e, hvs, hvl, hlen, hfirst⟩ := e
      replace e := optL_some e; obtain ⟨s, e, hsl, hcode⟩ := e
      have hyl := VRelL_length hvs
      have hint : ∀ i, i < vs.length → ∃ q : Int, vs[i]? = some (.int .u8 q) ∧ (s.map val)[i]? = some (UInt8.ofNat q.toNat) := fun i hi => by
        have hiy : i < ys.length := by omega
        obtain ⟨v, g1, g2⟩ := VRelL_get hvs (List.getElem?_eq_getElem hiy)
        obtain ⟨c, g3, g4⟩ := hcode i _ (List.getElem?_eq_getElem hiy)
        obtain ⟨q, rfl, g5⟩ := codeOfCell_some hv g4 g2
        exact ⟨q, g1, by rw [List.getElem?_map, g3, Option.map_some, g5]⟩
      obtain ⟨ns, hns1, hns2⟩ : ∃ ns : List Int, vs = ns.map (Value.int .u8) ∧ s.map val = ns.map fun n => UInt8.ofNat n.toNat := by
        have hsl2 : (s.map val).length = vs.length := by simp; omega
        generalize s.map val = u at hint hsl2
        clear e hvs hvl hlen hfirst hsl hcode hyl
        induction vs generalizing u with
        | nil => exact ⟨[], rfl, by simpa using hsl2⟩
        | cons v vs ih =>
          cases u with
          | nil => simp at hsl2
          | cons b u =>
            obtain ⟨q, g1, g2⟩ := hint 0 (by simp)
            obtain ⟨ns, k1, k2⟩ := ih u (fun i hi => by simpa using hint (i + 1) (by simpa using hi)) (by simpa using hsl2)
            simp at g1 g2
            exact ⟨q :: ns, by simp [g1, k1], by simp [g2, k2]⟩
      refine ⟨_, h, e, Goes_val H (v := .string ⟨(s.map val).toArray⟩) (hrun ?_) (by simp [VRel])⟩
      have hmn : ns.length = m := by have := congrArg List.length hns1; simp at this; omega
      rcases hkind with ⟨s, rfl⟩ | rfl | ⟨st, ob, off, len, rfl⟩
      · exact absurd rfl (hns s)
      · simp only [VRel] at hr
        have hm0 : m = 0 := by rw [hr] at hlen; simp [Builtin.lenOf] at hlen; omega
        have : ns = [] := List.eq_nil_of_length_eq_zero (by omega)
        subst this
        rw [hr, run_convert_bytes_string w src dst el _ _ _ hs he hd, hns2]
        simp [Conv.bytesToString]; rfl
      · simp only [VRel] at hr
        obtain ⟨l, aa, cc, hl, hvx, _⟩ := hr
        have hml : m = len := by rw [hvx] at hlen; simp [Builtin.lenOf] at hlen; omega
        have hf := hfirst m (Nat.le_refl _) w rfl
        rw [hvx] at hf ⊢
        simp only [Builtin.firstCells, Nat.mul_one] at hf
        rw [List.take_of_length_le (by omega), hns1] at hf
        rw [run_convert_bytes_string w src dst el _ _ _ hs he hd]
        rw [← hml]
        rw [run_bytesToString w (ad l.b aa) m cc ns hf, foldl_push_bytes, hns2]
        simp [show ByteArray.empty.data = #[] from rfl]
    cases d
    case int k p =>
      replace e : req (leI 0 p && ltI p 128) (K (.str [p.toNat]) h n) = some r := e
      replace e := req_some e; obtain ⟨hc, e⟩ := e
      simp only [Bool.and_eq_true] at hc
      have h0 := leI_true hc.1
      have h1 := ltI_true hc.2
      simp only [VRel] at hr
      refine ⟨_, h, e, Goes_val H (v := .string (Utf8.encode p)) (hrun ?_) ?_⟩
      · rw [hr]
        simp [convert, run_underlying hda, run_underlying hd, Conv.intToString]
      · simp only [VRel, List.map_cons, List.map_nil]
        rw [hv.lit _ (by omega)]
        have hval : Utf8.valid p = true := by simp [Utf8.valid]; omega
        simp only [Utf8.encode, hval, if_true]
        rw [if_pos (by omega)]
    case sym k c =>
      simp only [VRel] at hr
      replace e : symEnc k c (fun d => K d h n) = some r := e
      unfold symEnc at e
      split at e
      · have hdg := hv.dig c hr.1
        refine ⟨_, h, e, Goes_val H (v := .string (Utf8.encode ((val c).toNat : Int))) (hrun ?_) ?_⟩
        · rw [hr.2]
          simp [convert, run_underlying hda, run_underlying hd, Conv.intToString]
        · simp only [VRel, List.map_cons, List.map_nil]
          have hval : Utf8.valid ((val c).toNat : Int) = true := by simp [Utf8.valid]; omega
          simp only [Utf8.encode, hval, if_true, Int.toNat_natCast]
          rw [if_pos (by omega)]
          simp
      · cases e
    case str s =>
      replace e : K (.str s) h n = some r := e
      simp only [VRel] at hr
      refine ⟨_, h, e, Goes_val H (v := .string ⟨(s.map val).toArray⟩) (hrun ?_) (by simp [VRel])⟩
      rw [hr]
      simp [convert, run_underlying hda, run_underlying hd]
    all_goals exact bytes _ e hr (by simp)
  case slice =>
    replace e : convBytes A B h nm d (fun d h => K d h n) = some r := e
    replace e := ifStr_some e; obtain ⟨hkA, e⟩ := e
    replace e := asStr_some e; obtain ⟨s, rfl, e⟩ := e
    replace e := isBytes_some tB e; obtain ⟨e, el, hd, he, hel⟩ := e
    rw [mapL_eq, hput_eq] at e
    simp only [VRel] at hr
    have run := run_bytes_of_string (P := P) w src dst el ⟨(s.map val).toArray⟩ (kind_str tA hkA) hd he
    rw [size_mk, List.length_map] at run
    have hge := grownCap_ge w s.length 0 el
    have hbs : (bytesRow ⟨(s.map val).toArray⟩ (grownCap w s.length 0 el)).size = grownCap w s.length 0 el := by simp [bytesRow, size_mk, ByteArray.size]; omega
    refine ⟨_, _, e, Goes_cells (w0 := w.drew) (vs := s.map fun c => .int .u8 (val c).toNat) (spare := (Array.replicate (grownCap w s.length 0 el - s.length) (.int .u8 0)).toList) H hnm hM ⟨rfl, rfl, rfl, rfl⟩ (hrun (by rw [hr]; exact run)) (.inr rfl) (by simp [bytesRow, size_mk, Function.comp_def])
      (VRelL_of (by simp) fun i d v g1 g2 => ?_) fun M' q => ?_⟩
    · simp only [List.getElem?_map, Option.map_eq_some_iff] at g1 g2
      obtain ⟨c, g1, rfl⟩ := g1
      obtain ⟨c', g2, rfl⟩ := g2
      rw [g1] at g2; cases g2
      exact cellOfCode_rel hv c
    · simp only [VRel]
      exact ⟨_, 0, _, q, rfl, hge, by omega, by show 0 + grownCap w s.length 0 el * 1 ≤ (bytesRow _ _).size; omega, fun _ => rfl⟩
  all_goals (change none = some r at e; cases e)
end
end Go.Gh
