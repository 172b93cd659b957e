import Derived.Test.YtidododdhnbpkaaGreatDoorGhM2
import Derived.Test.YtidododdhnbpkaaGreatDoorGhS
import Derived.Lib.Bytealg
import Derived.KernelRfl
/- This program: its types, its functions, and what Go's library gives. -/
set_option linter.unusedVariables false
set_option linter.unusedSimpArgs false
namespace Go.Gh
open Go.RowKit Go.Proofs
noncomputable def prims : Nat → Option (Heap → List D → Option D)
  | 46 => some primJoin
  | 48 => some primItoa
  | 164 => some primIndexByte
  | _ => none
section
variable {val : Nat → UInt8} {M : Mp} {w : World} {h : Heap} {n : Nat}
theorem ends_of {k : Nat} {args : Array Value} {Q : Ending → World → Prop} (hf : ((Tryz.prog.funcs[k]?).map fun fn => (fn.name == "runtime.NumGoroutine", fn.body.isNone)) = some (false, false)) (hc : Calls Tryz.prog k args w Q) : Ends Tryz.prog k args w Q := by
  cases q : Tryz.prog.funcs[k]? with
  | none => rw [q] at hf; cases hf
  | some fn =>
    rw [q] at hf
    simp only [Option.map_some, Option.some.injEq, Prod.mk.injEq] at hf
    exact .inl ⟨fn, q, hf.1, hf.2, hc⟩
theorem grown_refl (w : World) : Grown w w := ⟨⟨rfl, rfl, rfl⟩, Nat.le_refl _, fun _ _ => rfl⟩
theorem itoa_ok (hv : Digits val) {args : List D} {d : D} (e : primItoa h args = some d) {vs : Array Value} (hr : VRelL val M args vs.toList) : Ends Tryz.prog 48 vs w fun e w' => ∃ v, e = .returned v ∧ VRel val M d v ∧ Grown w w' := by
  unfold primItoa at e
  split at e
  · rename_i m
    simp only [VRelL, VRel] at hr
    obtain ⟨v, vs', q, rfl, rfl⟩ := hr
    have hvs : vs = #[.int .i64 (Int.ofNat m)] := by apply Array.toList_inj.1; rw [q]
    subst hvs
    have lit : ∀ c, c < 256 → val c = UInt8.ofNat c := hv.lit
    have key : m < 100 ∧ ∃ s : List Nat, d = .str s ∧ s.map val = Lib.decDigits m := by
      split at e
      · rename_i hb
        cases e
        have hm := blt_true hb
        refine ⟨by omega, _, rfl, ?_⟩
        unfold Lib.decDigits
        rw [dif_pos hm]
        simp only [List.map_cons, List.map_nil, lit _ (show 48 + m < 256 by omega)]
      · rename_i hb
        have hm : ¬ m < 10 := by rw [blt_eq] at hb; simpa using hb
        split at e
        · rename_i hb2
          cases e
          have hm2 := blt_true hb2
          refine ⟨hm2, _, rfl, ?_⟩
          unfold Lib.decDigits
          rw [dif_neg hm]
          unfold Lib.decDigits
          rw [dif_pos (show m / 10 < 10 by omega)]
          show [val (48 + m / 10), val (48 + m % 10)] = _
          rw [lit _ (show 48 + m / 10 < 256 by omega), lit _ (show 48 + m % 10 < 256 by omega)]; rfl
        · cases e
    obtain ⟨h1, s, rfl, h2⟩ := key
    refine ends_of (by kernel_rfl) ?_
    have c := Any.strconv_Itoa_small { Tryz.lays171 with } m h1 w
    refine Calls.mono (show Calls Tryz.prog 48 #[.int .i64 (Int.ofNat m)] w _ from c) ?_
    rintro e w' ⟨rfl, rfl⟩
    exact ⟨_, rfl, by simp only [VRel]; rw [h2], grown_refl _⟩
  · cases e
theorem join_val (sep : List Nat) : ∀ (l : List D) {s : List Nat} {vs : List Value}, joinD sep l = some s → VRelL val M l vs → ∃ xs : List ByteArray, vs = xs.map .string ∧ Lib.join (xs.map (·.data.toList)) (sep.map val) = s.map val
  | [], s, vs, e, hr => by
    simp only [joinD, Option.some.injEq] at e
    simp only [VRelL] at hr
    subst e; subst hr
    exact ⟨[], rfl, rfl⟩
  | d :: ds, s, vs, e, hr => by
    simp only [VRelL] at hr
    obtain ⟨v, vs', rfl, h1, h2⟩ := hr
    simp only [joinD] at e
    split at e
    · rename_i s0
      simp only [VRel] at h1
      subst h1
      cases ds with
      | nil =>
        simp only [Option.some.injEq] at e
        simp only [VRelL] at h2
        subst h2; subst e
        exact ⟨[⟨(s0.map val).toArray⟩], rfl, by simp [Lib.join_one]⟩
      | cons d2 ds =>
        cases hj : joinD sep (d2 :: ds) with
        | none => rw [hj] at e; cases e
        | some r =>
          rw [hj] at e
          cases e
          obtain ⟨xs, rfl, h3⟩ := join_val sep (d2 :: ds) hj h2
          refine ⟨⟨(s0.map val).toArray⟩ :: xs, rfl, ?_⟩
          cases xs with
          | nil => simp only [VRelL] at h2; obtain ⟨_, _, q, _⟩ := h2; cases q
          | cons x xs =>
            rw [List.map_append, List.map_append, ← h3]
            simp [Lib.join, List.intercalate]
    · cases e
theorem join_ok {args : List D} {d : D} (e : primJoin h args = some d) (H : HR val w M h n) {vs : Array Value} (hr : VRelL val M args vs.toList) : Ends Tryz.prog 46 vs w fun e w' => ∃ v, e = .returned v ∧ VRel val M d v ∧ Grown w w' := by
  unfold primJoin at e
  split at e
  · rename_i s
    cases e
    simp only [VRelL, VRel] at hr
    obtain ⟨v, vs', q, rfl, v2, vs2, rfl, rfl, rfl⟩ := hr
    have hvs : vs = #[.slice none 0 0, .string ⟨(s.map val).toArray⟩] := by apply Array.toList_inj.1; rw [q]
    subst hvs
    refine ends_of (by kernel_rfl) ?_
    refine Calls.mono (show Calls Tryz.prog 46 _ w _ from Any.strings_Join_none Tryz.lays156 Tryz.Builder_Extra_156 none 0 _ w) ?_
    rintro e w' ⟨rfl, rfl⟩
    exact ⟨_, rfl, by simp only [VRel]; rfl, grown_refl _⟩
  · rename_i o off len sep
    split at e
    · rename_i l hl
      split at e
      · rename_i hle
        split at e
        · rename_i s hs
          split at e
          · rename_i hb
            cases e
            rw [Bool.and_eq_true] at hb
            have hb1 := ble_true hb.1
            have hb2 := ble_true hb.2
            replace hle : off + len ≤ l.length := ble_true hle
            simp only [VRelL] at hr
            obtain ⟨v, vs', q, hsl, v2, vs2, rfl, hsep, rfl⟩ := hr
            simp only [VRel] at hsl hsep
            obtain ⟨lo, a, c, hM, rfl, h1, h2, h3, h4⟩ := hsl
            subst hsep
            have hvs : vs = #[.slice (some (ad lo.b a)) len c, .string ⟨(sep.map val).toArray⟩] := by apply Array.toList_inj.1; rw [q]
            subst hvs
            refine ends_of (by kernel_rfl) ?_
            have hO : OR val w M (.cells l) lo := H.obj o _ lo hl hM
            obtain ⟨g1, g2, g3⟩ := hO
            -- the elements
            have hcells : ∃ vs : List Value, VRelL val M ((l.drop off).take len) vs ∧ ∀ (j : Nat) x, vs[j]? = some x → w.cell? (ad lo.b (lo.base + off + j)) = some x := by
              refine ⟨((l.drop off).take len).mapIdx fun j d => (w.cell? (ad lo.b (lo.base + off + j))).getD undef, VRelL_of (by simp) fun i d v hd hv => ?_, fun j x hx => ?_⟩
              · rw [List.getElem?_mapIdx, hd] at hv
                cases hv
                have hi : (((l.drop off).take len)[i]?) = some d := hd
                rw [List.getElem?_take] at hi
                split at hi
                · rw [List.getElem?_drop] at hi
                  obtain ⟨v, k1, k2⟩ := g3 _ _ hi
                  rw [Nat.add_assoc, k1]; exact k2
                · cases hi
              · rw [List.getElem?_mapIdx] at hx
                cases hd : ((l.drop off).take len)[j]? with
                | none => rw [hd] at hx; cases hx
                | some d =>
                  rw [hd] at hx; cases hx
                  rw [List.getElem?_take] at hd
                  split at hd
                  · rw [List.getElem?_drop] at hd
                    obtain ⟨v, k1, k2⟩ := g3 _ _ hd
                    rw [Nat.add_assoc, k1]; rfl
                  · cases hd
            obtain ⟨ws, k1, k2⟩ := hcells
            obtain ⟨xs, rfl, k3⟩ := join_val sep _ hs k1
            have hlen : xs.length = len := by
              have := VRelL_length k1
              simp at this; omega
            have fin : Calls Tryz.prog 46 #[.slice (some (ad lo.b a)) len c, .string ⟨(sep.map val).toArray⟩] w fun e w' => e = .returned (.string ⟨(Lib.join (xs.map (·.data.toList)) (sep.map val)).toArray⟩) ∧ Below w.heap.size w w' := by
              by_cases hz : len = 0
              · subst hz
                have : xs = [] := List.eq_nil_of_length_eq_zero hlen
                subst this
                refine Calls.mono (show Calls Tryz.prog 46 _ w _ from Any.strings_Join_none Tryz.lays156 Tryz.Builder_Extra_156 (some (ad lo.b a)) c _ w) ?_
                rintro e w' ⟨rfl, rfl⟩
                exact ⟨rfl, Below.refl _ _⟩
              · have ha := h4 (by omega)
                have := Any.strings_Join Tryz.lays156 Tryz.Builder_Extra_156 lo.b a c xs ⟨(sep.map val).toArray⟩ w (fun j x hx => by
                  have := k2 j (.string x) (by simp [hx])
                  rw [← ha] at this; exact this) (H.bound _ _ hM) (by omega) (by omega) (by
                  rw [show (⟨(sep.map val).toArray⟩ : ByteArray).data.toList = sep.map val from rfl, k3]; simp; omega)
                rw [hlen] at this
                exact this
            refine fin.mono ?_
            rintro e w' ⟨rfl, hb⟩
            exact ⟨_, rfl, by simp only [VRel]; rw [k3], ⟨⟨hb.os, hb.tape, hb.output⟩, hb.size, hb.block⟩⟩
          · cases e
        · cases e
      · cases e
    · cases e
  · cases e
theorem index_val (hv : Digits val) {c : Nat} : ∀ {s : List Nat} {i : Nat} {r : Int}, indexB c s i = some r → (r = -1 ∧ Lib.indexByte (s.map val) (val c) = -1) ∨ (∃ j : Nat, Lib.indexByte (s.map val) (val c) = j ∧ r = i + j)
  | [], i, r, e => by simp only [indexB, Option.some.injEq] at e; exact .inl ⟨e.symm, rfl⟩
  | a :: s, i, r, e => by
    simp only [indexB] at e
    simp only [List.map_cons, Lib.indexByte]
    split at e
    · rename_i hs
      cases e
      have := sameC_eq hv hs
      rw [this]
      exact .inr ⟨0, rfl, rfl⟩
    · rename_i hs
      have := sameC_eq hv hs
      rw [this]
      simp only [Bool.false_eq_true, if_false]
      rcases index_val hv e with ⟨h1, h2⟩ | ⟨j, h1, h2⟩
      · exact .inl ⟨h1, by rw [h2]; rfl⟩
      · refine .inr ⟨j + 1, ?_, by rw [h2]; omega⟩
        have hne : ¬ (((j : Int) == -1) = true) := fun q => by have := eq_of_beq q; omega
        rw [h1, if_neg hne]; rfl
    · cases e
theorem index_ok (hv : Digits val) {args : List D} {d : D} (e : primIndexByte h args = some d) {vs : Array Value} (hr : VRelL val M args vs.toList) : Ends Tryz.prog 164 vs w fun e w' => ∃ v, e = .returned v ∧ VRel val M d v ∧ Grown w w' := by
  unfold primIndexByte at e
  split at e
  · rename_i s c
    split at e
    · rename_i hc
      split at e
      · rename_i i hi
        cases e
        simp only [VRelL, VRel] at hr
        obtain ⟨v, vs', q, rfl, v2, vs2, rfl, rfl, rfl⟩ := hr
        have hvs : vs = #[.string ⟨(s.map val).toArray⟩, .int .u8 (Int.ofNat c)] := by apply Array.toList_inj.1; rw [q]
        subst hvs
        have hfn : ((Tryz.prog.funcs[164]?).map fun fn => (fn.name == "runtime.NumGoroutine", fn.body.isNone, (Extern.findNext fn).isNone)) = some (false, true, true) := by kernel_rfl
        have hfe : ((Tryz.prog.funcs[164]?).map fun fn => Extern.find fn) = some (some Extern.BytealgIndexByte.indexByte) := by kernel_rfl
        cases hq : Tryz.prog.funcs[164]? with
        | none => rw [hq] at hfn; cases hfn
        | some fn =>
          rw [hq] at hfn hfe
          simp only [Option.map_some, Option.some.injEq, Prod.mk.injEq] at hfn hfe
          refine .inr ⟨.int .i64 i, w, ?_, _, rfl, by simp only [VRel], grown_refl _⟩
          rw [run_callFunc_extern (e := Extern.BytealgIndexByte.indexByte) hq hfn.1 hfn.2.1 (by simpa using hfn.2.2) hfe, Lib.run_indexByteString]
          show Result.ok _ w = _
          have hval : (Int.ofNat c).toNat.toUInt8 = val c := by
            rw [hv.lit c (isLit_true hc)]; rfl
          rw [hval]
          rcases index_val hv hi with ⟨h1, h2⟩ | ⟨j, h1, h2⟩
          · rw [show Lib.indexByte (List.map val s) (val c) = -1 from h2, h1]
          · rw [show Lib.indexByte (List.map val s) (val c) = (j : Int) from h1, h2]; simp
      · cases e
    · cases e
  · cases e
end
end Go.Gh
