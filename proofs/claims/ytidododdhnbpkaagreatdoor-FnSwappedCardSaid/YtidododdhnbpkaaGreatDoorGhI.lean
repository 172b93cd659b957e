import Derived.Test.YtidododdhnbpkaaGreatDoorGhP
/- What is run here: the functions, each looked at once. -/
set_option linter.unusedVariables false
set_option maxRecDepth 1000000
namespace Go.Gh
open Go.Proofs
def reachL : List Nat := [9, 15, 16, 17, 25, 26, 27, 29, 30, 31, 32, 33, 34, 35, 36, 37, 49, 50, 51, 52, 53, 54, 55, 56, 57, 58, 60, 61, 62, 63, 64, 65, 66, 67, 68, 69, 70, 71, 72, 73, 74, 76, 77, 78, 79, 80, 81, 85, 95, 97, 100, 101, 102, 103, 105, 106, 107, 109, 110, 111, 112, 113, 114, 115, 117, 118, 119, 120, 121, 122, 123, 124, 125, 126, 127, 128, 129, 130, 131, 132, 133, 134, 135, 136, 137, 138, 140, 141, 142, 144, 146, 147, 148, 149, 150, 151, 152, 154, 155, 156, 157, 158, 159, 166, 168, 169, 170, 173, 175, 176, 177, 178, 179, 180, 181, 182, 183, 184, 185, 186, 187, 188, 190, 191, 192, 195, 196, 197, 198, 200, 201, 202, 205, 206, 207, 208, 209, 210, 211, 223, 224, 225, 226, 227, 228, 229, 230, 231, 232, 234, 235, 236, 239, 240, 241, 244, 245, 247, 248, 251, 252, 254, 260, 261, 262, 269, 271, 272, 273, 274, 276, 277, 279, 286, 287, 288, 294, 300, 301, 302, 304, 305, 307, 308, 312, 317, 318, 319, 320, 321, 322, 325, 327, 328, 334, 336, 347, 350, 355, 356]
noncomputable def I : Info := { ti := fun t => tOf Tryz.prog t, fn := fun k => match memN k reachL with | true => Tryz.prog.funcs[k]? | false => none, prim := prims }
noncomputable def funAt (k : Nat) : Bool := match Tryz.prog.funcs[k]? with | some f => !(f.name == "runtime.NumGoroutine") && funOk f | none => false
noncomputable def funsAt : List Nat → Bool
  | [] => true
  | k :: l => funAt k && funsAt l
theorem funsAt_mem : ∀ {l : List Nat}, funsAt l = true → ∀ k ∈ l, funAt k = true
  | [], _, k, hk => by simp at hk
  | x :: l, h, k, hk => by
    simp only [funsAt, Bool.and_eq_true] at h
    rcases List.mem_cons.1 hk with rfl | hk
    · exact h.1
    · exact funsAt_mem h.2 k hk
theorem funs_ok : funsAt reachL = true := by kernel_rfl
theorem fok : FOk Tryz.prog I := fun k f h => by
  replace h : (match memN k reachL with | true => Tryz.prog.funcs[k]? | false => none) = some f := h
  split at h
  · rename_i hk
    have := funsAt_mem funs_ok k (memN_iff.1 hk)
    unfold funAt at this
    rw [h] at this
    simp only [Bool.and_eq_true, Bool.not_eq_true'] at this
    exact ⟨h, this.1, this.2⟩
  · cases h
theorem tok : TOk Tryz.prog I := fun t T h => h
theorem primok {val : Nat → UInt8} (hv : Digits val) : PrimOk Tryz.prog val I := by
  intro k f hf h args d e M w n vs H hr
  replace hf : prims k = some f := hf
  unfold prims at hf
  split at hf <;> cases hf
  · exact join_ok e H hr
  · exact itoa_ok hv e hr
  · exact index_ok hv e hr
theorem mixed : Tryz.prog.follows .mixedOrders = true := by kernel_rfl
theorem sound {val : Nat → UInt8} (hv : Digits val) {ms : List Memo} (hms : ∀ x ∈ ms, MemoOk Tryz.prog val x) (f : Nat) : OSound Tryz.prog val (memoI I ms f) := memoI_sound mixed hv tok (primok hv) fok hms f
end Go.Gh
