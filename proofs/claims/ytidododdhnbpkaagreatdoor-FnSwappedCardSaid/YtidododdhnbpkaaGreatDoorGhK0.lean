import Derived.Test.YtidododdhnbpkaaGreatDoorGhI
import Derived.KernelRfl
/- Calls that are the same in all cases, run by themselves. -/
set_option maxRecDepth 1000000
set_option linter.unusedVariables false
namespace Go.Gh
open Go.Proofs
variable {val : Nat → UInt8}
theorem allOk_nil : ∀ x ∈ ([] : List Memo), MemoOk Tryz.prog val x := by simp
theorem allOk_cons {m : Memo} {l : List Memo} (h : MemoOk Tryz.prog val m) (hs : ∀ x ∈ l, MemoOk Tryz.prog val x) : ∀ x ∈ m :: l, MemoOk Tryz.prog val x := by
  simp only [List.mem_cons]
  rintro x (rfl | hx)
  · exact h
  · exact hs x hx
noncomputable def mS0 : Memo where
  k := 26
  args := [.str [123, 32, 120, 32, 61, 32, 36, 49, 59, 32, 36, 49, 32, 61, 32, 36, 50, 59, 32, 36, 50, 32, 61, 32, 120, 59, 32, 112, 114, 105, 110, 116, 32, 36, 48, 44, 32, 110, 102, 59, 32,
    125]]
  ins := []
  n := 9
  d := .tup [.sl 3 6627 0 24, .int .i64 (-1)]
  outs := [(6627, .cells [.int .i64 5, .int .i64 0, .str [123], .int .i64 2, .int .i64 0, .str [120], .int .i64 5, .int .i64 0, .str [61], .int .i64 5, .int .i64 0, .str [36], .int .i64 1,
    .int .i64 1, .str [], .int .i64 5, .int .i64 0, .str [59], .int .i64 5, .int .i64 0, .str [36], .int .i64 1, .int .i64 1, .str [], .int .i64 5, .int .i64 0, .str [61],
    .int .i64 5, .int .i64 0, .str [36], .int .i64 1, .int .i64 2, .str [], .int .i64 5, .int .i64 0, .str [59], .int .i64 5, .int .i64 0, .str [36], .int .i64 1, .int .i64 2,
    .str [], .int .i64 5, .int .i64 0, .str [61], .int .i64 2, .int .i64 0, .str [120], .int .i64 5, .int .i64 0, .str [59], .int .i64 2, .int .i64 0, .str [112, 114, 105, 110,
    116], .int .i64 5, .int .i64 0, .str [36], .int .i64 1, .int .i64 0, .str [], .int .i64 5, .int .i64 0, .str [44], .int .i64 2, .int .i64 0, .str [110, 102], .int .i64 5,
    .int .i64 0, .str [59], .int .i64 5, .int .i64 0, .str [125]])]
  n' := 6640
theorem runS0 : memoRun I [] 100000 mS0 = some doneR := by kernel_rfl
theorem okS0 (hv : Digits val) : MemoOk Tryz.prog val mS0 := memoRun_ok (sound hv allOk_nil _) runS0
noncomputable def mS1 : Memo where
  k := 30
  args := [.agg [.sl 6 6725 0 1, .nils]]
  ins := [(6725, .cells [.int .i64 3, .int .i64 0, .int .i64 0, .str [], .nils, .sl 6 9933 0 4]), (7827, .cells [.int .i64 1, .int .i64 1, .str [], .nils]), (7963, .cells [.int .i64 5,
    .int .i64 0, .str [], .sl 4 7827 0 1]), (8415, .cells [.int .i64 1, .int .i64 2, .str [], .nils]), (8553, .cells [.int .i64 1, .int .i64 1, .str [], .nils, .int .i64 5,
    .int .i64 0, .str [], .sl 4 8415 0 1]), (9164, .cells [.int .i64 1, .int .i64 2, .str [], .nils, .int .i64 3, .int .i64 0, .str [120], .nils]), (9485, .cells [.int .i64 1,
    .int .i64 0, .str [], .nils]), (9795, .cells [.int .i64 5, .int .i64 0, .str [], .sl 4 9485 0 1, .int .i64 15, .int .i64 0, .str [], .nils]), (9933, .cells [.int .i64 2,
    .str [120], .str [], .sl 4 7963 0 1, .nils, .nils, .int .i64 4, .str [], .str [], .sl 4 8553 0 2, .nils, .nils, .int .i64 4, .str [], .str [], .sl 4 9164 0 2, .nils, .nils,
    .int .i64 1, .str [], .str [], .sl 4 9795 0 2, .nils, .nils])]
  n := 10095
  d := .bool true
  outs := [(6725, .cells [.int .i64 3, .int .i64 0, .int .i64 0, .str [], .nils, .sl 6 9933 0 4]), (7827, .cells [.int .i64 1, .int .i64 1, .str [], .nils]), (7963, .cells [.int .i64 5,
    .int .i64 0, .str [], .sl 4 7827 0 1]), (8415, .cells [.int .i64 1, .int .i64 2, .str [], .nils]), (8553, .cells [.int .i64 1, .int .i64 1, .str [], .nils, .int .i64 5,
    .int .i64 0, .str [], .sl 4 8415 0 1]), (9164, .cells [.int .i64 1, .int .i64 2, .str [], .nils, .int .i64 3, .int .i64 0, .str [120], .nils]), (9485, .cells [.int .i64 1,
    .int .i64 0, .str [], .nils]), (9795, .cells [.int .i64 5, .int .i64 0, .str [], .sl 4 9485 0 1, .int .i64 15, .int .i64 0, .str [], .nils]), (9933, .cells [.int .i64 2,
    .str [120], .str [], .sl 4 7963 0 1, .nils, .nils, .int .i64 4, .str [], .str [], .sl 4 8553 0 2, .nils, .nils, .int .i64 4, .str [], .str [], .sl 4 9164 0 2, .nils, .nils,
    .int .i64 1, .str [], .str [], .sl 4 9795 0 2, .nils, .nils])]
  n' := 12333
theorem runS1 : memoRun I [] 100000 mS1 = some doneR := by kernel_rfl
theorem okS1 (hv : Digits val) : MemoOk Tryz.prog val mS1 := memoRun_ok (sound hv allOk_nil _) runS1
noncomputable def mS2 : Memo where
  k := 32
  args := [.agg [.sl 6 6725 0 1, .nils]]
  ins := [(6725, .cells [.int .i64 3, .int .i64 0, .int .i64 0, .str [], .nils, .sl 6 9933 0 4]), (7827, .cells [.int .i64 1, .int .i64 1, .str [], .nils]), (7963, .cells [.int .i64 5,
    .int .i64 0, .str [], .sl 4 7827 0 1]), (8415, .cells [.int .i64 1, .int .i64 2, .str [], .nils]), (8553, .cells [.int .i64 1, .int .i64 1, .str [], .nils, .int .i64 5,
    .int .i64 0, .str [], .sl 4 8415 0 1]), (9164, .cells [.int .i64 1, .int .i64 2, .str [], .nils, .int .i64 3, .int .i64 0, .str [120], .nils]), (9485, .cells [.int .i64 1,
    .int .i64 0, .str [], .nils]), (9795, .cells [.int .i64 5, .int .i64 0, .str [], .sl 4 9485 0 1, .int .i64 15, .int .i64 0, .str [], .nils]), (9933, .cells [.int .i64 2,
    .str [120], .str [], .sl 4 7963 0 1, .nils, .nils, .int .i64 4, .str [], .str [], .sl 4 8553 0 2, .nils, .nils, .int .i64 4, .str [], .str [], .sl 4 9164 0 2, .nils, .nils,
    .int .i64 1, .str [], .str [], .sl 4 9795 0 2, .nils, .nils])]
  n := 12338
  d := .str [123, 32, 120, 32, 61, 32, 36, 49, 59, 32, 36, 49, 32, 61, 32, 36, 50, 59, 32, 36, 50, 32, 61, 32, 120, 59, 32, 112, 114, 105, 110, 116, 32, 36, 48, 44, 32, 110, 102, 59, 32,
    125, 10]
  outs := [(6725, .cells [.int .i64 3, .int .i64 0, .int .i64 0, .str [], .nils, .sl 6 9933 0 4]), (7827, .cells [.int .i64 1, .int .i64 1, .str [], .nils]), (7963, .cells [.int .i64 5,
    .int .i64 0, .str [], .sl 4 7827 0 1]), (8415, .cells [.int .i64 1, .int .i64 2, .str [], .nils]), (8553, .cells [.int .i64 1, .int .i64 1, .str [], .nils, .int .i64 5,
    .int .i64 0, .str [], .sl 4 8415 0 1]), (9164, .cells [.int .i64 1, .int .i64 2, .str [], .nils, .int .i64 3, .int .i64 0, .str [120], .nils]), (9485, .cells [.int .i64 1,
    .int .i64 0, .str [], .nils]), (9795, .cells [.int .i64 5, .int .i64 0, .str [], .sl 4 9485 0 1, .int .i64 15, .int .i64 0, .str [], .nils]), (9933, .cells [.int .i64 2,
    .str [120], .str [], .sl 4 7963 0 1, .nils, .nils, .int .i64 4, .str [], .str [], .sl 4 8553 0 2, .nils, .nils, .int .i64 4, .str [], .str [], .sl 4 9164 0 2, .nils, .nils,
    .int .i64 1, .str [], .str [], .sl 4 9795 0 2, .nils, .nils])]
  n' := 17128
theorem runS2 : memoRun I [mS1] 100000 mS2 = some doneR := by kernel_rfl
theorem okS2 (hv : Digits val) : MemoOk Tryz.prog val mS2 := memoRun_ok (sound hv (allOk_cons (okS1 hv) allOk_nil) _) runS2
end Go.Gh
