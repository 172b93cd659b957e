import Derived.Test.YtidododdhnbpkaaGreatDoorGhK0
import Derived.KernelRfl
/- Calls that are the same in all cases, run by themselves. -/
set_option maxRecDepth 1000000
set_option linter.unusedVariables false
namespace Go.Gh
open Go.Proofs
variable {val : Nat → UInt8}
noncomputable def mS3 : Memo where
  k := 26
  args := [.str [123, 32, 120, 32, 61, 32, 36, 49, 59, 32, 36, 49, 32, 61, 32, 36, 50, 59, 32, 36, 50, 32, 61, 32, 120, 59, 32, 112, 114, 105, 110, 116, 32, 36, 48, 44, 32, 110, 102, 59, 32,
    125, 10]]
  ins := []
  n := 17133
  d := .tup [.sl 3 23751 0 24, .int .i64 (-1)]
  outs := [(23751, .cells [.int .i64 5, .int .i64 0, .str [123], .int .i64 2, .int .i64 0, .str [120], .int .i64 5, .int .i64 0, .str [61], .int .i64 5, .int .i64 0, .str [36], .int .i64 1,
    .int .i64 1, .str [], .int .i64 5, .int .i64 0, .str [59], .int .i64 5, .int .i64 0, .str [36], .int .i64 1, .int .i64 1, .str [], .int .i64 5, .int .i64 0, .str [61],
    .int .i64 5, .int .i64 0, .str [36], .int .i64 1, .int .i64 2, .str [], .int .i64 5, .int .i64 0, .str [59], .int .i64 5, .int .i64 0, .str [36], .int .i64 1, .int .i64 2,
    .str [], .int .i64 5, .int .i64 0, .str [61], .int .i64 2, .int .i64 0, .str [120], .int .i64 5, .int .i64 0, .str [59], .int .i64 2, .int .i64 0, .str [112, 114, 105, 110,
    116], .int .i64 5, .int .i64 0, .str [36], .int .i64 1, .int .i64 0, .str [], .int .i64 5, .int .i64 0, .str [44], .int .i64 2, .int .i64 0, .str [110, 102], .int .i64 5,
    .int .i64 0, .str [59], .int .i64 5, .int .i64 0, .str [125]])]
  n' := 23780
theorem runS3 : memoRun I [] 100000 mS3 = some doneR := by kernel_rfl
theorem okS3 (hv : Digits val) : MemoOk Tryz.prog val mS3 := memoRun_ok (sound hv allOk_nil _) runS3
noncomputable def mS4 : Memo where
  k := 31
  args := [.str [123, 32, 120, 32, 61, 32, 36, 49, 59, 32, 36, 49, 32, 61, 32, 36, 50, 59, 32, 36, 50, 32, 61, 32, 120, 59, 32, 112, 114, 105, 110, 116, 32, 36, 48, 44, 32, 110, 102, 59, 32,
    125, 10], .str [123, 32, 120, 32, 61, 32, 36, 49, 59, 32, 36, 49, 32, 61, 32, 36, 50, 59, 32, 36, 50, 32, 61, 32, 120, 59, 32, 112, 114, 105, 110, 116, 32, 36, 48, 44, 32, 110,
    102, 59, 32, 125]]
  ins := []
  n := 17130
  d := .bool true
  outs := []
  n' := 30782
theorem runS4 : memoRun I [mS3, mS0] 100000 mS4 = some doneR := by kernel_rfl
theorem okS4 (hv : Digits val) : MemoOk Tryz.prog val mS4 := memoRun_ok (sound hv (allOk_cons (okS3 hv) (allOk_cons (okS0 hv) allOk_nil)) _) runS4
noncomputable def mS5 : Memo where
  k := 16
  args := [.str [123, 32, 120, 32, 61, 32, 36, 49, 59, 32, 36, 49, 32, 61, 32, 36, 50, 59, 32, 36, 50, 32, 61, 32, 120, 59, 32, 112, 114, 105, 110, 116, 32, 36, 48, 44, 32, 110, 102, 59, 32,
    125]]
  ins := []
  n := 5
  d := .tup [.agg [.sl 6 6725 0 1, .nils], .bool true]
  outs := [(6725, .cells [.int .i64 3, .int .i64 0, .int .i64 0, .str [], .nils, .sl 6 9933 0 4]), (7827, .cells [.int .i64 1, .int .i64 1, .str [], .nils]), (7963, .cells [.int .i64 5,
    .int .i64 0, .str [], .sl 4 7827 0 1]), (8415, .cells [.int .i64 1, .int .i64 2, .str [], .nils]), (8553, .cells [.int .i64 1, .int .i64 1, .str [], .nils, .int .i64 5,
    .int .i64 0, .str [], .sl 4 8415 0 1]), (9164, .cells [.int .i64 1, .int .i64 2, .str [], .nils, .int .i64 3, .int .i64 0, .str [120], .nils]), (9485, .cells [.int .i64 1,
    .int .i64 0, .str [], .nils]), (9795, .cells [.int .i64 5, .int .i64 0, .str [], .sl 4 9485 0 1, .int .i64 15, .int .i64 0, .str [], .nils]), (9933, .cells [.int .i64 2,
    .str [120], .str [], .sl 4 7963 0 1, .nils, .nils, .int .i64 4, .str [], .str [], .sl 4 8553 0 2, .nils, .nils, .int .i64 4, .str [], .str [], .sl 4 9164 0 2, .nils, .nils,
    .int .i64 1, .str [], .str [], .sl 4 9795 0 2, .nils, .nils])]
  n' := 30787
theorem runS5 : memoRun I [mS0, mS1, mS2, mS4] 100000 mS5 = some doneR := by kernel_rfl
theorem okS5 (hv : Digits val) : MemoOk Tryz.prog val mS5 := memoRun_ok (sound hv (allOk_cons (okS0 hv) (allOk_cons (okS1 hv) (allOk_cons (okS2 hv) (allOk_cons (okS4 hv) allOk_nil)))) _) runS5
noncomputable def mS6 : Memo where
  k := 68
  args := [.agg [.sl 6 6725 0 1, .nils]]
  ins := [(6725, .cells [.int .i64 3, .int .i64 0, .int .i64 0, .str [], .nils, .sl 6 9933 0 4]), (7827, .cells [.int .i64 1, .int .i64 1, .str [], .nils]), (7963, .cells [.int .i64 5,
    .int .i64 0, .str [], .sl 4 7827 0 1]), (8415, .cells [.int .i64 1, .int .i64 2, .str [], .nils]), (8553, .cells [.int .i64 1, .int .i64 1, .str [], .nils, .int .i64 5,
    .int .i64 0, .str [], .sl 4 8415 0 1]), (9164, .cells [.int .i64 1, .int .i64 2, .str [], .nils, .int .i64 3, .int .i64 0, .str [120], .nils]), (9485, .cells [.int .i64 1,
    .int .i64 0, .str [], .nils]), (9795, .cells [.int .i64 5, .int .i64 0, .str [], .sl 4 9485 0 1, .int .i64 15, .int .i64 0, .str [], .nils]), (9933, .cells [.int .i64 2,
    .str [120], .str [], .sl 4 7963 0 1, .nils, .nils, .int .i64 4, .str [], .str [], .sl 4 8553 0 2, .nils, .nils, .int .i64 4, .str [], .str [], .sl 4 9164 0 2, .nils, .nils,
    .int .i64 1, .str [], .str [], .sl 4 9795 0 2, .nils, .nils])]
  n := 33056
  d := .nils
  outs := [(6725, .cells [.int .i64 3, .int .i64 0, .int .i64 0, .str [], .nils, .sl 6 9933 0 4]), (7827, .cells [.int .i64 1, .int .i64 1, .str [], .nils]), (7963, .cells [.int .i64 5,
    .int .i64 0, .str [], .sl 4 7827 0 1]), (8415, .cells [.int .i64 1, .int .i64 2, .str [], .nils]), (8553, .cells [.int .i64 1, .int .i64 1, .str [], .nils, .int .i64 5,
    .int .i64 0, .str [], .sl 4 8415 0 1]), (9164, .cells [.int .i64 1, .int .i64 2, .str [], .nils, .int .i64 3, .int .i64 0, .str [120], .nils]), (9485, .cells [.int .i64 1,
    .int .i64 0, .str [], .nils]), (9795, .cells [.int .i64 5, .int .i64 0, .str [], .sl 4 9485 0 1, .int .i64 15, .int .i64 0, .str [], .nils]), (9933, .cells [.int .i64 2,
    .str [120], .str [], .sl 4 7963 0 1, .nils, .nils, .int .i64 4, .str [], .str [], .sl 4 8553 0 2, .nils, .nils, .int .i64 4, .str [], .str [], .sl 4 9164 0 2, .nils, .nils,
    .int .i64 1, .str [], .str [], .sl 4 9795 0 2, .nils, .nils])]
  n' := 35983
theorem runS6 : memoRun I [mS1] 100000 mS6 = some doneR := by kernel_rfl
theorem okS6 (hv : Digits val) : MemoOk Tryz.prog val mS6 := memoRun_ok (sound hv (allOk_cons (okS1 hv) allOk_nil) _) runS6
end Go.Gh
