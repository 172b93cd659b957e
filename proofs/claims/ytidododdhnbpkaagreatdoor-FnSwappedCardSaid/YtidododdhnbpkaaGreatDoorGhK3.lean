import Derived.Test.YtidododdhnbpkaaGreatDoorGhK2
import Derived.KernelRfl
/- Calls that are the same in all cases, run by themselves. -/
set_option maxRecDepth 1000000
set_option linter.unusedVariables false
namespace Go.Gh
open Go.Proofs
variable {val : Nat → UInt8}
noncomputable def mS15 : Memo where
  k := 148
  args := [.agg [.sl 3 42561 0 4, .nils, .int .i64 1, .int .i64 0, .sl 2 65109 0 3], .int .i64 2]
  ins := [(42561, .cells [.int .i64 0, .int .i64 0, .str [], .int .i64 1, .int .i64 0, .str [], .int .i64 1, .int .i64 1, .str [], .int .i64 1, .int .i64 2, .str []]), (65076,
    .cells [.int .i64 2, .int .i64 0, .int .i64 33, .int .i64 0]), (65091, .cells [.int .i64 1, .int .i64 0, .int .i64 2, .int .i64 2, .int .i64 22, .int .i64 0, .int .i64 4,
    .int .i64 0, .int .i64 1, .int .i64 0, .int .i64 2, .int .i64 2, .int .i64 2, .int .i64 3, .int .i64 22, .int .i64 0, .int .i64 23, .int .i64 0, .int .i64 1, .int .i64 0,
    .int .i64 2, .int .i64 3, .int .i64 3, .int .i64 0, .int .i64 23, .int .i64 0, .int .i64 1, .int .i64 0, .int .i64 2, .int .i64 1, .int .i64 22, .int .i64 0, .int .i64 31,
    .int .i64 0, .int .i64 34, .int .i64 2, .int .i64 2, .int .i64 0, .int .i64 33, .int .i64 0]), (65106, .cells [.int .i64 2, .int .i64 0, .int .i64 33, .int .i64 0]), (65109,
    .cells [.int .i64 0, .sl 2 65076 0 2, .int .i64 0, .sl 2 65091 0 20, .int .i64 0, .sl 2 65106 0 2])]
  n := 74608
  d := .tup [.sl 1 74936 0 2, .bool true]
  outs := [(42561, .cells [.int .i64 0, .int .i64 0, .str [], .int .i64 1, .int .i64 0, .str [], .int .i64 1, .int .i64 1, .str [], .int .i64 1, .int .i64 2, .str []]), (65076,
    .cells [.int .i64 2, .int .i64 0, .int .i64 33, .int .i64 0]), (65091, .cells [.int .i64 1, .int .i64 0, .int .i64 2, .int .i64 2, .int .i64 22, .int .i64 0, .int .i64 4,
    .int .i64 0, .int .i64 1, .int .i64 0, .int .i64 2, .int .i64 2, .int .i64 2, .int .i64 3, .int .i64 22, .int .i64 0, .int .i64 23, .int .i64 0, .int .i64 1, .int .i64 0,
    .int .i64 2, .int .i64 3, .int .i64 3, .int .i64 0, .int .i64 23, .int .i64 0, .int .i64 1, .int .i64 0, .int .i64 2, .int .i64 1, .int .i64 22, .int .i64 0, .int .i64 31,
    .int .i64 0, .int .i64 34, .int .i64 2, .int .i64 2, .int .i64 0, .int .i64 33, .int .i64 0]), (65106, .cells [.int .i64 2, .int .i64 0, .int .i64 33, .int .i64 0]), (65109,
    .cells [.int .i64 0, .sl 2 65076 0 2, .int .i64 0, .sl 2 65091 0 20, .int .i64 0, .sl 2 65106 0 2]), (74936, .cells [.int .i64 0, .int .i64 1])]
  n' := 75184
theorem runS15 : memoRun I [] 100000 mS15 = some doneR := by kernel_rfl
theorem okS15 (hv : Digits val) : MemoOk Tryz.prog val mS15 := memoRun_ok (sound hv allOk_nil _) runS15
noncomputable def mS16 : Memo where
  k := 72
  args := [.agg [.sl 3 42561 0 4, .nils, .int .i64 1, .int .i64 0, .sl 2 65109 0 3]]
  ins := [(42561, .cells [.int .i64 0, .int .i64 0, .str [], .int .i64 1, .int .i64 0, .str [], .int .i64 1, .int .i64 1, .str [], .int .i64 1, .int .i64 2, .str []]), (65076,
    .cells [.int .i64 2, .int .i64 0, .int .i64 33, .int .i64 0]), (65091, .cells [.int .i64 1, .int .i64 0, .int .i64 2, .int .i64 2, .int .i64 22, .int .i64 0, .int .i64 4,
    .int .i64 0, .int .i64 1, .int .i64 0, .int .i64 2, .int .i64 2, .int .i64 2, .int .i64 3, .int .i64 22, .int .i64 0, .int .i64 23, .int .i64 0, .int .i64 1, .int .i64 0,
    .int .i64 2, .int .i64 3, .int .i64 3, .int .i64 0, .int .i64 23, .int .i64 0, .int .i64 1, .int .i64 0, .int .i64 2, .int .i64 1, .int .i64 22, .int .i64 0, .int .i64 31,
    .int .i64 0, .int .i64 34, .int .i64 2, .int .i64 2, .int .i64 0, .int .i64 33, .int .i64 0]), (65106, .cells [.int .i64 2, .int .i64 0, .int .i64 33, .int .i64 0]), (65109,
    .cells [.int .i64 0, .sl 2 65076 0 2, .int .i64 0, .sl 2 65091 0 20, .int .i64 0, .sl 2 65106 0 2])]
  n := 65117
  d := .bool true
  outs := [(42561, .cells [.int .i64 0, .int .i64 0, .str [], .int .i64 1, .int .i64 0, .str [], .int .i64 1, .int .i64 1, .str [], .int .i64 1, .int .i64 2, .str []]), (65076,
    .cells [.int .i64 2, .int .i64 0, .int .i64 33, .int .i64 0]), (65091, .cells [.int .i64 1, .int .i64 0, .int .i64 2, .int .i64 2, .int .i64 22, .int .i64 0, .int .i64 4,
    .int .i64 0, .int .i64 1, .int .i64 0, .int .i64 2, .int .i64 2, .int .i64 2, .int .i64 3, .int .i64 22, .int .i64 0, .int .i64 23, .int .i64 0, .int .i64 1, .int .i64 0,
    .int .i64 2, .int .i64 3, .int .i64 3, .int .i64 0, .int .i64 23, .int .i64 0, .int .i64 1, .int .i64 0, .int .i64 2, .int .i64 1, .int .i64 22, .int .i64 0, .int .i64 31,
    .int .i64 0, .int .i64 34, .int .i64 2, .int .i64 2, .int .i64 0, .int .i64 33, .int .i64 0]), (65106, .cells [.int .i64 2, .int .i64 0, .int .i64 33, .int .i64 0]), (65109,
    .cells [.int .i64 0, .sl 2 65076 0 2, .int .i64 0, .sl 2 65091 0 20, .int .i64 0, .sl 2 65106 0 2])]
  n' := 75195
theorem runS16 : memoRun I [mS12, mS13, mS14, mS15] 100000 mS16 = some doneR := by kernel_rfl
theorem okS16 (hv : Digits val) : MemoOk Tryz.prog val mS16 := memoRun_ok (sound hv (allOk_cons (okS12 hv) (allOk_cons (okS13 hv) (allOk_cons (okS14 hv) (allOk_cons (okS15 hv) allOk_nil)))) _) runS16
noncomputable def mS17 : Memo where
  k := 33
  args := [.agg [.sl 6 6725 0 1, .nils]]
  ins := [(6725, .cells [.int .i64 3, .int .i64 0, .int .i64 0, .str [], .nils, .sl 6 9933 0 4]), (7827, .cells [.int .i64 1, .int .i64 1, .str [], .nils]), (7963, .cells [.int .i64 5,
    .int .i64 0, .str [], .sl 4 7827 0 1]), (8415, .cells [.int .i64 1, .int .i64 2, .str [], .nils]), (8553, .cells [.int .i64 1, .int .i64 1, .str [], .nils, .int .i64 5,
    .int .i64 0, .str [], .sl 4 8415 0 1]), (9164, .cells [.int .i64 1, .int .i64 2, .str [], .nils, .int .i64 3, .int .i64 0, .str [120], .nils]), (9485, .cells [.int .i64 1,
    .int .i64 0, .str [], .nils]), (9795, .cells [.int .i64 5, .int .i64 0, .str [], .sl 4 9485 0 1, .int .i64 15, .int .i64 0, .str [], .nils]), (9933, .cells [.int .i64 2,
    .str [120], .str [], .sl 4 7963 0 1, .nils, .nils, .int .i64 4, .str [], .str [], .sl 4 8553 0 2, .nils, .nils, .int .i64 4, .str [], .str [], .sl 4 9164 0 2, .nils, .nils,
    .int .i64 1, .str [], .str [], .sl 4 9795 0 2, .nils, .nils])]
  n := 30802
  d := .tup [.agg [.sl 3 42561 0 4, .nils, .int .i64 1, .int .i64 0, .sl 2 65109 0 3], .bool true]
  outs := [(6725, .cells [.int .i64 3, .int .i64 0, .int .i64 0, .str [], .nils, .sl 6 9933 0 4]), (7827, .cells [.int .i64 1, .int .i64 1, .str [], .nils]), (7963, .cells [.int .i64 5,
    .int .i64 0, .str [], .sl 4 7827 0 1]), (8415, .cells [.int .i64 1, .int .i64 2, .str [], .nils]), (8553, .cells [.int .i64 1, .int .i64 1, .str [], .nils, .int .i64 5,
    .int .i64 0, .str [], .sl 4 8415 0 1]), (9164, .cells [.int .i64 1, .int .i64 2, .str [], .nils, .int .i64 3, .int .i64 0, .str [120], .nils]), (9485, .cells [.int .i64 1,
    .int .i64 0, .str [], .nils]), (9795, .cells [.int .i64 5, .int .i64 0, .str [], .sl 4 9485 0 1, .int .i64 15, .int .i64 0, .str [], .nils]), (9933, .cells [.int .i64 2,
    .str [120], .str [], .sl 4 7963 0 1, .nils, .nils, .int .i64 4, .str [], .str [], .sl 4 8553 0 2, .nils, .nils, .int .i64 4, .str [], .str [], .sl 4 9164 0 2, .nils, .nils,
    .int .i64 1, .str [], .str [], .sl 4 9795 0 2, .nils, .nils]), (42561, .cells [.int .i64 0, .int .i64 0, .str [], .int .i64 1, .int .i64 0, .str [], .int .i64 1, .int .i64 1,
    .str [], .int .i64 1, .int .i64 2, .str []]), (65076, .cells [.int .i64 2, .int .i64 0, .int .i64 33, .int .i64 0]), (65091, .cells [.int .i64 1, .int .i64 0, .int .i64 2,
    .int .i64 2, .int .i64 22, .int .i64 0, .int .i64 4, .int .i64 0, .int .i64 1, .int .i64 0, .int .i64 2, .int .i64 2, .int .i64 2, .int .i64 3, .int .i64 22, .int .i64 0,
    .int .i64 23, .int .i64 0, .int .i64 1, .int .i64 0, .int .i64 2, .int .i64 3, .int .i64 3, .int .i64 0, .int .i64 23, .int .i64 0, .int .i64 1, .int .i64 0, .int .i64 2,
    .int .i64 1, .int .i64 22, .int .i64 0, .int .i64 31, .int .i64 0, .int .i64 34, .int .i64 2, .int .i64 2, .int .i64 0, .int .i64 33, .int .i64 0]), (65106, .cells [.int .i64 2,
    .int .i64 0, .int .i64 33, .int .i64 0]), (65109, .cells [.int .i64 0, .sl 2 65076 0 2, .int .i64 0, .sl 2 65091 0 20, .int .i64 0, .sl 2 65106 0 2])]
  n' := 75199
theorem runS17 : memoRun I [mS8, mS9, mS10, mS7, mS6, mS11, mS16] 100000 mS17 = some doneR := by kernel_rfl
theorem okS17 (hv : Digits val) : MemoOk Tryz.prog val mS17 := memoRun_ok (sound hv (allOk_cons (okS8 hv) (allOk_cons (okS9 hv) (allOk_cons (okS10 hv) (allOk_cons (okS7 hv) (allOk_cons (okS6 hv) (allOk_cons (okS11 hv) (allOk_cons (okS16 hv) allOk_nil))))))) _) runS17
noncomputable def mS18 : Memo where
  k := 149
  args := [.agg [.sl 6 6725 0 1, .nils]]
  ins := [(6725, .cells [.int .i64 3, .int .i64 0, .int .i64 0, .str [], .nils, .sl 6 9933 0 4]), (7827, .cells [.int .i64 1, .int .i64 1, .str [], .nils]), (7963, .cells [.int .i64 5,
    .int .i64 0, .str [], .sl 4 7827 0 1]), (8415, .cells [.int .i64 1, .int .i64 2, .str [], .nils]), (8553, .cells [.int .i64 1, .int .i64 1, .str [], .nils, .int .i64 5,
    .int .i64 0, .str [], .sl 4 8415 0 1]), (9164, .cells [.int .i64 1, .int .i64 2, .str [], .nils, .int .i64 3, .int .i64 0, .str [120], .nils]), (9485, .cells [.int .i64 1,
    .int .i64 0, .str [], .nils]), (9795, .cells [.int .i64 5, .int .i64 0, .str [], .sl 4 9485 0 1, .int .i64 15, .int .i64 0, .str [], .nils]), (9933, .cells [.int .i64 2,
    .str [120], .str [], .sl 4 7963 0 1, .nils, .nils, .int .i64 4, .str [], .str [], .sl 4 8553 0 2, .nils, .nils, .int .i64 4, .str [], .str [], .sl 4 9164 0 2, .nils, .nils,
    .int .i64 1, .str [], .str [], .sl 4 9795 0 2, .nils, .nils])]
  n := 75232
  d := .agg [.sl 4 78252 0 1, .nils]
  outs := [(6725, .cells [.int .i64 3, .int .i64 0, .int .i64 0, .str [], .nils, .sl 6 9933 0 4]), (7827, .cells [.int .i64 1, .int .i64 1, .str [], .nils]), (7963, .cells [.int .i64 5,
    .int .i64 0, .str [], .sl 4 7827 0 1]), (8415, .cells [.int .i64 1, .int .i64 2, .str [], .nils]), (8553, .cells [.int .i64 1, .int .i64 1, .str [], .nils, .int .i64 5,
    .int .i64 0, .str [], .sl 4 8415 0 1]), (9164, .cells [.int .i64 1, .int .i64 2, .str [], .nils, .int .i64 3, .int .i64 0, .str [120], .nils]), (9485, .cells [.int .i64 1,
    .int .i64 0, .str [], .nils]), (9795, .cells [.int .i64 5, .int .i64 0, .str [], .sl 4 9485 0 1, .int .i64 15, .int .i64 0, .str [], .nils]), (9933, .cells [.int .i64 2,
    .str [120], .str [], .sl 4 7963 0 1, .nils, .nils, .int .i64 4, .str [], .str [], .sl 4 8553 0 2, .nils, .nils, .int .i64 4, .str [], .str [], .sl 4 9164 0 2, .nils, .nils,
    .int .i64 1, .str [], .str [], .sl 4 9795 0 2, .nils, .nils]), (78252, .cells [.str [120], .int .i64 0, .int .i64 0, .str []])]
  n' := 81192
theorem runS18 : memoRun I [mS7, mS6] 100000 mS18 = some doneR := by kernel_rfl
theorem okS18 (hv : Digits val) : MemoOk Tryz.prog val mS18 := memoRun_ok (sound hv (allOk_cons (okS7 hv) (allOk_cons (okS6 hv) allOk_nil)) _) runS18
noncomputable def mS19 : Memo where
  k := 74
  args := [.agg [.sl 6 6725 0 1, .nils], .int .i64 100]
  ins := [(6725, .cells [.int .i64 3, .int .i64 0, .int .i64 0, .str [], .nils, .sl 6 9933 0 4]), (7827, .cells [.int .i64 1, .int .i64 1, .str [], .nils]), (7963, .cells [.int .i64 5,
    .int .i64 0, .str [], .sl 4 7827 0 1]), (8415, .cells [.int .i64 1, .int .i64 2, .str [], .nils]), (8553, .cells [.int .i64 1, .int .i64 1, .str [], .nils, .int .i64 5,
    .int .i64 0, .str [], .sl 4 8415 0 1]), (9164, .cells [.int .i64 1, .int .i64 2, .str [], .nils, .int .i64 3, .int .i64 0, .str [120], .nils]), (9485, .cells [.int .i64 1,
    .int .i64 0, .str [], .nils]), (9795, .cells [.int .i64 5, .int .i64 0, .str [], .sl 4 9485 0 1, .int .i64 15, .int .i64 0, .str [], .nils]), (9933, .cells [.int .i64 2,
    .str [120], .str [], .sl 4 7963 0 1, .nils, .nils, .int .i64 4, .str [], .str [], .sl 4 8553 0 2, .nils, .nils, .int .i64 4, .str [], .str [], .sl 4 9164 0 2, .nils, .nils,
    .int .i64 1, .str [], .str [], .sl 4 9795 0 2, .nils, .nils])]
  n := 75228
  d := .agg [.sl 4 78252 0 1, .nils, .str [], .nils, .int .i64 0, .nils, .int .i64 100, .int .i64 0, .int .i64 0, .int .i64 0, .int .i64 0]
  outs := [(6725, .cells [.int .i64 3, .int .i64 0, .int .i64 0, .str [], .nils, .sl 6 9933 0 4]), (7827, .cells [.int .i64 1, .int .i64 1, .str [], .nils]), (7963, .cells [.int .i64 5,
    .int .i64 0, .str [], .sl 4 7827 0 1]), (8415, .cells [.int .i64 1, .int .i64 2, .str [], .nils]), (8553, .cells [.int .i64 1, .int .i64 1, .str [], .nils, .int .i64 5,
    .int .i64 0, .str [], .sl 4 8415 0 1]), (9164, .cells [.int .i64 1, .int .i64 2, .str [], .nils, .int .i64 3, .int .i64 0, .str [120], .nils]), (9485, .cells [.int .i64 1,
    .int .i64 0, .str [], .nils]), (9795, .cells [.int .i64 5, .int .i64 0, .str [], .sl 4 9485 0 1, .int .i64 15, .int .i64 0, .str [], .nils]), (9933, .cells [.int .i64 2,
    .str [120], .str [], .sl 4 7963 0 1, .nils, .nils, .int .i64 4, .str [], .str [], .sl 4 8553 0 2, .nils, .nils, .int .i64 4, .str [], .str [], .sl 4 9164 0 2, .nils, .nils,
    .int .i64 1, .str [], .str [], .sl 4 9795 0 2, .nils, .nils]), (78252, .cells [.str [120], .int .i64 0, .int .i64 0, .str []])]
  n' := 81247
theorem runS19 : memoRun I [mS18] 100000 mS19 = some doneR := by kernel_rfl
theorem okS19 (hv : Digits val) : MemoOk Tryz.prog val mS19 := memoRun_ok (sound hv (allOk_cons (okS18 hv) allOk_nil) _) runS19
end Go.Gh
