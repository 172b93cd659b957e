import Derived.Test.YtidododdhnbpkaaGreatDoorGhK1
import Derived.KernelRfl
/- Calls that are the same in all cases, run by themselves. -/
set_option maxRecDepth 1000000
set_option linter.unusedVariables false
namespace Go.Gh
open Go.Proofs
variable {val : Nat → UInt8}
noncomputable def mS7 : Memo where
  k := 67
  args := [.agg [.sl 6 6725 0 1, .nils]]
  ins := [(6725, .cells [.int .i64 3, .int .i64 0, .int .i64 0, .str [], .nils, .sl 6 9933 0 4]), (7827, .cells [.int .i64 1, .int .i64 1, .str [], .nils]), (7963, .cells [.int .i64 5,
    .int .i64 0, .str [], .sl 4 7827 0 1]), (8415, .cells [.int .i64 1, .int .i64 2, .str [], .nils]), (8553, .cells [.int .i64 1, .int .i64 1, .str [], .nils, .int .i64 5,
    .int .i64 0, .str [], .sl 4 8415 0 1]), (9164, .cells [.int .i64 1, .int .i64 2, .str [], .nils, .int .i64 3, .int .i64 0, .str [120], .nils]), (9485, .cells [.int .i64 1,
    .int .i64 0, .str [], .nils]), (9795, .cells [.int .i64 5, .int .i64 0, .str [], .sl 4 9485 0 1, .int .i64 15, .int .i64 0, .str [], .nils]), (9933, .cells [.int .i64 2,
    .str [120], .str [], .sl 4 7963 0 1, .nils, .nils, .int .i64 4, .str [], .str [], .sl 4 8553 0 2, .nils, .nils, .int .i64 4, .str [], .str [], .sl 4 9164 0 2, .nils, .nils,
    .int .i64 1, .str [], .str [], .sl 4 9795 0 2, .nils, .nils])]
  n := 35989
  d := .sl 1 38732 0 1
  outs := [(6725, .cells [.int .i64 3, .int .i64 0, .int .i64 0, .str [], .nils, .sl 6 9933 0 4]), (7827, .cells [.int .i64 1, .int .i64 1, .str [], .nils]), (7963, .cells [.int .i64 5,
    .int .i64 0, .str [], .sl 4 7827 0 1]), (8415, .cells [.int .i64 1, .int .i64 2, .str [], .nils]), (8553, .cells [.int .i64 1, .int .i64 1, .str [], .nils, .int .i64 5,
    .int .i64 0, .str [], .sl 4 8415 0 1]), (9164, .cells [.int .i64 1, .int .i64 2, .str [], .nils, .int .i64 3, .int .i64 0, .str [120], .nils]), (9485, .cells [.int .i64 1,
    .int .i64 0, .str [], .nils]), (9795, .cells [.int .i64 5, .int .i64 0, .str [], .sl 4 9485 0 1, .int .i64 15, .int .i64 0, .str [], .nils]), (9933, .cells [.int .i64 2,
    .str [120], .str [], .sl 4 7963 0 1, .nils, .nils, .int .i64 4, .str [], .str [], .sl 4 8553 0 2, .nils, .nils, .int .i64 4, .str [], .str [], .sl 4 9164 0 2, .nils, .nils,
    .int .i64 1, .str [], .str [], .sl 4 9795 0 2, .nils, .nils]), (38732, .cells [.str [120], .str []])]
  n' := 38993
theorem runS7 : memoRun I [mS1] 100000 mS7 = some doneR := by kernel_rfl
theorem okS7 (hv : Digits val) : MemoOk Tryz.prog val mS7 := memoRun_ok (sound hv (allOk_cons (okS1 hv) allOk_nil) _) runS7
noncomputable def mS8 : Memo where
  k := 64
  args := [.agg [.sl 6 6725 0 1, .nils]]
  ins := [(6725, .cells [.int .i64 3, .int .i64 0, .int .i64 0, .str [], .nils, .sl 6 9933 0 4]), (7827, .cells [.int .i64 1, .int .i64 1, .str [], .nils]), (7963, .cells [.int .i64 5,
    .int .i64 0, .str [], .sl 4 7827 0 1]), (8415, .cells [.int .i64 1, .int .i64 2, .str [], .nils]), (8553, .cells [.int .i64 1, .int .i64 1, .str [], .nils, .int .i64 5,
    .int .i64 0, .str [], .sl 4 8415 0 1]), (9164, .cells [.int .i64 1, .int .i64 2, .str [], .nils, .int .i64 3, .int .i64 0, .str [120], .nils]), (9485, .cells [.int .i64 1,
    .int .i64 0, .str [], .nils]), (9795, .cells [.int .i64 5, .int .i64 0, .str [], .sl 4 9485 0 1, .int .i64 15, .int .i64 0, .str [], .nils]), (9933, .cells [.int .i64 2,
    .str [120], .str [], .sl 4 7963 0 1, .nils, .nils, .int .i64 4, .str [], .str [], .sl 4 8553 0 2, .nils, .nils, .int .i64 4, .str [], .str [], .sl 4 9164 0 2, .nils, .nils,
    .int .i64 1, .str [], .str [], .sl 4 9795 0 2, .nils, .nils])]
  n := 30807
  d := .int .i64 0
  outs := [(6725, .cells [.int .i64 3, .int .i64 0, .int .i64 0, .str [], .nils, .sl 6 9933 0 4]), (7827, .cells [.int .i64 1, .int .i64 1, .str [], .nils]), (7963, .cells [.int .i64 5,
    .int .i64 0, .str [], .sl 4 7827 0 1]), (8415, .cells [.int .i64 1, .int .i64 2, .str [], .nils]), (8553, .cells [.int .i64 1, .int .i64 1, .str [], .nils, .int .i64 5,
    .int .i64 0, .str [], .sl 4 8415 0 1]), (9164, .cells [.int .i64 1, .int .i64 2, .str [], .nils, .int .i64 3, .int .i64 0, .str [120], .nils]), (9485, .cells [.int .i64 1,
    .int .i64 0, .str [], .nils]), (9795, .cells [.int .i64 5, .int .i64 0, .str [], .sl 4 9485 0 1, .int .i64 15, .int .i64 0, .str [], .nils]), (9933, .cells [.int .i64 2,
    .str [120], .str [], .sl 4 7963 0 1, .nils, .nils, .int .i64 4, .str [], .str [], .sl 4 8553 0 2, .nils, .nils, .int .i64 4, .str [], .str [], .sl 4 9164 0 2, .nils, .nils,
    .int .i64 1, .str [], .str [], .sl 4 9795 0 2, .nils, .nils])]
  n' := 39818
theorem runS8 : memoRun I [mS1, mS6, mS7] 100000 mS8 = some doneR := by kernel_rfl
theorem okS8 (hv : Digits val) : MemoOk Tryz.prog val mS8 := memoRun_ok (sound hv (allOk_cons (okS1 hv) (allOk_cons (okS6 hv) (allOk_cons (okS7 hv) allOk_nil))) _) runS8
noncomputable def mS9 : Memo where
  k := 65
  args := [.agg [.sl 6 6725 0 1, .nils]]
  ins := [(6725, .cells [.int .i64 3, .int .i64 0, .int .i64 0, .str [], .nils, .sl 6 9933 0 4]), (7827, .cells [.int .i64 1, .int .i64 1, .str [], .nils]), (7963, .cells [.int .i64 5,
    .int .i64 0, .str [], .sl 4 7827 0 1]), (8415, .cells [.int .i64 1, .int .i64 2, .str [], .nils]), (8553, .cells [.int .i64 1, .int .i64 1, .str [], .nils, .int .i64 5,
    .int .i64 0, .str [], .sl 4 8415 0 1]), (9164, .cells [.int .i64 1, .int .i64 2, .str [], .nils, .int .i64 3, .int .i64 0, .str [120], .nils]), (9485, .cells [.int .i64 1,
    .int .i64 0, .str [], .nils]), (9795, .cells [.int .i64 5, .int .i64 0, .str [], .sl 4 9485 0 1, .int .i64 15, .int .i64 0, .str [], .nils]), (9933, .cells [.int .i64 2,
    .str [120], .str [], .sl 4 7963 0 1, .nils, .nils, .int .i64 4, .str [], .str [], .sl 4 8553 0 2, .nils, .nils, .int .i64 4, .str [], .str [], .sl 4 9164 0 2, .nils, .nils,
    .int .i64 1, .str [], .str [], .sl 4 9795 0 2, .nils, .nils])]
  n := 39832
  d := .sl 3 42561 0 4
  outs := [(6725, .cells [.int .i64 3, .int .i64 0, .int .i64 0, .str [], .nils, .sl 6 9933 0 4]), (7827, .cells [.int .i64 1, .int .i64 1, .str [], .nils]), (7963, .cells [.int .i64 5,
    .int .i64 0, .str [], .sl 4 7827 0 1]), (8415, .cells [.int .i64 1, .int .i64 2, .str [], .nils]), (8553, .cells [.int .i64 1, .int .i64 1, .str [], .nils, .int .i64 5,
    .int .i64 0, .str [], .sl 4 8415 0 1]), (9164, .cells [.int .i64 1, .int .i64 2, .str [], .nils, .int .i64 3, .int .i64 0, .str [120], .nils]), (9485, .cells [.int .i64 1,
    .int .i64 0, .str [], .nils]), (9795, .cells [.int .i64 5, .int .i64 0, .str [], .sl 4 9485 0 1, .int .i64 15, .int .i64 0, .str [], .nils]), (9933, .cells [.int .i64 2,
    .str [120], .str [], .sl 4 7963 0 1, .nils, .nils, .int .i64 4, .str [], .str [], .sl 4 8553 0 2, .nils, .nils, .int .i64 4, .str [], .str [], .sl 4 9164 0 2, .nils, .nils,
    .int .i64 1, .str [], .str [], .sl 4 9795 0 2, .nils, .nils]), (42561, .cells [.int .i64 0, .int .i64 0, .str [], .int .i64 1, .int .i64 0, .str [], .int .i64 1, .int .i64 1,
    .str [], .int .i64 1, .int .i64 2, .str []])]
  n' := 42982
theorem runS9 : memoRun I [mS1] 100000 mS9 = some doneR := by kernel_rfl
theorem okS9 (hv : Digits val) : MemoOk Tryz.prog val mS9 := memoRun_ok (sound hv (allOk_cons (okS1 hv) allOk_nil) _) runS9
noncomputable def mS10 : Memo where
  k := 66
  args := [.agg [.sl 6 6725 0 1, .nils]]
  ins := [(6725, .cells [.int .i64 3, .int .i64 0, .int .i64 0, .str [], .nils, .sl 6 9933 0 4]), (7827, .cells [.int .i64 1, .int .i64 1, .str [], .nils]), (7963, .cells [.int .i64 5,
    .int .i64 0, .str [], .sl 4 7827 0 1]), (8415, .cells [.int .i64 1, .int .i64 2, .str [], .nils]), (8553, .cells [.int .i64 1, .int .i64 1, .str [], .nils, .int .i64 5,
    .int .i64 0, .str [], .sl 4 8415 0 1]), (9164, .cells [.int .i64 1, .int .i64 2, .str [], .nils, .int .i64 3, .int .i64 0, .str [120], .nils]), (9485, .cells [.int .i64 1,
    .int .i64 0, .str [], .nils]), (9795, .cells [.int .i64 5, .int .i64 0, .str [], .sl 4 9485 0 1, .int .i64 15, .int .i64 0, .str [], .nils]), (9933, .cells [.int .i64 2,
    .str [120], .str [], .sl 4 7963 0 1, .nils, .nils, .int .i64 4, .str [], .str [], .sl 4 8553 0 2, .nils, .nils, .int .i64 4, .str [], .str [], .sl 4 9164 0 2, .nils, .nils,
    .int .i64 1, .str [], .str [], .sl 4 9795 0 2, .nils, .nils])]
  n := 42982
  d := .nils
  outs := [(6725, .cells [.int .i64 3, .int .i64 0, .int .i64 0, .str [], .nils, .sl 6 9933 0 4]), (7827, .cells [.int .i64 1, .int .i64 1, .str [], .nils]), (7963, .cells [.int .i64 5,
    .int .i64 0, .str [], .sl 4 7827 0 1]), (8415, .cells [.int .i64 1, .int .i64 2, .str [], .nils]), (8553, .cells [.int .i64 1, .int .i64 1, .str [], .nils, .int .i64 5,
    .int .i64 0, .str [], .sl 4 8415 0 1]), (9164, .cells [.int .i64 1, .int .i64 2, .str [], .nils, .int .i64 3, .int .i64 0, .str [120], .nils]), (9485, .cells [.int .i64 1,
    .int .i64 0, .str [], .nils]), (9795, .cells [.int .i64 5, .int .i64 0, .str [], .sl 4 9485 0 1, .int .i64 15, .int .i64 0, .str [], .nils]), (9933, .cells [.int .i64 2,
    .str [120], .str [], .sl 4 7963 0 1, .nils, .nils, .int .i64 4, .str [], .str [], .sl 4 8553 0 2, .nils, .nils, .int .i64 4, .str [], .str [], .sl 4 9164 0 2, .nils, .nils,
    .int .i64 1, .str [], .str [], .sl 4 9795 0 2, .nils, .nils])]
  n' := 45777
theorem runS10 : memoRun I [mS1] 100000 mS10 = some doneR := by kernel_rfl
theorem okS10 (hv : Digits val) : MemoOk Tryz.prog val mS10 := memoRun_ok (sound hv (allOk_cons (okS1 hv) allOk_nil) _) runS10
noncomputable def mS11 : Memo where
  k := 69
  args := [.agg [.sl 6 6725 0 1, .nils], .int .i64 (-1)]
  ins := [(6725, .cells [.int .i64 3, .int .i64 0, .int .i64 0, .str [], .nils, .sl 6 9933 0 4]), (7827, .cells [.int .i64 1, .int .i64 1, .str [], .nils]), (7963, .cells [.int .i64 5,
    .int .i64 0, .str [], .sl 4 7827 0 1]), (8415, .cells [.int .i64 1, .int .i64 2, .str [], .nils]), (8553, .cells [.int .i64 1, .int .i64 1, .str [], .nils, .int .i64 5,
    .int .i64 0, .str [], .sl 4 8415 0 1]), (9164, .cells [.int .i64 1, .int .i64 2, .str [], .nils, .int .i64 3, .int .i64 0, .str [120], .nils]), (9485, .cells [.int .i64 1,
    .int .i64 0, .str [], .nils]), (9795, .cells [.int .i64 5, .int .i64 0, .str [], .sl 4 9485 0 1, .int .i64 15, .int .i64 0, .str [], .nils]), (9933, .cells [.int .i64 2,
    .str [120], .str [], .sl 4 7963 0 1, .nils, .nils, .int .i64 4, .str [], .str [], .sl 4 8553 0 2, .nils, .nils, .int .i64 4, .str [], .str [], .sl 4 9164 0 2, .nils, .nils,
    .int .i64 1, .str [], .str [], .sl 4 9795 0 2, .nils, .nils])]
  n := 51719
  d := .ptr 51732 0
  outs := [(6725, .cells [.int .i64 3, .int .i64 0, .int .i64 0, .str [], .nils, .sl 6 9933 0 4]), (7827, .cells [.int .i64 1, .int .i64 1, .str [], .nils]), (7963, .cells [.int .i64 5,
    .int .i64 0, .str [], .sl 4 7827 0 1]), (8415, .cells [.int .i64 1, .int .i64 2, .str [], .nils]), (8553, .cells [.int .i64 1, .int .i64 1, .str [], .nils, .int .i64 5,
    .int .i64 0, .str [], .sl 4 8415 0 1]), (9164, .cells [.int .i64 1, .int .i64 2, .str [], .nils, .int .i64 3, .int .i64 0, .str [120], .nils]), (9485, .cells [.int .i64 1,
    .int .i64 0, .str [], .nils]), (9795, .cells [.int .i64 5, .int .i64 0, .str [], .sl 4 9485 0 1, .int .i64 15, .int .i64 0, .str [], .nils]), (9933, .cells [.int .i64 2,
    .str [120], .str [], .sl 4 7963 0 1, .nils, .nils, .int .i64 4, .str [], .str [], .sl 4 8553 0 2, .nils, .nils, .int .i64 4, .str [], .str [], .sl 4 9164 0 2, .nils, .nils,
    .int .i64 1, .str [], .str [], .sl 4 9795 0 2, .nils, .nils]), (51732, .cells [.sl 6 6725 0 1, .nils, .int .i64 (-1), .sl 3 54463 0 4, .nils, .sl 1 60422 0 1, .nils,
    .bool false]), (54463, .cells [.int .i64 0, .int .i64 0, .str [], .int .i64 1, .int .i64 0, .str [], .int .i64 1, .int .i64 1, .str [], .int .i64 1, .int .i64 2, .str []]),
    (60422, .cells [.str [120], .str []])]
  n' := 63610
theorem runS11 : memoRun I [mS9, mS10, mS7, mS6] 100000 mS11 = some doneR := by kernel_rfl
theorem okS11 (hv : Digits val) : MemoOk Tryz.prog val mS11 := memoRun_ok (sound hv (allOk_cons (okS9 hv) (allOk_cons (okS10 hv) (allOk_cons (okS7 hv) (allOk_cons (okS6 hv) allOk_nil)))) _) runS11
noncomputable def mS12 : Memo where
  k := 147
  args := [.agg [.sl 3 42561 0 4, .nils, .int .i64 1, .int .i64 0, .sl 2 65109 0 3]]
  ins := [(42561, .cells [.int .i64 0, .int .i64 0, .str [], .int .i64 1, .int .i64 0, .str [], .int .i64 1, .int .i64 1, .str [], .int .i64 1, .int .i64 2, .str []]), (65076,
    .cells [.int .i64 2, .int .i64 0, .int .i64 33, .int .i64 0]), (65091, .cells [.int .i64 1, .int .i64 0, .int .i64 2, .int .i64 2, .int .i64 22, .int .i64 0, .int .i64 4,
    .int .i64 0, .int .i64 1, .int .i64 0, .int .i64 2, .int .i64 2, .int .i64 2, .int .i64 3, .int .i64 22, .int .i64 0, .int .i64 23, .int .i64 0, .int .i64 1, .int .i64 0,
    .int .i64 2, .int .i64 3, .int .i64 3, .int .i64 0, .int .i64 23, .int .i64 0, .int .i64 1, .int .i64 0, .int .i64 2, .int .i64 1, .int .i64 22, .int .i64 0, .int .i64 31,
    .int .i64 0, .int .i64 34, .int .i64 2, .int .i64 2, .int .i64 0, .int .i64 33, .int .i64 0]), (65106, .cells [.int .i64 2, .int .i64 0, .int .i64 33, .int .i64 0]), (65109,
    .cells [.int .i64 0, .sl 2 65076 0 2, .int .i64 0, .sl 2 65091 0 20, .int .i64 0, .sl 2 65106 0 2])]
  n := 65121
  d := .bool true
  outs := [(42561, .cells [.int .i64 0, .int .i64 0, .str [], .int .i64 1, .int .i64 0, .str [], .int .i64 1, .int .i64 1, .str [], .int .i64 1, .int .i64 2, .str []]), (65076,
    .cells [.int .i64 2, .int .i64 0, .int .i64 33, .int .i64 0]), (65091, .cells [.int .i64 1, .int .i64 0, .int .i64 2, .int .i64 2, .int .i64 22, .int .i64 0, .int .i64 4,
    .int .i64 0, .int .i64 1, .int .i64 0, .int .i64 2, .int .i64 2, .int .i64 2, .int .i64 3, .int .i64 22, .int .i64 0, .int .i64 23, .int .i64 0, .int .i64 1, .int .i64 0,
    .int .i64 2, .int .i64 3, .int .i64 3, .int .i64 0, .int .i64 23, .int .i64 0, .int .i64 1, .int .i64 0, .int .i64 2, .int .i64 1, .int .i64 22, .int .i64 0, .int .i64 31,
    .int .i64 0, .int .i64 34, .int .i64 2, .int .i64 2, .int .i64 0, .int .i64 33, .int .i64 0]), (65106, .cells [.int .i64 2, .int .i64 0, .int .i64 33, .int .i64 0]), (65109,
    .cells [.int .i64 0, .sl 2 65076 0 2, .int .i64 0, .sl 2 65091 0 20, .int .i64 0, .sl 2 65106 0 2])]
  n' := 67602
theorem runS12 : memoRun I [] 100000 mS12 = some doneR := by kernel_rfl
theorem okS12 (hv : Digits val) : MemoOk Tryz.prog val mS12 := memoRun_ok (sound hv allOk_nil _) runS12
noncomputable def mS13 : Memo where
  k := 148
  args := [.agg [.sl 3 42561 0 4, .nils, .int .i64 1, .int .i64 0, .sl 2 65109 0 3], .int .i64 0]
  ins := [(42561, .cells [.int .i64 0, .int .i64 0, .str [], .int .i64 1, .int .i64 0, .str [], .int .i64 1, .int .i64 1, .str [], .int .i64 1, .int .i64 2, .str []]), (65076,
    .cells [.int .i64 2, .int .i64 0, .int .i64 33, .int .i64 0]), (65091, .cells [.int .i64 1, .int .i64 0, .int .i64 2, .int .i64 2, .int .i64 22, .int .i64 0, .int .i64 4,
    .int .i64 0, .int .i64 1, .int .i64 0, .int .i64 2, .int .i64 2, .int .i64 2, .int .i64 3, .int .i64 22, .int .i64 0, .int .i64 23, .int .i64 0, .int .i64 1, .int .i64 0,
    .int .i64 2, .int .i64 3, .int .i64 3, .int .i64 0, .int .i64 23, .int .i64 0, .int .i64 1, .int .i64 0, .int .i64 2, .int .i64 1, .int .i64 22, .int .i64 0, .int .i64 31,
    .int .i64 0, .int .i64 34, .int .i64 2, .int .i64 2, .int .i64 0, .int .i64 33, .int .i64 0]), (65106, .cells [.int .i64 2, .int .i64 0, .int .i64 33, .int .i64 0]), (65109,
    .cells [.int .i64 0, .sl 2 65076 0 2, .int .i64 0, .sl 2 65091 0 20, .int .i64 0, .sl 2 65106 0 2])]
  n := 67613
  d := .tup [.sl 1 67941 0 2, .bool true]
  outs := [(42561, .cells [.int .i64 0, .int .i64 0, .str [], .int .i64 1, .int .i64 0, .str [], .int .i64 1, .int .i64 1, .str [], .int .i64 1, .int .i64 2, .str []]), (65076,
    .cells [.int .i64 2, .int .i64 0, .int .i64 33, .int .i64 0]), (65091, .cells [.int .i64 1, .int .i64 0, .int .i64 2, .int .i64 2, .int .i64 22, .int .i64 0, .int .i64 4,
    .int .i64 0, .int .i64 1, .int .i64 0, .int .i64 2, .int .i64 2, .int .i64 2, .int .i64 3, .int .i64 22, .int .i64 0, .int .i64 23, .int .i64 0, .int .i64 1, .int .i64 0,
    .int .i64 2, .int .i64 3, .int .i64 3, .int .i64 0, .int .i64 23, .int .i64 0, .int .i64 1, .int .i64 0, .int .i64 2, .int .i64 1, .int .i64 22, .int .i64 0, .int .i64 31,
    .int .i64 0, .int .i64 34, .int .i64 2, .int .i64 2, .int .i64 0, .int .i64 33, .int .i64 0]), (65106, .cells [.int .i64 2, .int .i64 0, .int .i64 33, .int .i64 0]), (65109,
    .cells [.int .i64 0, .sl 2 65076 0 2, .int .i64 0, .sl 2 65091 0 20, .int .i64 0, .sl 2 65106 0 2]), (67941, .cells [.int .i64 0, .int .i64 1])]
  n' := 68189
theorem runS13 : memoRun I [] 100000 mS13 = some doneR := by kernel_rfl
theorem okS13 (hv : Digits val) : MemoOk Tryz.prog val mS13 := memoRun_ok (sound hv allOk_nil _) runS13
noncomputable def mS14 : Memo where
  k := 148
  args := [.agg [.sl 3 42561 0 4, .nils, .int .i64 1, .int .i64 0, .sl 2 65109 0 3], .int .i64 1]
  ins := [(42561, .cells [.int .i64 0, .int .i64 0, .str [], .int .i64 1, .int .i64 0, .str [], .int .i64 1, .int .i64 1, .str [], .int .i64 1, .int .i64 2, .str []]), (65076,
    .cells [.int .i64 2, .int .i64 0, .int .i64 33, .int .i64 0]), (65091, .cells [.int .i64 1, .int .i64 0, .int .i64 2, .int .i64 2, .int .i64 22, .int .i64 0, .int .i64 4,
    .int .i64 0, .int .i64 1, .int .i64 0, .int .i64 2, .int .i64 2, .int .i64 2, .int .i64 3, .int .i64 22, .int .i64 0, .int .i64 23, .int .i64 0, .int .i64 1, .int .i64 0,
    .int .i64 2, .int .i64 3, .int .i64 3, .int .i64 0, .int .i64 23, .int .i64 0, .int .i64 1, .int .i64 0, .int .i64 2, .int .i64 1, .int .i64 22, .int .i64 0, .int .i64 31,
    .int .i64 0, .int .i64 34, .int .i64 2, .int .i64 2, .int .i64 0, .int .i64 33, .int .i64 0]), (65106, .cells [.int .i64 2, .int .i64 0, .int .i64 33, .int .i64 0]), (65109,
    .cells [.int .i64 0, .sl 2 65076 0 2, .int .i64 0, .sl 2 65091 0 20, .int .i64 0, .sl 2 65106 0 2])]
  n := 68204
  d := .tup [.sl 1 74345 0 20, .bool true]
  outs := [(42561, .cells [.int .i64 0, .int .i64 0, .str [], .int .i64 1, .int .i64 0, .str [], .int .i64 1, .int .i64 1, .str [], .int .i64 1, .int .i64 2, .str []]), (65076,
    .cells [.int .i64 2, .int .i64 0, .int .i64 33, .int .i64 0]), (65091, .cells [.int .i64 1, .int .i64 0, .int .i64 2, .int .i64 2, .int .i64 22, .int .i64 0, .int .i64 4,
    .int .i64 0, .int .i64 1, .int .i64 0, .int .i64 2, .int .i64 2, .int .i64 2, .int .i64 3, .int .i64 22, .int .i64 0, .int .i64 23, .int .i64 0, .int .i64 1, .int .i64 0,
    .int .i64 2, .int .i64 3, .int .i64 3, .int .i64 0, .int .i64 23, .int .i64 0, .int .i64 1, .int .i64 0, .int .i64 2, .int .i64 1, .int .i64 22, .int .i64 0, .int .i64 31,
    .int .i64 0, .int .i64 34, .int .i64 2, .int .i64 2, .int .i64 0, .int .i64 33, .int .i64 0]), (65106, .cells [.int .i64 2, .int .i64 0, .int .i64 33, .int .i64 0]), (65109,
    .cells [.int .i64 0, .sl 2 65076 0 2, .int .i64 0, .sl 2 65091 0 20, .int .i64 0, .sl 2 65106 0 2]), (74345, .cells [.int .i64 0, .int .i64 0, .int .i64 1, .int .i64 1,
    .int .i64 0, .int .i64 0, .int .i64 1, .int .i64 2, .int .i64 2, .int .i64 0, .int .i64 0, .int .i64 1, .int .i64 2, .int .i64 0, .int .i64 0, .int .i64 1, .int .i64 1,
    .int .i64 2, .int .i64 0, .int .i64 1])]
  n' := 74593
theorem runS14 : memoRun I [] 100000 mS14 = some doneR := by kernel_rfl
theorem okS14 (hv : Digits val) : MemoOk Tryz.prog val mS14 := memoRun_ok (sound hv allOk_nil _) runS14
end Go.Gh
