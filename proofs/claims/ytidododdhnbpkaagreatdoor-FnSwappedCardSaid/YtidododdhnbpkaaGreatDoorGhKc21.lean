import Derived.Test.YtidododdhnbpkaaGreatDoorGhK3
/- The program run where the numbers have 2 and 1 digits. -/
set_option maxRecDepth 1000000
set_option linter.unusedVariables false
namespace Go.Gh
open Go.Proofs
variable {val : Nat → UInt8}
noncomputable def mC21N0 : Memo where
  k := 35
  args := [.agg [.sl 6 6725 0 1, .nils], .sl 1 0 0 2, .int .i64 100]
  ins := [(0, .cells [.str [256, 257, 32, 32, 258], .str [111, 110, 101]]), (6725, .cells [.int .i64 3, .int .i64 0, .int .i64 0, .str [], .nils, .sl 6 9933 0 4]), (7827,
    .cells [.int .i64 1, .int .i64 1, .str [], .nils]), (7963, .cells [.int .i64 5, .int .i64 0, .str [], .sl 4 7827 0 1]), (8415, .cells [.int .i64 1, .int .i64 2, .str [],
    .nils]), (8553, .cells [.int .i64 1, .int .i64 1, .str [], .nils, .int .i64 5, .int .i64 0, .str [], .sl 4 8415 0 1]), (9164, .cells [.int .i64 1, .int .i64 2, .str [], .nils,
    .int .i64 3, .int .i64 0, .str [120], .nils]), (9485, .cells [.int .i64 1, .int .i64 0, .str [], .nils]), (9795, .cells [.int .i64 5, .int .i64 0, .str [], .sl 4 9485 0 1,
    .int .i64 15, .int .i64 0, .str [], .nils]), (9933, .cells [.int .i64 2, .str [120], .str [], .sl 4 7963 0 1, .nils, .nils, .int .i64 4, .str [], .str [], .sl 4 8553 0 2, .nils,
    .nils, .int .i64 4, .str [], .str [], .sl 4 9164 0 2, .nils, .nils, .int .i64 1, .str [], .str [], .sl 4 9795 0 2, .nils, .nils])]
  n := 75219
  d := .agg [.sl 4 92797 0 1, .nils, .str [32, 111, 110, 101], .sl 1 93699 0 2, .int .i64 2, .sl 1 94151 0 14, .int .i64 90, .int .i64 0, .int .i64 0, .int .i64 0, .int .i64 0]
  outs := [(0, .cells [.str [256, 257, 32, 32, 258], .str [111, 110, 101]]), (6725, .cells [.int .i64 3, .int .i64 0, .int .i64 0, .str [], .nils, .sl 6 9933 0 4]), (7827,
    .cells [.int .i64 1, .int .i64 1, .str [], .nils]), (7963, .cells [.int .i64 5, .int .i64 0, .str [], .sl 4 7827 0 1]), (8415, .cells [.int .i64 1, .int .i64 2, .str [],
    .nils]), (8553, .cells [.int .i64 1, .int .i64 1, .str [], .nils, .int .i64 5, .int .i64 0, .str [], .sl 4 8415 0 1]), (9164, .cells [.int .i64 1, .int .i64 2, .str [], .nils,
    .int .i64 3, .int .i64 0, .str [120], .nils]), (9485, .cells [.int .i64 1, .int .i64 0, .str [], .nils]), (9795, .cells [.int .i64 5, .int .i64 0, .str [], .sl 4 9485 0 1,
    .int .i64 15, .int .i64 0, .str [], .nils]), (9933, .cells [.int .i64 2, .str [120], .str [], .sl 4 7963 0 1, .nils, .nils, .int .i64 4, .str [], .str [], .sl 4 8553 0 2, .nils,
    .nils, .int .i64 4, .str [], .str [], .sl 4 9164 0 2, .nils, .nils, .int .i64 1, .str [], .str [], .sl 4 9795 0 2, .nils, .nils]), (92797, .cells [.str [120], .int .i64 2,
    .int .i64 0, .str [111, 110, 101]]), (93699, .cells [.str [], .str [111, 110, 101]]), (94151, .cells [.sym .u8 258, .int .u8 32, .sym .u8 256, .sym .u8 257, .int .u8 32,
    .int .u8 50, .int .u8 10, .int .u8 32, .int .u8 111, .int .u8 110, .int .u8 101, .int .u8 32, .int .u8 50, .int .u8 10])]
  n' := 94205
theorem runC21N0 : memoRun I [mS19, mS8] 100000 mC21N0 = some doneR := by kernel_rfl
theorem okC21N0 (hv : Digits val) : MemoOk Tryz.prog val mC21N0 := memoRun_ok (sound hv (allOk_cons (okS19 hv) (allOk_cons (okS8 hv) allOk_nil)) _) runC21N0
noncomputable def mC21N1 : Memo where
  k := 34
  args := [.agg [.sl 4 92797 0 1, .nils, .str [32, 111, 110, 101], .sl 1 93699 0 2, .int .i64 2, .sl 1 94151 0 14, .int .i64 90, .int .i64 0, .int .i64 0, .int .i64 0, .int .i64 0]]
  ins := [(92797, .cells [.str [120], .int .i64 2, .int .i64 0, .str [111, 110, 101]]), (93699, .cells [.str [], .str [111, 110, 101]]), (94151, .cells [.sym .u8 258, .int .u8 32,
    .sym .u8 256, .sym .u8 257, .int .u8 32, .int .u8 50, .int .u8 10, .int .u8 32, .int .u8 111, .int .u8 110, .int .u8 101, .int .u8 32, .int .u8 50, .int .u8 10])]
  n := 94205
  d := .str [258, 32, 256, 257, 32, 50, 10, 32, 111, 110, 101, 32, 50, 10]
  outs := [(92797, .cells [.str [120], .int .i64 2, .int .i64 0, .str [111, 110, 101]]), (93699, .cells [.str [], .str [111, 110, 101]]), (94151, .cells [.sym .u8 258, .int .u8 32,
    .sym .u8 256, .sym .u8 257, .int .u8 32, .int .u8 50, .int .u8 10, .int .u8 32, .int .u8 111, .int .u8 110, .int .u8 101, .int .u8 32, .int .u8 50, .int .u8 10])]
  n' := 94226
theorem runC21N1 : memoRun I [] 100000 mC21N1 = some doneR := by kernel_rfl
theorem okC21N1 (hv : Digits val) : MemoOk Tryz.prog val mC21N1 := memoRun_ok (sound hv allOk_nil _) runC21N1
noncomputable def mC21N2 : Memo where
  k := 80
  args := [.agg [.sl 3 42561 0 4, .nils, .int .i64 1, .int .i64 0, .sl 2 65109 0 3], .int .i64 100]
  ins := [(42561, .cells [.int .i64 0, .int .i64 0, .str [], .int .i64 1, .int .i64 0, .str [], .int .i64 1, .int .i64 1, .str [], .int .i64 1, .int .i64 2, .str []]), (65076,
    .cells [.int .i64 2, .int .i64 0, .int .i64 33, .int .i64 0]), (65091, .cells [.int .i64 1, .int .i64 0, .int .i64 2, .int .i64 2, .int .i64 22, .int .i64 0, .int .i64 4,
    .int .i64 0, .int .i64 1, .int .i64 0, .int .i64 2, .int .i64 2, .int .i64 2, .int .i64 3, .int .i64 22, .int .i64 0, .int .i64 23, .int .i64 0, .int .i64 1, .int .i64 0,
    .int .i64 2, .int .i64 3, .int .i64 3, .int .i64 0, .int .i64 23, .int .i64 0, .int .i64 1, .int .i64 0, .int .i64 2, .int .i64 1, .int .i64 22, .int .i64 0, .int .i64 31,
    .int .i64 0, .int .i64 34, .int .i64 2, .int .i64 2, .int .i64 0, .int .i64 33, .int .i64 0]), (65106, .cells [.int .i64 2, .int .i64 0, .int .i64 33, .int .i64 0]), (65109,
    .cells [.int .i64 0, .sl 2 65076 0 2, .int .i64 0, .sl 2 65091 0 20, .int .i64 0, .sl 2 65106 0 2])]
  n := 94231
  d := .agg [.sl 4 104416 0 1, .sl 1 104384 0 1, .sl 1 104319 0 0, .nils, .str [], .nils, .int .i64 0, .nils, .int .i64 100, .int .i64 0, .int .i64 0, .int .i64 0, .bool false]
  outs := [(42561, .cells [.int .i64 0, .int .i64 0, .str [], .int .i64 1, .int .i64 0, .str [], .int .i64 1, .int .i64 1, .str [], .int .i64 1, .int .i64 2, .str []]), (65076,
    .cells [.int .i64 2, .int .i64 0, .int .i64 33, .int .i64 0]), (65091, .cells [.int .i64 1, .int .i64 0, .int .i64 2, .int .i64 2, .int .i64 22, .int .i64 0, .int .i64 4,
    .int .i64 0, .int .i64 1, .int .i64 0, .int .i64 2, .int .i64 2, .int .i64 2, .int .i64 3, .int .i64 22, .int .i64 0, .int .i64 23, .int .i64 0, .int .i64 1, .int .i64 0,
    .int .i64 2, .int .i64 3, .int .i64 3, .int .i64 0, .int .i64 23, .int .i64 0, .int .i64 1, .int .i64 0, .int .i64 2, .int .i64 1, .int .i64 22, .int .i64 0, .int .i64 31,
    .int .i64 0, .int .i64 34, .int .i64 2, .int .i64 2, .int .i64 0, .int .i64 33, .int .i64 0]), (65106, .cells [.int .i64 2, .int .i64 0, .int .i64 33, .int .i64 0]), (65109,
    .cells [.int .i64 0, .sl 2 65076 0 2, .int .i64 0, .sl 2 65091 0 20, .int .i64 0, .sl 2 65106 0 2]), (104319, .cells []), (104384, .cells [.int .i64 0]), (104416,
    .cells [.int .i64 1, .int .i64 0, .int .i64 0, .str []])]
  n' := 104440
theorem runC21N2 : memoRun I [mS16] 100000 mC21N2 = some doneR := by kernel_rfl
theorem okC21N2 (hv : Digits val) : MemoOk Tryz.prog val mC21N2 := memoRun_ok (sound hv (allOk_cons (okS16 hv) allOk_nil) _) runC21N2
noncomputable def mC21N3 : Memo where
  k := 81
  args := [.agg [.sl 3 42561 0 4, .nils, .int .i64 1, .int .i64 0, .sl 2 65109 0 3], .agg [.sl 4 104416 0 1, .sl 1 104384 0 1, .sl 1 104319 0 0, .nils, .str [], .nils, .int .i64 0, .nils,
    .int .i64 100, .int .i64 0, .int .i64 0, .int .i64 0, .bool false], .int .i64 0]
  ins := [(42561, .cells [.int .i64 0, .int .i64 0, .str [], .int .i64 1, .int .i64 0, .str [], .int .i64 1, .int .i64 1, .str [], .int .i64 1, .int .i64 2, .str []]), (65076,
    .cells [.int .i64 2, .int .i64 0, .int .i64 33, .int .i64 0]), (65091, .cells [.int .i64 1, .int .i64 0, .int .i64 2, .int .i64 2, .int .i64 22, .int .i64 0, .int .i64 4,
    .int .i64 0, .int .i64 1, .int .i64 0, .int .i64 2, .int .i64 2, .int .i64 2, .int .i64 3, .int .i64 22, .int .i64 0, .int .i64 23, .int .i64 0, .int .i64 1, .int .i64 0,
    .int .i64 2, .int .i64 3, .int .i64 3, .int .i64 0, .int .i64 23, .int .i64 0, .int .i64 1, .int .i64 0, .int .i64 2, .int .i64 1, .int .i64 22, .int .i64 0, .int .i64 31,
    .int .i64 0, .int .i64 34, .int .i64 2, .int .i64 2, .int .i64 0, .int .i64 33, .int .i64 0]), (65106, .cells [.int .i64 2, .int .i64 0, .int .i64 33, .int .i64 0]), (65109,
    .cells [.int .i64 0, .sl 2 65076 0 2, .int .i64 0, .sl 2 65091 0 20, .int .i64 0, .sl 2 65106 0 2]), (104319, .cells []), (104384, .cells [.int .i64 0]), (104416,
    .cells [.int .i64 1, .int .i64 0, .int .i64 0, .str []])]
  n := 114538
  d := .agg [.sl 4 115097 0 2, .sl 1 114617 0 1, .nils, .sl 6 114663 0 0, .str [], .nils, .int .i64 0, .nils, .int .i64 100, .int .i64 0, .int .i64 0, .int .i64 0, .bool false]
  outs := [(42561, .cells [.int .i64 0, .int .i64 0, .str [], .int .i64 1, .int .i64 0, .str [], .int .i64 1, .int .i64 1, .str [], .int .i64 1, .int .i64 2, .str []]), (65076,
    .cells [.int .i64 2, .int .i64 0, .int .i64 33, .int .i64 0]), (65091, .cells [.int .i64 1, .int .i64 0, .int .i64 2, .int .i64 2, .int .i64 22, .int .i64 0, .int .i64 4,
    .int .i64 0, .int .i64 1, .int .i64 0, .int .i64 2, .int .i64 2, .int .i64 2, .int .i64 3, .int .i64 22, .int .i64 0, .int .i64 23, .int .i64 0, .int .i64 1, .int .i64 0,
    .int .i64 2, .int .i64 3, .int .i64 3, .int .i64 0, .int .i64 23, .int .i64 0, .int .i64 1, .int .i64 0, .int .i64 2, .int .i64 1, .int .i64 22, .int .i64 0, .int .i64 31,
    .int .i64 0, .int .i64 34, .int .i64 2, .int .i64 2, .int .i64 0, .int .i64 33, .int .i64 0]), (65106, .cells [.int .i64 2, .int .i64 0, .int .i64 33, .int .i64 0]), (65109,
    .cells [.int .i64 0, .sl 2 65076 0 2, .int .i64 0, .sl 2 65091 0 20, .int .i64 0, .sl 2 65106 0 2]), (104319, .cells []), (104384, .cells [.int .i64 0]), (104416,
    .cells [.int .i64 1, .int .i64 0, .int .i64 0, .str []]), (114617, .cells [.int .i64 0]), (114663, .cells [.int .i64 0, .int .i64 2, .nils, .sl 2 115126 0 0, .nils, .nils]),
    (115097, .cells [.int .i64 1, .int .i64 0, .int .i64 0, .str [], .int .i64 0, .int .i64 0, .int .i64 0, .str []]), (115126, .cells [.bool false, .int .i64 1])]
  n' := 115643
theorem runC21N3 : memoRun I [] 100000 mC21N3 = some doneR := by kernel_rfl
theorem okC21N3 (hv : Digits val) : MemoOk Tryz.prog val mC21N3 := memoRun_ok (sound hv allOk_nil _) runC21N3
noncomputable def mC21N4 : Memo where
  k := 81
  args := [.agg [.sl 3 42561 0 4, .nils, .int .i64 1, .int .i64 0, .sl 2 65109 0 3], .agg [.sl 4 115097 0 2, .sl 1 114617 0 1, .nils, .sl 6 114663 0 0, .str [256, 257, 32, 32, 258],
    .sl 1 115859 0 2, .int .i64 1, .nils, .int .i64 99, .int .i64 0, .int .i64 0, .int .i64 0, .bool false], .int .i64 1]
  ins := [(42561, .cells [.int .i64 0, .int .i64 0, .str [], .int .i64 1, .int .i64 0, .str [], .int .i64 1, .int .i64 1, .str [], .int .i64 1, .int .i64 2, .str []]), (65076,
    .cells [.int .i64 2, .int .i64 0, .int .i64 33, .int .i64 0]), (65091, .cells [.int .i64 1, .int .i64 0, .int .i64 2, .int .i64 2, .int .i64 22, .int .i64 0, .int .i64 4,
    .int .i64 0, .int .i64 1, .int .i64 0, .int .i64 2, .int .i64 2, .int .i64 2, .int .i64 3, .int .i64 22, .int .i64 0, .int .i64 23, .int .i64 0, .int .i64 1, .int .i64 0,
    .int .i64 2, .int .i64 3, .int .i64 3, .int .i64 0, .int .i64 23, .int .i64 0, .int .i64 1, .int .i64 0, .int .i64 2, .int .i64 1, .int .i64 22, .int .i64 0, .int .i64 31,
    .int .i64 0, .int .i64 34, .int .i64 2, .int .i64 2, .int .i64 0, .int .i64 33, .int .i64 0]), (65106, .cells [.int .i64 2, .int .i64 0, .int .i64 33, .int .i64 0]), (65109,
    .cells [.int .i64 0, .sl 2 65076 0 2, .int .i64 0, .sl 2 65091 0 20, .int .i64 0, .sl 2 65106 0 2]), (114617, .cells [.int .i64 0]), (114663, .cells [.int .i64 0, .int .i64 2,
    .nils, .sl 2 115126 0 0, .nils, .nils]), (115097, .cells [.int .i64 1, .int .i64 0, .int .i64 0, .str [], .int .i64 0, .int .i64 0, .int .i64 0, .str []]), (115126,
    .cells [.bool false, .int .i64 1]), (115859, .cells [.str [256, 257], .str [258]])]
  n := 115874
  d := .agg [.sl 4 118786 0 3, .sl 1 115953 0 1, .nils, .sl 6 115999 0 0, .str [258, 32, 256, 257], .sl 1 121674 0 2, .int .i64 1, .sl 1 124307 0 7, .int .i64 95, .int .i64 0, .int .i64 0,
    .int .i64 0, .bool false]
  outs := [(42561, .cells [.int .i64 0, .int .i64 0, .str [], .int .i64 1, .int .i64 0, .str [], .int .i64 1, .int .i64 1, .str [], .int .i64 1, .int .i64 2, .str []]), (65076,
    .cells [.int .i64 2, .int .i64 0, .int .i64 33, .int .i64 0]), (65091, .cells [.int .i64 1, .int .i64 0, .int .i64 2, .int .i64 2, .int .i64 22, .int .i64 0, .int .i64 4,
    .int .i64 0, .int .i64 1, .int .i64 0, .int .i64 2, .int .i64 2, .int .i64 2, .int .i64 3, .int .i64 22, .int .i64 0, .int .i64 23, .int .i64 0, .int .i64 1, .int .i64 0,
    .int .i64 2, .int .i64 3, .int .i64 3, .int .i64 0, .int .i64 23, .int .i64 0, .int .i64 1, .int .i64 0, .int .i64 2, .int .i64 1, .int .i64 22, .int .i64 0, .int .i64 31,
    .int .i64 0, .int .i64 34, .int .i64 2, .int .i64 2, .int .i64 0, .int .i64 33, .int .i64 0]), (65106, .cells [.int .i64 2, .int .i64 0, .int .i64 33, .int .i64 0]), (65109,
    .cells [.int .i64 0, .sl 2 65076 0 2, .int .i64 0, .sl 2 65091 0 20, .int .i64 0, .sl 2 65106 0 2]), (114617, .cells [.int .i64 0]), (114663, .cells [.int .i64 0, .int .i64 2,
    .nils, .sl 2 115126 0 0, .nils, .nils]), (115097, .cells [.int .i64 1, .int .i64 0, .int .i64 0, .str [], .int .i64 0, .int .i64 0, .int .i64 0, .str []]), (115126,
    .cells [.bool false, .int .i64 1]), (115859, .cells [.str [256, 257], .str [258]]), (115953, .cells [.int .i64 1]), (115999, .cells [.int .i64 1, .int .i64 20, .nils,
    .sl 2 124756 0 0, .nils, .nils]), (118786, .cells [.int .i64 0, .int .i64 0, .int .i64 0, .str [], .int .i64 1, .int .i64 2, .int .i64 0, .str [256, 257], .int .i64 0,
    .int .i64 0, .int .i64 0, .str []]), (121674, .cells [.str [258], .str [256, 257]]), (124307, .cells [.sym .u8 258, .int .u8 32, .sym .u8 256, .sym .u8 257, .int .u8 32,
    .int .u8 50, .int .u8 10]), (124756, .cells [.bool false, .int .i64 0])]
  n' := 125273
theorem runC21N4 : memoRun I [] 100000 mC21N4 = some doneR := by kernel_rfl
theorem okC21N4 (hv : Digits val) : MemoOk Tryz.prog val mC21N4 := memoRun_ok (sound hv allOk_nil _) runC21N4
noncomputable def mC21N5 : Memo where
  k := 81
  args := [.agg [.sl 3 42561 0 4, .nils, .int .i64 1, .int .i64 0, .sl 2 65109 0 3], .agg [.sl 4 118786 0 3, .sl 1 115953 0 1, .nils, .sl 6 115999 0 0, .str [111, 110, 101], .sl 1 125419 0 1,
    .int .i64 2, .sl 1 124307 0 7, .int .i64 94, .int .i64 0, .int .i64 0, .int .i64 0, .bool false], .int .i64 1]
  ins := [(42561, .cells [.int .i64 0, .int .i64 0, .str [], .int .i64 1, .int .i64 0, .str [], .int .i64 1, .int .i64 1, .str [], .int .i64 1, .int .i64 2, .str []]), (65076,
    .cells [.int .i64 2, .int .i64 0, .int .i64 33, .int .i64 0]), (65091, .cells [.int .i64 1, .int .i64 0, .int .i64 2, .int .i64 2, .int .i64 22, .int .i64 0, .int .i64 4,
    .int .i64 0, .int .i64 1, .int .i64 0, .int .i64 2, .int .i64 2, .int .i64 2, .int .i64 3, .int .i64 22, .int .i64 0, .int .i64 23, .int .i64 0, .int .i64 1, .int .i64 0,
    .int .i64 2, .int .i64 3, .int .i64 3, .int .i64 0, .int .i64 23, .int .i64 0, .int .i64 1, .int .i64 0, .int .i64 2, .int .i64 1, .int .i64 22, .int .i64 0, .int .i64 31,
    .int .i64 0, .int .i64 34, .int .i64 2, .int .i64 2, .int .i64 0, .int .i64 33, .int .i64 0]), (65106, .cells [.int .i64 2, .int .i64 0, .int .i64 33, .int .i64 0]), (65109,
    .cells [.int .i64 0, .sl 2 65076 0 2, .int .i64 0, .sl 2 65091 0 20, .int .i64 0, .sl 2 65106 0 2]), (115953, .cells [.int .i64 1]), (115999, .cells [.int .i64 1, .int .i64 20,
    .nils, .sl 2 124756 0 0, .nils, .nils]), (118786, .cells [.int .i64 0, .int .i64 0, .int .i64 0, .str [], .int .i64 1, .int .i64 2, .int .i64 0, .str [256, 257], .int .i64 0,
    .int .i64 0, .int .i64 0, .str []]), (124307, .cells [.sym .u8 258, .int .u8 32, .sym .u8 256, .sym .u8 257, .int .u8 32, .int .u8 50, .int .u8 10]), (124756,
    .cells [.bool false, .int .i64 0]), (125419, .cells [.str [111, 110, 101]])]
  n := 125434
  d := .agg [.sl 4 125503 0 3, .sl 1 125513 0 1, .nils, .sl 6 125559 0 0, .str [32, 111, 110, 101], .sl 1 131223 0 2, .int .i64 2, .sl 1 133886 0 14, .int .i64 90, .int .i64 0,
    .int .i64 0, .int .i64 0, .bool false]
  outs := [(42561, .cells [.int .i64 0, .int .i64 0, .str [], .int .i64 1, .int .i64 0, .str [], .int .i64 1, .int .i64 1, .str [], .int .i64 1, .int .i64 2, .str []]), (65076,
    .cells [.int .i64 2, .int .i64 0, .int .i64 33, .int .i64 0]), (65091, .cells [.int .i64 1, .int .i64 0, .int .i64 2, .int .i64 2, .int .i64 22, .int .i64 0, .int .i64 4,
    .int .i64 0, .int .i64 1, .int .i64 0, .int .i64 2, .int .i64 2, .int .i64 2, .int .i64 3, .int .i64 22, .int .i64 0, .int .i64 23, .int .i64 0, .int .i64 1, .int .i64 0,
    .int .i64 2, .int .i64 3, .int .i64 3, .int .i64 0, .int .i64 23, .int .i64 0, .int .i64 1, .int .i64 0, .int .i64 2, .int .i64 1, .int .i64 22, .int .i64 0, .int .i64 31,
    .int .i64 0, .int .i64 34, .int .i64 2, .int .i64 2, .int .i64 0, .int .i64 33, .int .i64 0]), (65106, .cells [.int .i64 2, .int .i64 0, .int .i64 33, .int .i64 0]), (65109,
    .cells [.int .i64 0, .sl 2 65076 0 2, .int .i64 0, .sl 2 65091 0 20, .int .i64 0, .sl 2 65106 0 2]), (115953, .cells [.int .i64 1]), (115999, .cells [.int .i64 1, .int .i64 20,
    .nils, .sl 2 124756 0 0, .nils, .nils]), (118786, .cells [.int .i64 0, .int .i64 0, .int .i64 0, .str [], .int .i64 1, .int .i64 2, .int .i64 0, .str [256, 257], .int .i64 0,
    .int .i64 0, .int .i64 0, .str []]), (124307, .cells [.sym .u8 258, .int .u8 32, .sym .u8 256, .sym .u8 257, .int .u8 32, .int .u8 50, .int .u8 10]), (124756,
    .cells [.bool false, .int .i64 0]), (125419, .cells [.str [111, 110, 101]]), (125503, .cells [.int .i64 1, .int .i64 2, .int .i64 0, .str [111, 110, 101], .int .i64 0,
    .int .i64 0, .int .i64 0, .str [], .int .i64 0, .int .i64 0, .int .i64 0, .str []]), (125513, .cells [.int .i64 0]), (125559, .cells [.int .i64 1, .int .i64 20, .nils,
    .sl 2 134352 0 0, .nils, .nils]), (131223, .cells [.str [], .str [111, 110, 101]]), (133886, .cells [.sym .u8 258, .int .u8 32, .sym .u8 256, .sym .u8 257, .int .u8 32,
    .int .u8 50, .int .u8 10, .int .u8 32, .int .u8 111, .int .u8 110, .int .u8 101, .int .u8 32, .int .u8 50, .int .u8 10]), (134352, .cells [.bool false, .int .i64 1])]
  n' := 134869
theorem runC21N5 : memoRun I [] 100000 mC21N5 = some doneR := by kernel_rfl
theorem okC21N5 (hv : Digits val) : MemoOk Tryz.prog val mC21N5 := memoRun_ok (sound hv allOk_nil _) runC21N5
noncomputable def mC21N6 : Memo where
  k := 81
  args := [.agg [.sl 3 42561 0 4, .nils, .int .i64 1, .int .i64 0, .sl 2 65109 0 3], .agg [.sl 4 125503 0 3, .sl 1 125513 0 1, .nils, .sl 6 125559 0 0, .str [32, 111, 110, 101],
    .sl 1 131223 0 2, .int .i64 2, .sl 1 133886 0 14, .int .i64 90, .int .i64 0, .int .i64 0, .int .i64 0, .bool false], .int .i64 2]
  ins := [(42561, .cells [.int .i64 0, .int .i64 0, .str [], .int .i64 1, .int .i64 0, .str [], .int .i64 1, .int .i64 1, .str [], .int .i64 1, .int .i64 2, .str []]), (65076,
    .cells [.int .i64 2, .int .i64 0, .int .i64 33, .int .i64 0]), (65091, .cells [.int .i64 1, .int .i64 0, .int .i64 2, .int .i64 2, .int .i64 22, .int .i64 0, .int .i64 4,
    .int .i64 0, .int .i64 1, .int .i64 0, .int .i64 2, .int .i64 2, .int .i64 2, .int .i64 3, .int .i64 22, .int .i64 0, .int .i64 23, .int .i64 0, .int .i64 1, .int .i64 0,
    .int .i64 2, .int .i64 3, .int .i64 3, .int .i64 0, .int .i64 23, .int .i64 0, .int .i64 1, .int .i64 0, .int .i64 2, .int .i64 1, .int .i64 22, .int .i64 0, .int .i64 31,
    .int .i64 0, .int .i64 34, .int .i64 2, .int .i64 2, .int .i64 0, .int .i64 33, .int .i64 0]), (65106, .cells [.int .i64 2, .int .i64 0, .int .i64 33, .int .i64 0]), (65109,
    .cells [.int .i64 0, .sl 2 65076 0 2, .int .i64 0, .sl 2 65091 0 20, .int .i64 0, .sl 2 65106 0 2]), (125503, .cells [.int .i64 1, .int .i64 2, .int .i64 0, .str [111, 110,
    101], .int .i64 0, .int .i64 0, .int .i64 0, .str [], .int .i64 0, .int .i64 0, .int .i64 0, .str []]), (125513, .cells [.int .i64 0]), (125559, .cells [.int .i64 1,
    .int .i64 20, .nils, .sl 2 134352 0 0, .nils, .nils]), (131223, .cells [.str [], .str [111, 110, 101]]), (133886, .cells [.sym .u8 258, .int .u8 32, .sym .u8 256, .sym .u8 257,
    .int .u8 32, .int .u8 50, .int .u8 10, .int .u8 32, .int .u8 111, .int .u8 110, .int .u8 101, .int .u8 32, .int .u8 50, .int .u8 10]), (134352, .cells [.bool false,
    .int .i64 1])]
  n := 134877
  d := .agg [.sl 4 134946 0 3, .sl 1 134956 0 1, .nils, .sl 6 135002 0 0, .str [32, 111, 110, 101], .sl 1 134967 0 2, .int .i64 2, .sl 1 134976 0 14, .int .i64 90, .int .i64 0,
    .int .i64 0, .int .i64 0, .bool false]
  outs := [(42561, .cells [.int .i64 0, .int .i64 0, .str [], .int .i64 1, .int .i64 0, .str [], .int .i64 1, .int .i64 1, .str [], .int .i64 1, .int .i64 2, .str []]), (65076,
    .cells [.int .i64 2, .int .i64 0, .int .i64 33, .int .i64 0]), (65091, .cells [.int .i64 1, .int .i64 0, .int .i64 2, .int .i64 2, .int .i64 22, .int .i64 0, .int .i64 4,
    .int .i64 0, .int .i64 1, .int .i64 0, .int .i64 2, .int .i64 2, .int .i64 2, .int .i64 3, .int .i64 22, .int .i64 0, .int .i64 23, .int .i64 0, .int .i64 1, .int .i64 0,
    .int .i64 2, .int .i64 3, .int .i64 3, .int .i64 0, .int .i64 23, .int .i64 0, .int .i64 1, .int .i64 0, .int .i64 2, .int .i64 1, .int .i64 22, .int .i64 0, .int .i64 31,
    .int .i64 0, .int .i64 34, .int .i64 2, .int .i64 2, .int .i64 0, .int .i64 33, .int .i64 0]), (65106, .cells [.int .i64 2, .int .i64 0, .int .i64 33, .int .i64 0]), (65109,
    .cells [.int .i64 0, .sl 2 65076 0 2, .int .i64 0, .sl 2 65091 0 20, .int .i64 0, .sl 2 65106 0 2]), (125503, .cells [.int .i64 1, .int .i64 2, .int .i64 0, .str [111, 110,
    101], .int .i64 0, .int .i64 0, .int .i64 0, .str [], .int .i64 0, .int .i64 0, .int .i64 0, .str []]), (125513, .cells [.int .i64 0]), (125559, .cells [.int .i64 1,
    .int .i64 20, .nils, .sl 2 134352 0 0, .nils, .nils]), (131223, .cells [.str [], .str [111, 110, 101]]), (133886, .cells [.sym .u8 258, .int .u8 32, .sym .u8 256, .sym .u8 257,
    .int .u8 32, .int .u8 50, .int .u8 10, .int .u8 32, .int .u8 111, .int .u8 110, .int .u8 101, .int .u8 32, .int .u8 50, .int .u8 10]), (134352, .cells [.bool false,
    .int .i64 1]), (134946, .cells [.int .i64 1, .int .i64 2, .int .i64 0, .str [111, 110, 101], .int .i64 0, .int .i64 0, .int .i64 0, .str [], .int .i64 0, .int .i64 0,
    .int .i64 0, .str []]), (134956, .cells [.int .i64 0]), (134967, .cells [.str [], .str [111, 110, 101]]), (134976, .cells [.sym .u8 258, .int .u8 32, .sym .u8 256, .sym .u8 257,
    .int .u8 32, .int .u8 50, .int .u8 10, .int .u8 32, .int .u8 111, .int .u8 110, .int .u8 101, .int .u8 32, .int .u8 50, .int .u8 10]), (135002, .cells [.int .i64 2, .int .i64 2,
    .nils, .sl 2 135463 0 0, .nils, .nils]), (135463, .cells [.bool false, .int .i64 1])]
  n' := 135980
theorem runC21N6 : memoRun I [] 100000 mC21N6 = some doneR := by kernel_rfl
theorem okC21N6 (hv : Digits val) : MemoOk Tryz.prog val mC21N6 := memoRun_ok (sound hv allOk_nil _) runC21N6
noncomputable def mC21N7 : Memo where
  k := 37
  args := [.agg [.sl 3 42561 0 4, .nils, .int .i64 1, .int .i64 0, .sl 2 65109 0 3], .sl 1 0 0 2, .int .i64 100]
  ins := [(0, .cells [.str [256, 257, 32, 32, 258], .str [111, 110, 101]]), (42561, .cells [.int .i64 0, .int .i64 0, .str [], .int .i64 1, .int .i64 0, .str [], .int .i64 1, .int .i64 1,
    .str [], .int .i64 1, .int .i64 2, .str []]), (65076, .cells [.int .i64 2, .int .i64 0, .int .i64 33, .int .i64 0]), (65091, .cells [.int .i64 1, .int .i64 0, .int .i64 2,
    .int .i64 2, .int .i64 22, .int .i64 0, .int .i64 4, .int .i64 0, .int .i64 1, .int .i64 0, .int .i64 2, .int .i64 2, .int .i64 2, .int .i64 3, .int .i64 22, .int .i64 0,
    .int .i64 23, .int .i64 0, .int .i64 1, .int .i64 0, .int .i64 2, .int .i64 3, .int .i64 3, .int .i64 0, .int .i64 23, .int .i64 0, .int .i64 1, .int .i64 0, .int .i64 2,
    .int .i64 1, .int .i64 22, .int .i64 0, .int .i64 31, .int .i64 0, .int .i64 34, .int .i64 2, .int .i64 2, .int .i64 0, .int .i64 33, .int .i64 0]), (65106, .cells [.int .i64 2,
    .int .i64 0, .int .i64 33, .int .i64 0]), (65109, .cells [.int .i64 0, .sl 2 65076 0 2, .int .i64 0, .sl 2 65091 0 20, .int .i64 0, .sl 2 65106 0 2])]
  n := 94226
  d := .agg [.sl 4 134946 0 3, .sl 1 134956 0 1, .nils, .sl 6 135002 0 0, .str [32, 111, 110, 101], .sl 1 134967 0 2, .int .i64 2, .sl 1 134976 0 14, .int .i64 90, .int .i64 0,
    .int .i64 0, .int .i64 0, .bool false]
  outs := [(0, .cells [.str [256, 257, 32, 32, 258], .str [111, 110, 101]]), (42561, .cells [.int .i64 0, .int .i64 0, .str [], .int .i64 1, .int .i64 0, .str [], .int .i64 1, .int .i64 1,
    .str [], .int .i64 1, .int .i64 2, .str []]), (65076, .cells [.int .i64 2, .int .i64 0, .int .i64 33, .int .i64 0]), (65091, .cells [.int .i64 1, .int .i64 0, .int .i64 2,
    .int .i64 2, .int .i64 22, .int .i64 0, .int .i64 4, .int .i64 0, .int .i64 1, .int .i64 0, .int .i64 2, .int .i64 2, .int .i64 2, .int .i64 3, .int .i64 22, .int .i64 0,
    .int .i64 23, .int .i64 0, .int .i64 1, .int .i64 0, .int .i64 2, .int .i64 3, .int .i64 3, .int .i64 0, .int .i64 23, .int .i64 0, .int .i64 1, .int .i64 0, .int .i64 2,
    .int .i64 1, .int .i64 22, .int .i64 0, .int .i64 31, .int .i64 0, .int .i64 34, .int .i64 2, .int .i64 2, .int .i64 0, .int .i64 33, .int .i64 0]), (65106, .cells [.int .i64 2,
    .int .i64 0, .int .i64 33, .int .i64 0]), (65109, .cells [.int .i64 0, .sl 2 65076 0 2, .int .i64 0, .sl 2 65091 0 20, .int .i64 0, .sl 2 65106 0 2]), (134946,
    .cells [.int .i64 1, .int .i64 2, .int .i64 0, .str [111, 110, 101], .int .i64 0, .int .i64 0, .int .i64 0, .str [], .int .i64 0, .int .i64 0, .int .i64 0, .str []]), (134956,
    .cells [.int .i64 0]), (134967, .cells [.str [], .str [111, 110, 101]]), (134976, .cells [.sym .u8 258, .int .u8 32, .sym .u8 256, .sym .u8 257, .int .u8 32, .int .u8 50,
    .int .u8 10, .int .u8 32, .int .u8 111, .int .u8 110, .int .u8 101, .int .u8 32, .int .u8 50, .int .u8 10]), (135002, .cells [.int .i64 2, .int .i64 2, .nils, .sl 2 135463 0 0,
    .nils, .nils]), (135463, .cells [.bool false, .int .i64 1])]
  n' := 135981
theorem runC21N7 : memoRun I [mC21N2, mS16, mC21N3, mC21N4, mC21N5, mC21N6] 100000 mC21N7 = some doneR := by kernel_rfl
theorem okC21N7 (hv : Digits val) : MemoOk Tryz.prog val mC21N7 := memoRun_ok (sound hv (allOk_cons (okC21N2 hv) (allOk_cons (okS16 hv) (allOk_cons (okC21N3 hv) (allOk_cons (okC21N4 hv) (allOk_cons (okC21N5 hv) (allOk_cons (okC21N6 hv) allOk_nil)))))) _) runC21N7
noncomputable def mC21N8 : Memo where
  k := 36
  args := [.agg [.sl 4 134946 0 3, .sl 1 134956 0 1, .nils, .sl 6 135002 0 0, .str [32, 111, 110, 101], .sl 1 134967 0 2, .int .i64 2, .sl 1 134976 0 14, .int .i64 90, .int .i64 0,
    .int .i64 0, .int .i64 0, .bool false]]
  ins := [(134946, .cells [.int .i64 1, .int .i64 2, .int .i64 0, .str [111, 110, 101], .int .i64 0, .int .i64 0, .int .i64 0, .str [], .int .i64 0, .int .i64 0, .int .i64 0, .str []]),
    (134956, .cells [.int .i64 0]), (134967, .cells [.str [], .str [111, 110, 101]]), (134976, .cells [.sym .u8 258, .int .u8 32, .sym .u8 256, .sym .u8 257, .int .u8 32,
    .int .u8 50, .int .u8 10, .int .u8 32, .int .u8 111, .int .u8 110, .int .u8 101, .int .u8 32, .int .u8 50, .int .u8 10]), (135002, .cells [.int .i64 2, .int .i64 2, .nils,
    .sl 2 135463 0 0, .nils, .nils]), (135463, .cells [.bool false, .int .i64 1])]
  n := 135981
  d := .str [258, 32, 256, 257, 32, 50, 10, 32, 111, 110, 101, 32, 50, 10]
  outs := [(134946, .cells [.int .i64 1, .int .i64 2, .int .i64 0, .str [111, 110, 101], .int .i64 0, .int .i64 0, .int .i64 0, .str [], .int .i64 0, .int .i64 0, .int .i64 0, .str []]),
    (134956, .cells [.int .i64 0]), (134967, .cells [.str [], .str [111, 110, 101]]), (134976, .cells [.sym .u8 258, .int .u8 32, .sym .u8 256, .sym .u8 257, .int .u8 32,
    .int .u8 50, .int .u8 10, .int .u8 32, .int .u8 111, .int .u8 110, .int .u8 101, .int .u8 32, .int .u8 50, .int .u8 10]), (135002, .cells [.int .i64 2, .int .i64 2, .nils,
    .sl 2 135463 0 0, .nils, .nils]), (135463, .cells [.bool false, .int .i64 1])]
  n' := 136002
theorem runC21N8 : memoRun I [] 100000 mC21N8 = some doneR := by kernel_rfl
theorem okC21N8 (hv : Digits val) : MemoOk Tryz.prog val mC21N8 := memoRun_ok (sound hv allOk_nil _) runC21N8
noncomputable def mC21 : Memo where
  k := 9
  args := [.str [123, 32, 120, 32, 61, 32, 36, 49, 59, 32, 36, 49, 32, 61, 32, 36, 50, 59, 32, 36, 50, 32, 61, 32, 120, 59, 32, 112, 114, 105, 110, 116, 32, 36, 48, 44, 32, 110, 102, 59, 32,
    125], .sl 1 0 0 2, .int .i64 100]
  ins := [(0, .cells [.str [256, 257, 32, 32, 258], .str [111, 110, 101]])]
  n := 1
  d := .tup [.str [258, 32, 256, 257, 32, 50, 10, 32, 111, 110, 101, 32, 50, 10], .bool true]
  outs := [(0, .cells [.str [256, 257, 32, 32, 258], .str [111, 110, 101]])]
  n' := 136016
theorem runC21 : memoRun I [mS5, mS17, mC21N0, mC21N1, mC21N7, mC21N8] 100000 mC21 = some doneR := by kernel_rfl
theorem okC21 (hv : Digits val) : MemoOk Tryz.prog val mC21 := memoRun_ok (sound hv (allOk_cons (okS5 hv) (allOk_cons (okS17 hv) (allOk_cons (okC21N0 hv) (allOk_cons (okC21N1 hv) (allOk_cons (okC21N7 hv) (allOk_cons (okC21N8 hv) allOk_nil)))))) _) runC21
end Go.Gh
