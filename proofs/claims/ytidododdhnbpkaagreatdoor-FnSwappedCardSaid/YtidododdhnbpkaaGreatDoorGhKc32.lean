import Derived.Test.YtidododdhnbpkaaGreatDoorGhK3
/- The program run where the numbers have 3 and 2 digits. -/
set_option maxRecDepth 1000000
set_option linter.unusedVariables false
namespace Go.Gh
open Go.Proofs
variable {val : Nat → UInt8}
noncomputable def mC32N0 : Memo where
  k := 35
  args := [.agg [.sl 6 6725 0 1, .nils], .sl 1 0 0 2, .int .i64 100]
  ins := [(0, .cells [.str [256, 257, 258, 32, 32, 259, 260], .str [111, 110, 101]]), (6725, .cells [.int .i64 3, .int .i64 0, .int .i64 0, .str [], .nils, .sl 6 9933 0 4]), (7827,
    .cells [.int .i64 1, .int .i64 1, .str [], .nils]), (7963, .cells [.int .i64 5, .int .i64 0, .str [], .sl 4 7827 0 1]), (8415, .cells [.int .i64 1, .int .i64 2, .str [],
    .nils]), (8553, .cells [.int .i64 1, .int .i64 1, .str [], .nils, .int .i64 5, .int .i64 0, .str [], .sl 4 8415 0 1]), (9164, .cells [.int .i64 1, .int .i64 2, .str [], .nils,
    .int .i64 3, .int .i64 0, .str [120], .nils]), (9485, .cells [.int .i64 1, .int .i64 0, .str [], .nils]), (9795, .cells [.int .i64 5, .int .i64 0, .str [], .sl 4 9485 0 1,
    .int .i64 15, .int .i64 0, .str [], .nils]), (9933, .cells [.int .i64 2, .str [120], .str [], .sl 4 7963 0 1, .nils, .nils, .int .i64 4, .str [], .str [], .sl 4 8553 0 2, .nils,
    .nils, .int .i64 4, .str [], .str [], .sl 4 9164 0 2, .nils, .nils, .int .i64 1, .str [], .str [], .sl 4 9795 0 2, .nils, .nils])]
  n := 75219
  d := .agg [.sl 4 92835 0 1, .nils, .str [32, 111, 110, 101], .sl 1 93737 0 2, .int .i64 2, .sl 1 94189 0 16, .int .i64 90, .int .i64 0, .int .i64 0, .int .i64 0, .int .i64 0]
  outs := [(0, .cells [.str [256, 257, 258, 32, 32, 259, 260], .str [111, 110, 101]]), (6725, .cells [.int .i64 3, .int .i64 0, .int .i64 0, .str [], .nils, .sl 6 9933 0 4]), (7827,
    .cells [.int .i64 1, .int .i64 1, .str [], .nils]), (7963, .cells [.int .i64 5, .int .i64 0, .str [], .sl 4 7827 0 1]), (8415, .cells [.int .i64 1, .int .i64 2, .str [],
    .nils]), (8553, .cells [.int .i64 1, .int .i64 1, .str [], .nils, .int .i64 5, .int .i64 0, .str [], .sl 4 8415 0 1]), (9164, .cells [.int .i64 1, .int .i64 2, .str [], .nils,
    .int .i64 3, .int .i64 0, .str [120], .nils]), (9485, .cells [.int .i64 1, .int .i64 0, .str [], .nils]), (9795, .cells [.int .i64 5, .int .i64 0, .str [], .sl 4 9485 0 1,
    .int .i64 15, .int .i64 0, .str [], .nils]), (9933, .cells [.int .i64 2, .str [120], .str [], .sl 4 7963 0 1, .nils, .nils, .int .i64 4, .str [], .str [], .sl 4 8553 0 2, .nils,
    .nils, .int .i64 4, .str [], .str [], .sl 4 9164 0 2, .nils, .nils, .int .i64 1, .str [], .str [], .sl 4 9795 0 2, .nils, .nils]), (92835, .cells [.str [120], .int .i64 2,
    .int .i64 0, .str [111, 110, 101]]), (93737, .cells [.str [], .str [111, 110, 101]]), (94189, .cells [.sym .u8 259, .sym .u8 260, .int .u8 32, .sym .u8 256, .sym .u8 257,
    .sym .u8 258, .int .u8 32, .int .u8 50, .int .u8 10, .int .u8 32, .int .u8 111, .int .u8 110, .int .u8 101, .int .u8 32, .int .u8 50, .int .u8 10])]
  n' := 94243
theorem runC32N0 : memoRun I [mS19, mS8] 100000 mC32N0 = some doneR := by kernel_rfl
theorem okC32N0 (hv : Digits val) : MemoOk Tryz.prog val mC32N0 := memoRun_ok (sound hv (allOk_cons (okS19 hv) (allOk_cons (okS8 hv) allOk_nil)) _) runC32N0
noncomputable def mC32N1 : Memo where
  k := 34
  args := [.agg [.sl 4 92835 0 1, .nils, .str [32, 111, 110, 101], .sl 1 93737 0 2, .int .i64 2, .sl 1 94189 0 16, .int .i64 90, .int .i64 0, .int .i64 0, .int .i64 0, .int .i64 0]]
  ins := [(92835, .cells [.str [120], .int .i64 2, .int .i64 0, .str [111, 110, 101]]), (93737, .cells [.str [], .str [111, 110, 101]]), (94189, .cells [.sym .u8 259, .sym .u8 260,
    .int .u8 32, .sym .u8 256, .sym .u8 257, .sym .u8 258, .int .u8 32, .int .u8 50, .int .u8 10, .int .u8 32, .int .u8 111, .int .u8 110, .int .u8 101, .int .u8 32, .int .u8 50,
    .int .u8 10])]
  n := 94243
  d := .str [259, 260, 32, 256, 257, 258, 32, 50, 10, 32, 111, 110, 101, 32, 50, 10]
  outs := [(92835, .cells [.str [120], .int .i64 2, .int .i64 0, .str [111, 110, 101]]), (93737, .cells [.str [], .str [111, 110, 101]]), (94189, .cells [.sym .u8 259, .sym .u8 260,
    .int .u8 32, .sym .u8 256, .sym .u8 257, .sym .u8 258, .int .u8 32, .int .u8 50, .int .u8 10, .int .u8 32, .int .u8 111, .int .u8 110, .int .u8 101, .int .u8 32, .int .u8 50,
    .int .u8 10])]
  n' := 94264
theorem runC32N1 : memoRun I [] 100000 mC32N1 = some doneR := by kernel_rfl
theorem okC32N1 (hv : Digits val) : MemoOk Tryz.prog val mC32N1 := memoRun_ok (sound hv allOk_nil _) runC32N1
noncomputable def mC32N2 : Memo where
  k := 80
  args := [.agg [.sl 3 42561 0 4, .nils, .int .i64 1, .int .i64 0, .sl 2 65109 0 3], .int .i64 100]
  ins := [(42561, .cells [.int .i64 0, .int .i64 0, .str [], .int .i64 1, .int .i64 0, .str [], .int .i64 1, .int .i64 1, .str [], .int .i64 1, .int .i64 2, .str []]), (65076,
    .cells [.int .i64 2, .int .i64 0, .int .i64 33, .int .i64 0]), (65091, .cells [.int .i64 1, .int .i64 0, .int .i64 2, .int .i64 2, .int .i64 22, .int .i64 0, .int .i64 4,
    .int .i64 0, .int .i64 1, .int .i64 0, .int .i64 2, .int .i64 2, .int .i64 2, .int .i64 3, .int .i64 22, .int .i64 0, .int .i64 23, .int .i64 0, .int .i64 1, .int .i64 0,
    .int .i64 2, .int .i64 3, .int .i64 3, .int .i64 0, .int .i64 23, .int .i64 0, .int .i64 1, .int .i64 0, .int .i64 2, .int .i64 1, .int .i64 22, .int .i64 0, .int .i64 31,
    .int .i64 0, .int .i64 34, .int .i64 2, .int .i64 2, .int .i64 0, .int .i64 33, .int .i64 0]), (65106, .cells [.int .i64 2, .int .i64 0, .int .i64 33, .int .i64 0]), (65109,
    .cells [.int .i64 0, .sl 2 65076 0 2, .int .i64 0, .sl 2 65091 0 20, .int .i64 0, .sl 2 65106 0 2])]
  n := 94269
  d := .agg [.sl 4 104454 0 1, .sl 1 104422 0 1, .sl 1 104357 0 0, .nils, .str [], .nils, .int .i64 0, .nils, .int .i64 100, .int .i64 0, .int .i64 0, .int .i64 0, .bool false]
  outs := [(42561, .cells [.int .i64 0, .int .i64 0, .str [], .int .i64 1, .int .i64 0, .str [], .int .i64 1, .int .i64 1, .str [], .int .i64 1, .int .i64 2, .str []]), (65076,
    .cells [.int .i64 2, .int .i64 0, .int .i64 33, .int .i64 0]), (65091, .cells [.int .i64 1, .int .i64 0, .int .i64 2, .int .i64 2, .int .i64 22, .int .i64 0, .int .i64 4,
    .int .i64 0, .int .i64 1, .int .i64 0, .int .i64 2, .int .i64 2, .int .i64 2, .int .i64 3, .int .i64 22, .int .i64 0, .int .i64 23, .int .i64 0, .int .i64 1, .int .i64 0,
    .int .i64 2, .int .i64 3, .int .i64 3, .int .i64 0, .int .i64 23, .int .i64 0, .int .i64 1, .int .i64 0, .int .i64 2, .int .i64 1, .int .i64 22, .int .i64 0, .int .i64 31,
    .int .i64 0, .int .i64 34, .int .i64 2, .int .i64 2, .int .i64 0, .int .i64 33, .int .i64 0]), (65106, .cells [.int .i64 2, .int .i64 0, .int .i64 33, .int .i64 0]), (65109,
    .cells [.int .i64 0, .sl 2 65076 0 2, .int .i64 0, .sl 2 65091 0 20, .int .i64 0, .sl 2 65106 0 2]), (104357, .cells []), (104422, .cells [.int .i64 0]), (104454,
    .cells [.int .i64 1, .int .i64 0, .int .i64 0, .str []])]
  n' := 104478
theorem runC32N2 : memoRun I [mS16] 100000 mC32N2 = some doneR := by kernel_rfl
theorem okC32N2 (hv : Digits val) : MemoOk Tryz.prog val mC32N2 := memoRun_ok (sound hv (allOk_cons (okS16 hv) allOk_nil) _) runC32N2
noncomputable def mC32N3 : Memo where
  k := 81
  args := [.agg [.sl 3 42561 0 4, .nils, .int .i64 1, .int .i64 0, .sl 2 65109 0 3], .agg [.sl 4 104454 0 1, .sl 1 104422 0 1, .sl 1 104357 0 0, .nils, .str [], .nils, .int .i64 0, .nils,
    .int .i64 100, .int .i64 0, .int .i64 0, .int .i64 0, .bool false], .int .i64 0]
  ins := [(42561, .cells [.int .i64 0, .int .i64 0, .str [], .int .i64 1, .int .i64 0, .str [], .int .i64 1, .int .i64 1, .str [], .int .i64 1, .int .i64 2, .str []]), (65076,
    .cells [.int .i64 2, .int .i64 0, .int .i64 33, .int .i64 0]), (65091, .cells [.int .i64 1, .int .i64 0, .int .i64 2, .int .i64 2, .int .i64 22, .int .i64 0, .int .i64 4,
    .int .i64 0, .int .i64 1, .int .i64 0, .int .i64 2, .int .i64 2, .int .i64 2, .int .i64 3, .int .i64 22, .int .i64 0, .int .i64 23, .int .i64 0, .int .i64 1, .int .i64 0,
    .int .i64 2, .int .i64 3, .int .i64 3, .int .i64 0, .int .i64 23, .int .i64 0, .int .i64 1, .int .i64 0, .int .i64 2, .int .i64 1, .int .i64 22, .int .i64 0, .int .i64 31,
    .int .i64 0, .int .i64 34, .int .i64 2, .int .i64 2, .int .i64 0, .int .i64 33, .int .i64 0]), (65106, .cells [.int .i64 2, .int .i64 0, .int .i64 33, .int .i64 0]), (65109,
    .cells [.int .i64 0, .sl 2 65076 0 2, .int .i64 0, .sl 2 65091 0 20, .int .i64 0, .sl 2 65106 0 2]), (104357, .cells []), (104422, .cells [.int .i64 0]), (104454,
    .cells [.int .i64 1, .int .i64 0, .int .i64 0, .str []])]
  n := 114576
  d := .agg [.sl 4 115135 0 2, .sl 1 114655 0 1, .nils, .sl 6 114701 0 0, .str [], .nils, .int .i64 0, .nils, .int .i64 100, .int .i64 0, .int .i64 0, .int .i64 0, .bool false]
  outs := [(42561, .cells [.int .i64 0, .int .i64 0, .str [], .int .i64 1, .int .i64 0, .str [], .int .i64 1, .int .i64 1, .str [], .int .i64 1, .int .i64 2, .str []]), (65076,
    .cells [.int .i64 2, .int .i64 0, .int .i64 33, .int .i64 0]), (65091, .cells [.int .i64 1, .int .i64 0, .int .i64 2, .int .i64 2, .int .i64 22, .int .i64 0, .int .i64 4,
    .int .i64 0, .int .i64 1, .int .i64 0, .int .i64 2, .int .i64 2, .int .i64 2, .int .i64 3, .int .i64 22, .int .i64 0, .int .i64 23, .int .i64 0, .int .i64 1, .int .i64 0,
    .int .i64 2, .int .i64 3, .int .i64 3, .int .i64 0, .int .i64 23, .int .i64 0, .int .i64 1, .int .i64 0, .int .i64 2, .int .i64 1, .int .i64 22, .int .i64 0, .int .i64 31,
    .int .i64 0, .int .i64 34, .int .i64 2, .int .i64 2, .int .i64 0, .int .i64 33, .int .i64 0]), (65106, .cells [.int .i64 2, .int .i64 0, .int .i64 33, .int .i64 0]), (65109,
    .cells [.int .i64 0, .sl 2 65076 0 2, .int .i64 0, .sl 2 65091 0 20, .int .i64 0, .sl 2 65106 0 2]), (104357, .cells []), (104422, .cells [.int .i64 0]), (104454,
    .cells [.int .i64 1, .int .i64 0, .int .i64 0, .str []]), (114655, .cells [.int .i64 0]), (114701, .cells [.int .i64 0, .int .i64 2, .nils, .sl 2 115164 0 0, .nils, .nils]),
    (115135, .cells [.int .i64 1, .int .i64 0, .int .i64 0, .str [], .int .i64 0, .int .i64 0, .int .i64 0, .str []]), (115164, .cells [.bool false, .int .i64 1])]
  n' := 115681
theorem runC32N3 : memoRun I [] 100000 mC32N3 = some doneR := by kernel_rfl
theorem okC32N3 (hv : Digits val) : MemoOk Tryz.prog val mC32N3 := memoRun_ok (sound hv allOk_nil _) runC32N3
noncomputable def mC32N4 : Memo where
  k := 81
  args := [.agg [.sl 3 42561 0 4, .nils, .int .i64 1, .int .i64 0, .sl 2 65109 0 3], .agg [.sl 4 115135 0 2, .sl 1 114655 0 1, .nils, .sl 6 114701 0 0, .str [256, 257, 258, 32, 32, 259, 260],
    .sl 1 115935 0 2, .int .i64 1, .nils, .int .i64 99, .int .i64 0, .int .i64 0, .int .i64 0, .bool false], .int .i64 1]
  ins := [(42561, .cells [.int .i64 0, .int .i64 0, .str [], .int .i64 1, .int .i64 0, .str [], .int .i64 1, .int .i64 1, .str [], .int .i64 1, .int .i64 2, .str []]), (65076,
    .cells [.int .i64 2, .int .i64 0, .int .i64 33, .int .i64 0]), (65091, .cells [.int .i64 1, .int .i64 0, .int .i64 2, .int .i64 2, .int .i64 22, .int .i64 0, .int .i64 4,
    .int .i64 0, .int .i64 1, .int .i64 0, .int .i64 2, .int .i64 2, .int .i64 2, .int .i64 3, .int .i64 22, .int .i64 0, .int .i64 23, .int .i64 0, .int .i64 1, .int .i64 0,
    .int .i64 2, .int .i64 3, .int .i64 3, .int .i64 0, .int .i64 23, .int .i64 0, .int .i64 1, .int .i64 0, .int .i64 2, .int .i64 1, .int .i64 22, .int .i64 0, .int .i64 31,
    .int .i64 0, .int .i64 34, .int .i64 2, .int .i64 2, .int .i64 0, .int .i64 33, .int .i64 0]), (65106, .cells [.int .i64 2, .int .i64 0, .int .i64 33, .int .i64 0]), (65109,
    .cells [.int .i64 0, .sl 2 65076 0 2, .int .i64 0, .sl 2 65091 0 20, .int .i64 0, .sl 2 65106 0 2]), (114655, .cells [.int .i64 0]), (114701, .cells [.int .i64 0, .int .i64 2,
    .nils, .sl 2 115164 0 0, .nils, .nils]), (115135, .cells [.int .i64 1, .int .i64 0, .int .i64 0, .str [], .int .i64 0, .int .i64 0, .int .i64 0, .str []]), (115164,
    .cells [.bool false, .int .i64 1]), (115935, .cells [.str [256, 257, 258], .str [259, 260]])]
  n := 115950
  d := .agg [.sl 4 118862 0 3, .sl 1 116029 0 1, .nils, .sl 6 116075 0 0, .str [259, 260, 32, 256, 257, 258], .sl 1 121750 0 2, .int .i64 1, .sl 1 124383 0 9, .int .i64 95, .int .i64 0,
    .int .i64 0, .int .i64 0, .bool false]
  outs := [(42561, .cells [.int .i64 0, .int .i64 0, .str [], .int .i64 1, .int .i64 0, .str [], .int .i64 1, .int .i64 1, .str [], .int .i64 1, .int .i64 2, .str []]), (65076,
    .cells [.int .i64 2, .int .i64 0, .int .i64 33, .int .i64 0]), (65091, .cells [.int .i64 1, .int .i64 0, .int .i64 2, .int .i64 2, .int .i64 22, .int .i64 0, .int .i64 4,
    .int .i64 0, .int .i64 1, .int .i64 0, .int .i64 2, .int .i64 2, .int .i64 2, .int .i64 3, .int .i64 22, .int .i64 0, .int .i64 23, .int .i64 0, .int .i64 1, .int .i64 0,
    .int .i64 2, .int .i64 3, .int .i64 3, .int .i64 0, .int .i64 23, .int .i64 0, .int .i64 1, .int .i64 0, .int .i64 2, .int .i64 1, .int .i64 22, .int .i64 0, .int .i64 31,
    .int .i64 0, .int .i64 34, .int .i64 2, .int .i64 2, .int .i64 0, .int .i64 33, .int .i64 0]), (65106, .cells [.int .i64 2, .int .i64 0, .int .i64 33, .int .i64 0]), (65109,
    .cells [.int .i64 0, .sl 2 65076 0 2, .int .i64 0, .sl 2 65091 0 20, .int .i64 0, .sl 2 65106 0 2]), (114655, .cells [.int .i64 0]), (114701, .cells [.int .i64 0, .int .i64 2,
    .nils, .sl 2 115164 0 0, .nils, .nils]), (115135, .cells [.int .i64 1, .int .i64 0, .int .i64 0, .str [], .int .i64 0, .int .i64 0, .int .i64 0, .str []]), (115164,
    .cells [.bool false, .int .i64 1]), (115935, .cells [.str [256, 257, 258], .str [259, 260]]), (116029, .cells [.int .i64 1]), (116075, .cells [.int .i64 1, .int .i64 20, .nils,
    .sl 2 124832 0 0, .nils, .nils]), (118862, .cells [.int .i64 0, .int .i64 0, .int .i64 0, .str [], .int .i64 1, .int .i64 2, .int .i64 0, .str [256, 257, 258], .int .i64 0,
    .int .i64 0, .int .i64 0, .str []]), (121750, .cells [.str [259, 260], .str [256, 257, 258]]), (124383, .cells [.sym .u8 259, .sym .u8 260, .int .u8 32, .sym .u8 256,
    .sym .u8 257, .sym .u8 258, .int .u8 32, .int .u8 50, .int .u8 10]), (124832, .cells [.bool false, .int .i64 0])]
  n' := 125349
theorem runC32N4 : memoRun I [] 100000 mC32N4 = some doneR := by kernel_rfl
theorem okC32N4 (hv : Digits val) : MemoOk Tryz.prog val mC32N4 := memoRun_ok (sound hv allOk_nil _) runC32N4
noncomputable def mC32N5 : Memo where
  k := 81
  args := [.agg [.sl 3 42561 0 4, .nils, .int .i64 1, .int .i64 0, .sl 2 65109 0 3], .agg [.sl 4 118862 0 3, .sl 1 116029 0 1, .nils, .sl 6 116075 0 0, .str [111, 110, 101], .sl 1 125495 0 1,
    .int .i64 2, .sl 1 124383 0 9, .int .i64 94, .int .i64 0, .int .i64 0, .int .i64 0, .bool false], .int .i64 1]
  ins := [(42561, .cells [.int .i64 0, .int .i64 0, .str [], .int .i64 1, .int .i64 0, .str [], .int .i64 1, .int .i64 1, .str [], .int .i64 1, .int .i64 2, .str []]), (65076,
    .cells [.int .i64 2, .int .i64 0, .int .i64 33, .int .i64 0]), (65091, .cells [.int .i64 1, .int .i64 0, .int .i64 2, .int .i64 2, .int .i64 22, .int .i64 0, .int .i64 4,
    .int .i64 0, .int .i64 1, .int .i64 0, .int .i64 2, .int .i64 2, .int .i64 2, .int .i64 3, .int .i64 22, .int .i64 0, .int .i64 23, .int .i64 0, .int .i64 1, .int .i64 0,
    .int .i64 2, .int .i64 3, .int .i64 3, .int .i64 0, .int .i64 23, .int .i64 0, .int .i64 1, .int .i64 0, .int .i64 2, .int .i64 1, .int .i64 22, .int .i64 0, .int .i64 31,
    .int .i64 0, .int .i64 34, .int .i64 2, .int .i64 2, .int .i64 0, .int .i64 33, .int .i64 0]), (65106, .cells [.int .i64 2, .int .i64 0, .int .i64 33, .int .i64 0]), (65109,
    .cells [.int .i64 0, .sl 2 65076 0 2, .int .i64 0, .sl 2 65091 0 20, .int .i64 0, .sl 2 65106 0 2]), (116029, .cells [.int .i64 1]), (116075, .cells [.int .i64 1, .int .i64 20,
    .nils, .sl 2 124832 0 0, .nils, .nils]), (118862, .cells [.int .i64 0, .int .i64 0, .int .i64 0, .str [], .int .i64 1, .int .i64 2, .int .i64 0, .str [256, 257, 258],
    .int .i64 0, .int .i64 0, .int .i64 0, .str []]), (124383, .cells [.sym .u8 259, .sym .u8 260, .int .u8 32, .sym .u8 256, .sym .u8 257, .sym .u8 258, .int .u8 32, .int .u8 50,
    .int .u8 10]), (124832, .cells [.bool false, .int .i64 0]), (125495, .cells [.str [111, 110, 101]])]
  n := 125510
  d := .agg [.sl 4 125579 0 3, .sl 1 125589 0 1, .nils, .sl 6 125635 0 0, .str [32, 111, 110, 101], .sl 1 131299 0 2, .int .i64 2, .sl 1 133962 0 16, .int .i64 90, .int .i64 0,
    .int .i64 0, .int .i64 0, .bool false]
  outs := [(42561, .cells [.int .i64 0, .int .i64 0, .str [], .int .i64 1, .int .i64 0, .str [], .int .i64 1, .int .i64 1, .str [], .int .i64 1, .int .i64 2, .str []]), (65076,
    .cells [.int .i64 2, .int .i64 0, .int .i64 33, .int .i64 0]), (65091, .cells [.int .i64 1, .int .i64 0, .int .i64 2, .int .i64 2, .int .i64 22, .int .i64 0, .int .i64 4,
    .int .i64 0, .int .i64 1, .int .i64 0, .int .i64 2, .int .i64 2, .int .i64 2, .int .i64 3, .int .i64 22, .int .i64 0, .int .i64 23, .int .i64 0, .int .i64 1, .int .i64 0,
    .int .i64 2, .int .i64 3, .int .i64 3, .int .i64 0, .int .i64 23, .int .i64 0, .int .i64 1, .int .i64 0, .int .i64 2, .int .i64 1, .int .i64 22, .int .i64 0, .int .i64 31,
    .int .i64 0, .int .i64 34, .int .i64 2, .int .i64 2, .int .i64 0, .int .i64 33, .int .i64 0]), (65106, .cells [.int .i64 2, .int .i64 0, .int .i64 33, .int .i64 0]), (65109,
    .cells [.int .i64 0, .sl 2 65076 0 2, .int .i64 0, .sl 2 65091 0 20, .int .i64 0, .sl 2 65106 0 2]), (116029, .cells [.int .i64 1]), (116075, .cells [.int .i64 1, .int .i64 20,
    .nils, .sl 2 124832 0 0, .nils, .nils]), (118862, .cells [.int .i64 0, .int .i64 0, .int .i64 0, .str [], .int .i64 1, .int .i64 2, .int .i64 0, .str [256, 257, 258],
    .int .i64 0, .int .i64 0, .int .i64 0, .str []]), (124383, .cells [.sym .u8 259, .sym .u8 260, .int .u8 32, .sym .u8 256, .sym .u8 257, .sym .u8 258, .int .u8 32, .int .u8 50,
    .int .u8 10]), (124832, .cells [.bool false, .int .i64 0]), (125495, .cells [.str [111, 110, 101]]), (125579, .cells [.int .i64 1, .int .i64 2, .int .i64 0, .str [111, 110,
    101], .int .i64 0, .int .i64 0, .int .i64 0, .str [], .int .i64 0, .int .i64 0, .int .i64 0, .str []]), (125589, .cells [.int .i64 0]), (125635, .cells [.int .i64 1,
    .int .i64 20, .nils, .sl 2 134428 0 0, .nils, .nils]), (131299, .cells [.str [], .str [111, 110, 101]]), (133962, .cells [.sym .u8 259, .sym .u8 260, .int .u8 32, .sym .u8 256,
    .sym .u8 257, .sym .u8 258, .int .u8 32, .int .u8 50, .int .u8 10, .int .u8 32, .int .u8 111, .int .u8 110, .int .u8 101, .int .u8 32, .int .u8 50, .int .u8 10]), (134428,
    .cells [.bool false, .int .i64 1])]
  n' := 134945
theorem runC32N5 : memoRun I [] 100000 mC32N5 = some doneR := by kernel_rfl
theorem okC32N5 (hv : Digits val) : MemoOk Tryz.prog val mC32N5 := memoRun_ok (sound hv allOk_nil _) runC32N5
noncomputable def mC32N6 : Memo where
  k := 81
  args := [.agg [.sl 3 42561 0 4, .nils, .int .i64 1, .int .i64 0, .sl 2 65109 0 3], .agg [.sl 4 125579 0 3, .sl 1 125589 0 1, .nils, .sl 6 125635 0 0, .str [32, 111, 110, 101],
    .sl 1 131299 0 2, .int .i64 2, .sl 1 133962 0 16, .int .i64 90, .int .i64 0, .int .i64 0, .int .i64 0, .bool false], .int .i64 2]
  ins := [(42561, .cells [.int .i64 0, .int .i64 0, .str [], .int .i64 1, .int .i64 0, .str [], .int .i64 1, .int .i64 1, .str [], .int .i64 1, .int .i64 2, .str []]), (65076,
    .cells [.int .i64 2, .int .i64 0, .int .i64 33, .int .i64 0]), (65091, .cells [.int .i64 1, .int .i64 0, .int .i64 2, .int .i64 2, .int .i64 22, .int .i64 0, .int .i64 4,
    .int .i64 0, .int .i64 1, .int .i64 0, .int .i64 2, .int .i64 2, .int .i64 2, .int .i64 3, .int .i64 22, .int .i64 0, .int .i64 23, .int .i64 0, .int .i64 1, .int .i64 0,
    .int .i64 2, .int .i64 3, .int .i64 3, .int .i64 0, .int .i64 23, .int .i64 0, .int .i64 1, .int .i64 0, .int .i64 2, .int .i64 1, .int .i64 22, .int .i64 0, .int .i64 31,
    .int .i64 0, .int .i64 34, .int .i64 2, .int .i64 2, .int .i64 0, .int .i64 33, .int .i64 0]), (65106, .cells [.int .i64 2, .int .i64 0, .int .i64 33, .int .i64 0]), (65109,
    .cells [.int .i64 0, .sl 2 65076 0 2, .int .i64 0, .sl 2 65091 0 20, .int .i64 0, .sl 2 65106 0 2]), (125579, .cells [.int .i64 1, .int .i64 2, .int .i64 0, .str [111, 110,
    101], .int .i64 0, .int .i64 0, .int .i64 0, .str [], .int .i64 0, .int .i64 0, .int .i64 0, .str []]), (125589, .cells [.int .i64 0]), (125635, .cells [.int .i64 1,
    .int .i64 20, .nils, .sl 2 134428 0 0, .nils, .nils]), (131299, .cells [.str [], .str [111, 110, 101]]), (133962, .cells [.sym .u8 259, .sym .u8 260, .int .u8 32, .sym .u8 256,
    .sym .u8 257, .sym .u8 258, .int .u8 32, .int .u8 50, .int .u8 10, .int .u8 32, .int .u8 111, .int .u8 110, .int .u8 101, .int .u8 32, .int .u8 50, .int .u8 10]), (134428,
    .cells [.bool false, .int .i64 1])]
  n := 134953
  d := .agg [.sl 4 135022 0 3, .sl 1 135032 0 1, .nils, .sl 6 135078 0 0, .str [32, 111, 110, 101], .sl 1 135043 0 2, .int .i64 2, .sl 1 135052 0 16, .int .i64 90, .int .i64 0,
    .int .i64 0, .int .i64 0, .bool false]
  outs := [(42561, .cells [.int .i64 0, .int .i64 0, .str [], .int .i64 1, .int .i64 0, .str [], .int .i64 1, .int .i64 1, .str [], .int .i64 1, .int .i64 2, .str []]), (65076,
    .cells [.int .i64 2, .int .i64 0, .int .i64 33, .int .i64 0]), (65091, .cells [.int .i64 1, .int .i64 0, .int .i64 2, .int .i64 2, .int .i64 22, .int .i64 0, .int .i64 4,
    .int .i64 0, .int .i64 1, .int .i64 0, .int .i64 2, .int .i64 2, .int .i64 2, .int .i64 3, .int .i64 22, .int .i64 0, .int .i64 23, .int .i64 0, .int .i64 1, .int .i64 0,
    .int .i64 2, .int .i64 3, .int .i64 3, .int .i64 0, .int .i64 23, .int .i64 0, .int .i64 1, .int .i64 0, .int .i64 2, .int .i64 1, .int .i64 22, .int .i64 0, .int .i64 31,
    .int .i64 0, .int .i64 34, .int .i64 2, .int .i64 2, .int .i64 0, .int .i64 33, .int .i64 0]), (65106, .cells [.int .i64 2, .int .i64 0, .int .i64 33, .int .i64 0]), (65109,
    .cells [.int .i64 0, .sl 2 65076 0 2, .int .i64 0, .sl 2 65091 0 20, .int .i64 0, .sl 2 65106 0 2]), (125579, .cells [.int .i64 1, .int .i64 2, .int .i64 0, .str [111, 110,
    101], .int .i64 0, .int .i64 0, .int .i64 0, .str [], .int .i64 0, .int .i64 0, .int .i64 0, .str []]), (125589, .cells [.int .i64 0]), (125635, .cells [.int .i64 1,
    .int .i64 20, .nils, .sl 2 134428 0 0, .nils, .nils]), (131299, .cells [.str [], .str [111, 110, 101]]), (133962, .cells [.sym .u8 259, .sym .u8 260, .int .u8 32, .sym .u8 256,
    .sym .u8 257, .sym .u8 258, .int .u8 32, .int .u8 50, .int .u8 10, .int .u8 32, .int .u8 111, .int .u8 110, .int .u8 101, .int .u8 32, .int .u8 50, .int .u8 10]), (134428,
    .cells [.bool false, .int .i64 1]), (135022, .cells [.int .i64 1, .int .i64 2, .int .i64 0, .str [111, 110, 101], .int .i64 0, .int .i64 0, .int .i64 0, .str [], .int .i64 0,
    .int .i64 0, .int .i64 0, .str []]), (135032, .cells [.int .i64 0]), (135043, .cells [.str [], .str [111, 110, 101]]), (135052, .cells [.sym .u8 259, .sym .u8 260, .int .u8 32,
    .sym .u8 256, .sym .u8 257, .sym .u8 258, .int .u8 32, .int .u8 50, .int .u8 10, .int .u8 32, .int .u8 111, .int .u8 110, .int .u8 101, .int .u8 32, .int .u8 50, .int .u8 10]),
    (135078, .cells [.int .i64 2, .int .i64 2, .nils, .sl 2 135539 0 0, .nils, .nils]), (135539, .cells [.bool false, .int .i64 1])]
  n' := 136056
theorem runC32N6 : memoRun I [] 100000 mC32N6 = some doneR := by kernel_rfl
theorem okC32N6 (hv : Digits val) : MemoOk Tryz.prog val mC32N6 := memoRun_ok (sound hv allOk_nil _) runC32N6
noncomputable def mC32N7 : Memo where
  k := 37
  args := [.agg [.sl 3 42561 0 4, .nils, .int .i64 1, .int .i64 0, .sl 2 65109 0 3], .sl 1 0 0 2, .int .i64 100]
  ins := [(0, .cells [.str [256, 257, 258, 32, 32, 259, 260], .str [111, 110, 101]]), (42561, .cells [.int .i64 0, .int .i64 0, .str [], .int .i64 1, .int .i64 0, .str [], .int .i64 1,
    .int .i64 1, .str [], .int .i64 1, .int .i64 2, .str []]), (65076, .cells [.int .i64 2, .int .i64 0, .int .i64 33, .int .i64 0]), (65091, .cells [.int .i64 1, .int .i64 0,
    .int .i64 2, .int .i64 2, .int .i64 22, .int .i64 0, .int .i64 4, .int .i64 0, .int .i64 1, .int .i64 0, .int .i64 2, .int .i64 2, .int .i64 2, .int .i64 3, .int .i64 22,
    .int .i64 0, .int .i64 23, .int .i64 0, .int .i64 1, .int .i64 0, .int .i64 2, .int .i64 3, .int .i64 3, .int .i64 0, .int .i64 23, .int .i64 0, .int .i64 1, .int .i64 0,
    .int .i64 2, .int .i64 1, .int .i64 22, .int .i64 0, .int .i64 31, .int .i64 0, .int .i64 34, .int .i64 2, .int .i64 2, .int .i64 0, .int .i64 33, .int .i64 0]), (65106,
    .cells [.int .i64 2, .int .i64 0, .int .i64 33, .int .i64 0]), (65109, .cells [.int .i64 0, .sl 2 65076 0 2, .int .i64 0, .sl 2 65091 0 20, .int .i64 0, .sl 2 65106 0 2])]
  n := 94264
  d := .agg [.sl 4 135022 0 3, .sl 1 135032 0 1, .nils, .sl 6 135078 0 0, .str [32, 111, 110, 101], .sl 1 135043 0 2, .int .i64 2, .sl 1 135052 0 16, .int .i64 90, .int .i64 0,
    .int .i64 0, .int .i64 0, .bool false]
  outs := [(0, .cells [.str [256, 257, 258, 32, 32, 259, 260], .str [111, 110, 101]]), (42561, .cells [.int .i64 0, .int .i64 0, .str [], .int .i64 1, .int .i64 0, .str [], .int .i64 1,
    .int .i64 1, .str [], .int .i64 1, .int .i64 2, .str []]), (65076, .cells [.int .i64 2, .int .i64 0, .int .i64 33, .int .i64 0]), (65091, .cells [.int .i64 1, .int .i64 0,
    .int .i64 2, .int .i64 2, .int .i64 22, .int .i64 0, .int .i64 4, .int .i64 0, .int .i64 1, .int .i64 0, .int .i64 2, .int .i64 2, .int .i64 2, .int .i64 3, .int .i64 22,
    .int .i64 0, .int .i64 23, .int .i64 0, .int .i64 1, .int .i64 0, .int .i64 2, .int .i64 3, .int .i64 3, .int .i64 0, .int .i64 23, .int .i64 0, .int .i64 1, .int .i64 0,
    .int .i64 2, .int .i64 1, .int .i64 22, .int .i64 0, .int .i64 31, .int .i64 0, .int .i64 34, .int .i64 2, .int .i64 2, .int .i64 0, .int .i64 33, .int .i64 0]), (65106,
    .cells [.int .i64 2, .int .i64 0, .int .i64 33, .int .i64 0]), (65109, .cells [.int .i64 0, .sl 2 65076 0 2, .int .i64 0, .sl 2 65091 0 20, .int .i64 0, .sl 2 65106 0 2]),
    (135022, .cells [.int .i64 1, .int .i64 2, .int .i64 0, .str [111, 110, 101], .int .i64 0, .int .i64 0, .int .i64 0, .str [], .int .i64 0, .int .i64 0, .int .i64 0, .str []]),
    (135032, .cells [.int .i64 0]), (135043, .cells [.str [], .str [111, 110, 101]]), (135052, .cells [.sym .u8 259, .sym .u8 260, .int .u8 32, .sym .u8 256, .sym .u8 257,
    .sym .u8 258, .int .u8 32, .int .u8 50, .int .u8 10, .int .u8 32, .int .u8 111, .int .u8 110, .int .u8 101, .int .u8 32, .int .u8 50, .int .u8 10]), (135078,
    .cells [.int .i64 2, .int .i64 2, .nils, .sl 2 135539 0 0, .nils, .nils]), (135539, .cells [.bool false, .int .i64 1])]
  n' := 136057
theorem runC32N7 : memoRun I [mC32N2, mS16, mC32N3, mC32N4, mC32N5, mC32N6] 100000 mC32N7 = some doneR := by kernel_rfl
theorem okC32N7 (hv : Digits val) : MemoOk Tryz.prog val mC32N7 := memoRun_ok (sound hv (allOk_cons (okC32N2 hv) (allOk_cons (okS16 hv) (allOk_cons (okC32N3 hv) (allOk_cons (okC32N4 hv) (allOk_cons (okC32N5 hv) (allOk_cons (okC32N6 hv) allOk_nil)))))) _) runC32N7
noncomputable def mC32N8 : Memo where
  k := 36
  args := [.agg [.sl 4 135022 0 3, .sl 1 135032 0 1, .nils, .sl 6 135078 0 0, .str [32, 111, 110, 101], .sl 1 135043 0 2, .int .i64 2, .sl 1 135052 0 16, .int .i64 90, .int .i64 0,
    .int .i64 0, .int .i64 0, .bool false]]
  ins := [(135022, .cells [.int .i64 1, .int .i64 2, .int .i64 0, .str [111, 110, 101], .int .i64 0, .int .i64 0, .int .i64 0, .str [], .int .i64 0, .int .i64 0, .int .i64 0, .str []]),
    (135032, .cells [.int .i64 0]), (135043, .cells [.str [], .str [111, 110, 101]]), (135052, .cells [.sym .u8 259, .sym .u8 260, .int .u8 32, .sym .u8 256, .sym .u8 257,
    .sym .u8 258, .int .u8 32, .int .u8 50, .int .u8 10, .int .u8 32, .int .u8 111, .int .u8 110, .int .u8 101, .int .u8 32, .int .u8 50, .int .u8 10]), (135078,
    .cells [.int .i64 2, .int .i64 2, .nils, .sl 2 135539 0 0, .nils, .nils]), (135539, .cells [.bool false, .int .i64 1])]
  n := 136057
  d := .str [259, 260, 32, 256, 257, 258, 32, 50, 10, 32, 111, 110, 101, 32, 50, 10]
  outs := [(135022, .cells [.int .i64 1, .int .i64 2, .int .i64 0, .str [111, 110, 101], .int .i64 0, .int .i64 0, .int .i64 0, .str [], .int .i64 0, .int .i64 0, .int .i64 0, .str []]),
    (135032, .cells [.int .i64 0]), (135043, .cells [.str [], .str [111, 110, 101]]), (135052, .cells [.sym .u8 259, .sym .u8 260, .int .u8 32, .sym .u8 256, .sym .u8 257,
    .sym .u8 258, .int .u8 32, .int .u8 50, .int .u8 10, .int .u8 32, .int .u8 111, .int .u8 110, .int .u8 101, .int .u8 32, .int .u8 50, .int .u8 10]), (135078,
    .cells [.int .i64 2, .int .i64 2, .nils, .sl 2 135539 0 0, .nils, .nils]), (135539, .cells [.bool false, .int .i64 1])]
  n' := 136078
theorem runC32N8 : memoRun I [] 100000 mC32N8 = some doneR := by kernel_rfl
theorem okC32N8 (hv : Digits val) : MemoOk Tryz.prog val mC32N8 := memoRun_ok (sound hv allOk_nil _) runC32N8
noncomputable def mC32 : Memo where
  k := 9
  args := [.str [123, 32, 120, 32, 61, 32, 36, 49, 59, 32, 36, 49, 32, 61, 32, 36, 50, 59, 32, 36, 50, 32, 61, 32, 120, 59, 32, 112, 114, 105, 110, 116, 32, 36, 48, 44, 32, 110, 102, 59, 32,
    125], .sl 1 0 0 2, .int .i64 100]
  ins := [(0, .cells [.str [256, 257, 258, 32, 32, 259, 260], .str [111, 110, 101]])]
  n := 1
  d := .tup [.str [259, 260, 32, 256, 257, 258, 32, 50, 10, 32, 111, 110, 101, 32, 50, 10], .bool true]
  outs := [(0, .cells [.str [256, 257, 258, 32, 32, 259, 260], .str [111, 110, 101]])]
  n' := 136092
theorem runC32 : memoRun I [mS5, mS17, mC32N0, mC32N1, mC32N7, mC32N8] 100000 mC32 = some doneR := by kernel_rfl
theorem okC32 (hv : Digits val) : MemoOk Tryz.prog val mC32 := memoRun_ok (sound hv (allOk_cons (okS5 hv) (allOk_cons (okS17 hv) (allOk_cons (okC32N0 hv) (allOk_cons (okC32N1 hv) (allOk_cons (okC32N7 hv) (allOk_cons (okC32N8 hv) allOk_nil)))))) _) runC32
end Go.Gh
