import Derived.Test.YtidododdhnbpkaaGreatDoorGhK3
/- The program run where the numbers have 1 and 1 digits. -/
set_option maxRecDepth 1000000
set_option linter.unusedVariables false
namespace Go.Gh
open Go.Proofs
variable {val : Nat → UInt8}
noncomputable def mC11N0 : Memo where
  k := 35
  args := [.agg [.sl 6 6725 0 1, .nils], .sl 1 0 0 2, .int .i64 100]
  ins := [(0, .cells [.str [256, 32, 32, 257], .str [111, 110, 101]]), (6725, .cells [.int .i64 3, .int .i64 0, .int .i64 0, .str [], .nils, .sl 6 9933 0 4]), (7827, .cells [.int .i64 1,
    .int .i64 1, .str [], .nils]), (7963, .cells [.int .i64 5, .int .i64 0, .str [], .sl 4 7827 0 1]), (8415, .cells [.int .i64 1, .int .i64 2, .str [], .nils]), (8553,
    .cells [.int .i64 1, .int .i64 1, .str [], .nils, .int .i64 5, .int .i64 0, .str [], .sl 4 8415 0 1]), (9164, .cells [.int .i64 1, .int .i64 2, .str [], .nils, .int .i64 3,
    .int .i64 0, .str [120], .nils]), (9485, .cells [.int .i64 1, .int .i64 0, .str [], .nils]), (9795, .cells [.int .i64 5, .int .i64 0, .str [], .sl 4 9485 0 1, .int .i64 15,
    .int .i64 0, .str [], .nils]), (9933, .cells [.int .i64 2, .str [120], .str [], .sl 4 7963 0 1, .nils, .nils, .int .i64 4, .str [], .str [], .sl 4 8553 0 2, .nils, .nils,
    .int .i64 4, .str [], .str [], .sl 4 9164 0 2, .nils, .nils, .int .i64 1, .str [], .str [], .sl 4 9795 0 2, .nils, .nils])]
  n := 75219
  d := .agg [.sl 4 92778 0 1, .nils, .str [32, 111, 110, 101], .sl 1 93680 0 2, .int .i64 2, .sl 1 94132 0 13, .int .i64 90, .int .i64 0, .int .i64 0, .int .i64 0, .int .i64 0]
  outs := [(0, .cells [.str [256, 32, 32, 257], .str [111, 110, 101]]), (6725, .cells [.int .i64 3, .int .i64 0, .int .i64 0, .str [], .nils, .sl 6 9933 0 4]), (7827, .cells [.int .i64 1,
    .int .i64 1, .str [], .nils]), (7963, .cells [.int .i64 5, .int .i64 0, .str [], .sl 4 7827 0 1]), (8415, .cells [.int .i64 1, .int .i64 2, .str [], .nils]), (8553,
    .cells [.int .i64 1, .int .i64 1, .str [], .nils, .int .i64 5, .int .i64 0, .str [], .sl 4 8415 0 1]), (9164, .cells [.int .i64 1, .int .i64 2, .str [], .nils, .int .i64 3,
    .int .i64 0, .str [120], .nils]), (9485, .cells [.int .i64 1, .int .i64 0, .str [], .nils]), (9795, .cells [.int .i64 5, .int .i64 0, .str [], .sl 4 9485 0 1, .int .i64 15,
    .int .i64 0, .str [], .nils]), (9933, .cells [.int .i64 2, .str [120], .str [], .sl 4 7963 0 1, .nils, .nils, .int .i64 4, .str [], .str [], .sl 4 8553 0 2, .nils, .nils,
    .int .i64 4, .str [], .str [], .sl 4 9164 0 2, .nils, .nils, .int .i64 1, .str [], .str [], .sl 4 9795 0 2, .nils, .nils]), (92778, .cells [.str [120], .int .i64 2, .int .i64 0,
    .str [111, 110, 101]]), (93680, .cells [.str [], .str [111, 110, 101]]), (94132, .cells [.sym .u8 257, .int .u8 32, .sym .u8 256, .int .u8 32, .int .u8 50, .int .u8 10,
    .int .u8 32, .int .u8 111, .int .u8 110, .int .u8 101, .int .u8 32, .int .u8 50, .int .u8 10])]
  n' := 94186
theorem runC11N0 : memoRun I [mS19, mS8] 100000 mC11N0 = some doneR := by kernel_rfl
theorem okC11N0 (hv : Digits val) : MemoOk Tryz.prog val mC11N0 := memoRun_ok (sound hv (allOk_cons (okS19 hv) (allOk_cons (okS8 hv) allOk_nil)) _) runC11N0
noncomputable def mC11N1 : Memo where
  k := 34
  args := [.agg [.sl 4 92778 0 1, .nils, .str [32, 111, 110, 101], .sl 1 93680 0 2, .int .i64 2, .sl 1 94132 0 13, .int .i64 90, .int .i64 0, .int .i64 0, .int .i64 0, .int .i64 0]]
  ins := [(92778, .cells [.str [120], .int .i64 2, .int .i64 0, .str [111, 110, 101]]), (93680, .cells [.str [], .str [111, 110, 101]]), (94132, .cells [.sym .u8 257, .int .u8 32,
    .sym .u8 256, .int .u8 32, .int .u8 50, .int .u8 10, .int .u8 32, .int .u8 111, .int .u8 110, .int .u8 101, .int .u8 32, .int .u8 50, .int .u8 10])]
  n := 94186
  d := .str [257, 32, 256, 32, 50, 10, 32, 111, 110, 101, 32, 50, 10]
  outs := [(92778, .cells [.str [120], .int .i64 2, .int .i64 0, .str [111, 110, 101]]), (93680, .cells [.str [], .str [111, 110, 101]]), (94132, .cells [.sym .u8 257, .int .u8 32,
    .sym .u8 256, .int .u8 32, .int .u8 50, .int .u8 10, .int .u8 32, .int .u8 111, .int .u8 110, .int .u8 101, .int .u8 32, .int .u8 50, .int .u8 10])]
  n' := 94207
theorem runC11N1 : memoRun I [] 100000 mC11N1 = some doneR := by kernel_rfl
theorem okC11N1 (hv : Digits val) : MemoOk Tryz.prog val mC11N1 := memoRun_ok (sound hv allOk_nil _) runC11N1
noncomputable def mC11N2 : Memo where
  k := 80
  args := [.agg [.sl 3 42561 0 4, .nils, .int .i64 1, .int .i64 0, .sl 2 65109 0 3], .int .i64 100]
  ins := [(42561, .cells [.int .i64 0, .int .i64 0, .str [], .int .i64 1, .int .i64 0, .str [], .int .i64 1, .int .i64 1, .str [], .int .i64 1, .int .i64 2, .str []]), (65076,
    .cells [.int .i64 2, .int .i64 0, .int .i64 33, .int .i64 0]), (65091, .cells [.int .i64 1, .int .i64 0, .int .i64 2, .int .i64 2, .int .i64 22, .int .i64 0, .int .i64 4,
    .int .i64 0, .int .i64 1, .int .i64 0, .int .i64 2, .int .i64 2, .int .i64 2, .int .i64 3, .int .i64 22, .int .i64 0, .int .i64 23, .int .i64 0, .int .i64 1, .int .i64 0,
    .int .i64 2, .int .i64 3, .int .i64 3, .int .i64 0, .int .i64 23, .int .i64 0, .int .i64 1, .int .i64 0, .int .i64 2, .int .i64 1, .int .i64 22, .int .i64 0, .int .i64 31,
    .int .i64 0, .int .i64 34, .int .i64 2, .int .i64 2, .int .i64 0, .int .i64 33, .int .i64 0]), (65106, .cells [.int .i64 2, .int .i64 0, .int .i64 33, .int .i64 0]), (65109,
    .cells [.int .i64 0, .sl 2 65076 0 2, .int .i64 0, .sl 2 65091 0 20, .int .i64 0, .sl 2 65106 0 2])]
  n := 94212
  d := .agg [.sl 4 104397 0 1, .sl 1 104365 0 1, .sl 1 104300 0 0, .nils, .str [], .nils, .int .i64 0, .nils, .int .i64 100, .int .i64 0, .int .i64 0, .int .i64 0, .bool false]
  outs := [(42561, .cells [.int .i64 0, .int .i64 0, .str [], .int .i64 1, .int .i64 0, .str [], .int .i64 1, .int .i64 1, .str [], .int .i64 1, .int .i64 2, .str []]), (65076,
    .cells [.int .i64 2, .int .i64 0, .int .i64 33, .int .i64 0]), (65091, .cells [.int .i64 1, .int .i64 0, .int .i64 2, .int .i64 2, .int .i64 22, .int .i64 0, .int .i64 4,
    .int .i64 0, .int .i64 1, .int .i64 0, .int .i64 2, .int .i64 2, .int .i64 2, .int .i64 3, .int .i64 22, .int .i64 0, .int .i64 23, .int .i64 0, .int .i64 1, .int .i64 0,
    .int .i64 2, .int .i64 3, .int .i64 3, .int .i64 0, .int .i64 23, .int .i64 0, .int .i64 1, .int .i64 0, .int .i64 2, .int .i64 1, .int .i64 22, .int .i64 0, .int .i64 31,
    .int .i64 0, .int .i64 34, .int .i64 2, .int .i64 2, .int .i64 0, .int .i64 33, .int .i64 0]), (65106, .cells [.int .i64 2, .int .i64 0, .int .i64 33, .int .i64 0]), (65109,
    .cells [.int .i64 0, .sl 2 65076 0 2, .int .i64 0, .sl 2 65091 0 20, .int .i64 0, .sl 2 65106 0 2]), (104300, .cells []), (104365, .cells [.int .i64 0]), (104397,
    .cells [.int .i64 1, .int .i64 0, .int .i64 0, .str []])]
  n' := 104421
theorem runC11N2 : memoRun I [mS16] 100000 mC11N2 = some doneR := by kernel_rfl
theorem okC11N2 (hv : Digits val) : MemoOk Tryz.prog val mC11N2 := memoRun_ok (sound hv (allOk_cons (okS16 hv) allOk_nil) _) runC11N2
noncomputable def mC11N3 : Memo where
  k := 81
  args := [.agg [.sl 3 42561 0 4, .nils, .int .i64 1, .int .i64 0, .sl 2 65109 0 3], .agg [.sl 4 104397 0 1, .sl 1 104365 0 1, .sl 1 104300 0 0, .nils, .str [], .nils, .int .i64 0, .nils,
    .int .i64 100, .int .i64 0, .int .i64 0, .int .i64 0, .bool false], .int .i64 0]
  ins := [(42561, .cells [.int .i64 0, .int .i64 0, .str [], .int .i64 1, .int .i64 0, .str [], .int .i64 1, .int .i64 1, .str [], .int .i64 1, .int .i64 2, .str []]), (65076,
    .cells [.int .i64 2, .int .i64 0, .int .i64 33, .int .i64 0]), (65091, .cells [.int .i64 1, .int .i64 0, .int .i64 2, .int .i64 2, .int .i64 22, .int .i64 0, .int .i64 4,
    .int .i64 0, .int .i64 1, .int .i64 0, .int .i64 2, .int .i64 2, .int .i64 2, .int .i64 3, .int .i64 22, .int .i64 0, .int .i64 23, .int .i64 0, .int .i64 1, .int .i64 0,
    .int .i64 2, .int .i64 3, .int .i64 3, .int .i64 0, .int .i64 23, .int .i64 0, .int .i64 1, .int .i64 0, .int .i64 2, .int .i64 1, .int .i64 22, .int .i64 0, .int .i64 31,
    .int .i64 0, .int .i64 34, .int .i64 2, .int .i64 2, .int .i64 0, .int .i64 33, .int .i64 0]), (65106, .cells [.int .i64 2, .int .i64 0, .int .i64 33, .int .i64 0]), (65109,
    .cells [.int .i64 0, .sl 2 65076 0 2, .int .i64 0, .sl 2 65091 0 20, .int .i64 0, .sl 2 65106 0 2]), (104300, .cells []), (104365, .cells [.int .i64 0]), (104397,
    .cells [.int .i64 1, .int .i64 0, .int .i64 0, .str []])]
  n := 114519
  d := .agg [.sl 4 115078 0 2, .sl 1 114598 0 1, .nils, .sl 6 114644 0 0, .str [], .nils, .int .i64 0, .nils, .int .i64 100, .int .i64 0, .int .i64 0, .int .i64 0, .bool false]
  outs := [(42561, .cells [.int .i64 0, .int .i64 0, .str [], .int .i64 1, .int .i64 0, .str [], .int .i64 1, .int .i64 1, .str [], .int .i64 1, .int .i64 2, .str []]), (65076,
    .cells [.int .i64 2, .int .i64 0, .int .i64 33, .int .i64 0]), (65091, .cells [.int .i64 1, .int .i64 0, .int .i64 2, .int .i64 2, .int .i64 22, .int .i64 0, .int .i64 4,
    .int .i64 0, .int .i64 1, .int .i64 0, .int .i64 2, .int .i64 2, .int .i64 2, .int .i64 3, .int .i64 22, .int .i64 0, .int .i64 23, .int .i64 0, .int .i64 1, .int .i64 0,
    .int .i64 2, .int .i64 3, .int .i64 3, .int .i64 0, .int .i64 23, .int .i64 0, .int .i64 1, .int .i64 0, .int .i64 2, .int .i64 1, .int .i64 22, .int .i64 0, .int .i64 31,
    .int .i64 0, .int .i64 34, .int .i64 2, .int .i64 2, .int .i64 0, .int .i64 33, .int .i64 0]), (65106, .cells [.int .i64 2, .int .i64 0, .int .i64 33, .int .i64 0]), (65109,
    .cells [.int .i64 0, .sl 2 65076 0 2, .int .i64 0, .sl 2 65091 0 20, .int .i64 0, .sl 2 65106 0 2]), (104300, .cells []), (104365, .cells [.int .i64 0]), (104397,
    .cells [.int .i64 1, .int .i64 0, .int .i64 0, .str []]), (114598, .cells [.int .i64 0]), (114644, .cells [.int .i64 0, .int .i64 2, .nils, .sl 2 115107 0 0, .nils, .nils]),
    (115078, .cells [.int .i64 1, .int .i64 0, .int .i64 0, .str [], .int .i64 0, .int .i64 0, .int .i64 0, .str []]), (115107, .cells [.bool false, .int .i64 1])]
  n' := 115624
theorem runC11N3 : memoRun I [] 100000 mC11N3 = some doneR := by kernel_rfl
theorem okC11N3 (hv : Digits val) : MemoOk Tryz.prog val mC11N3 := memoRun_ok (sound hv allOk_nil _) runC11N3
noncomputable def mC11N4 : Memo where
  k := 81
  args := [.agg [.sl 3 42561 0 4, .nils, .int .i64 1, .int .i64 0, .sl 2 65109 0 3], .agg [.sl 4 115078 0 2, .sl 1 114598 0 1, .nils, .sl 6 114644 0 0, .str [256, 32, 32, 257],
    .sl 1 115821 0 2, .int .i64 1, .nils, .int .i64 99, .int .i64 0, .int .i64 0, .int .i64 0, .bool false], .int .i64 1]
  ins := [(42561, .cells [.int .i64 0, .int .i64 0, .str [], .int .i64 1, .int .i64 0, .str [], .int .i64 1, .int .i64 1, .str [], .int .i64 1, .int .i64 2, .str []]), (65076,
    .cells [.int .i64 2, .int .i64 0, .int .i64 33, .int .i64 0]), (65091, .cells [.int .i64 1, .int .i64 0, .int .i64 2, .int .i64 2, .int .i64 22, .int .i64 0, .int .i64 4,
    .int .i64 0, .int .i64 1, .int .i64 0, .int .i64 2, .int .i64 2, .int .i64 2, .int .i64 3, .int .i64 22, .int .i64 0, .int .i64 23, .int .i64 0, .int .i64 1, .int .i64 0,
    .int .i64 2, .int .i64 3, .int .i64 3, .int .i64 0, .int .i64 23, .int .i64 0, .int .i64 1, .int .i64 0, .int .i64 2, .int .i64 1, .int .i64 22, .int .i64 0, .int .i64 31,
    .int .i64 0, .int .i64 34, .int .i64 2, .int .i64 2, .int .i64 0, .int .i64 33, .int .i64 0]), (65106, .cells [.int .i64 2, .int .i64 0, .int .i64 33, .int .i64 0]), (65109,
    .cells [.int .i64 0, .sl 2 65076 0 2, .int .i64 0, .sl 2 65091 0 20, .int .i64 0, .sl 2 65106 0 2]), (114598, .cells [.int .i64 0]), (114644, .cells [.int .i64 0, .int .i64 2,
    .nils, .sl 2 115107 0 0, .nils, .nils]), (115078, .cells [.int .i64 1, .int .i64 0, .int .i64 0, .str [], .int .i64 0, .int .i64 0, .int .i64 0, .str []]), (115107,
    .cells [.bool false, .int .i64 1]), (115821, .cells [.str [256], .str [257]])]
  n := 115836
  d := .agg [.sl 4 118748 0 3, .sl 1 115915 0 1, .nils, .sl 6 115961 0 0, .str [257, 32, 256], .sl 1 121636 0 2, .int .i64 1, .sl 1 124269 0 6, .int .i64 95, .int .i64 0, .int .i64 0,
    .int .i64 0, .bool false]
  outs := [(42561, .cells [.int .i64 0, .int .i64 0, .str [], .int .i64 1, .int .i64 0, .str [], .int .i64 1, .int .i64 1, .str [], .int .i64 1, .int .i64 2, .str []]), (65076,
    .cells [.int .i64 2, .int .i64 0, .int .i64 33, .int .i64 0]), (65091, .cells [.int .i64 1, .int .i64 0, .int .i64 2, .int .i64 2, .int .i64 22, .int .i64 0, .int .i64 4,
    .int .i64 0, .int .i64 1, .int .i64 0, .int .i64 2, .int .i64 2, .int .i64 2, .int .i64 3, .int .i64 22, .int .i64 0, .int .i64 23, .int .i64 0, .int .i64 1, .int .i64 0,
    .int .i64 2, .int .i64 3, .int .i64 3, .int .i64 0, .int .i64 23, .int .i64 0, .int .i64 1, .int .i64 0, .int .i64 2, .int .i64 1, .int .i64 22, .int .i64 0, .int .i64 31,
    .int .i64 0, .int .i64 34, .int .i64 2, .int .i64 2, .int .i64 0, .int .i64 33, .int .i64 0]), (65106, .cells [.int .i64 2, .int .i64 0, .int .i64 33, .int .i64 0]), (65109,
    .cells [.int .i64 0, .sl 2 65076 0 2, .int .i64 0, .sl 2 65091 0 20, .int .i64 0, .sl 2 65106 0 2]), (114598, .cells [.int .i64 0]), (114644, .cells [.int .i64 0, .int .i64 2,
    .nils, .sl 2 115107 0 0, .nils, .nils]), (115078, .cells [.int .i64 1, .int .i64 0, .int .i64 0, .str [], .int .i64 0, .int .i64 0, .int .i64 0, .str []]), (115107,
    .cells [.bool false, .int .i64 1]), (115821, .cells [.str [256], .str [257]]), (115915, .cells [.int .i64 1]), (115961, .cells [.int .i64 1, .int .i64 20, .nils,
    .sl 2 124718 0 0, .nils, .nils]), (118748, .cells [.int .i64 0, .int .i64 0, .int .i64 0, .str [], .int .i64 1, .int .i64 2, .int .i64 0, .str [256], .int .i64 0, .int .i64 0,
    .int .i64 0, .str []]), (121636, .cells [.str [257], .str [256]]), (124269, .cells [.sym .u8 257, .int .u8 32, .sym .u8 256, .int .u8 32, .int .u8 50, .int .u8 10]), (124718,
    .cells [.bool false, .int .i64 0])]
  n' := 125235
theorem runC11N4 : memoRun I [] 100000 mC11N4 = some doneR := by kernel_rfl
theorem okC11N4 (hv : Digits val) : MemoOk Tryz.prog val mC11N4 := memoRun_ok (sound hv allOk_nil _) runC11N4
noncomputable def mC11N5 : Memo where
  k := 81
  args := [.agg [.sl 3 42561 0 4, .nils, .int .i64 1, .int .i64 0, .sl 2 65109 0 3], .agg [.sl 4 118748 0 3, .sl 1 115915 0 1, .nils, .sl 6 115961 0 0, .str [111, 110, 101], .sl 1 125381 0 1,
    .int .i64 2, .sl 1 124269 0 6, .int .i64 94, .int .i64 0, .int .i64 0, .int .i64 0, .bool false], .int .i64 1]
  ins := [(42561, .cells [.int .i64 0, .int .i64 0, .str [], .int .i64 1, .int .i64 0, .str [], .int .i64 1, .int .i64 1, .str [], .int .i64 1, .int .i64 2, .str []]), (65076,
    .cells [.int .i64 2, .int .i64 0, .int .i64 33, .int .i64 0]), (65091, .cells [.int .i64 1, .int .i64 0, .int .i64 2, .int .i64 2, .int .i64 22, .int .i64 0, .int .i64 4,
    .int .i64 0, .int .i64 1, .int .i64 0, .int .i64 2, .int .i64 2, .int .i64 2, .int .i64 3, .int .i64 22, .int .i64 0, .int .i64 23, .int .i64 0, .int .i64 1, .int .i64 0,
    .int .i64 2, .int .i64 3, .int .i64 3, .int .i64 0, .int .i64 23, .int .i64 0, .int .i64 1, .int .i64 0, .int .i64 2, .int .i64 1, .int .i64 22, .int .i64 0, .int .i64 31,
    .int .i64 0, .int .i64 34, .int .i64 2, .int .i64 2, .int .i64 0, .int .i64 33, .int .i64 0]), (65106, .cells [.int .i64 2, .int .i64 0, .int .i64 33, .int .i64 0]), (65109,
    .cells [.int .i64 0, .sl 2 65076 0 2, .int .i64 0, .sl 2 65091 0 20, .int .i64 0, .sl 2 65106 0 2]), (115915, .cells [.int .i64 1]), (115961, .cells [.int .i64 1, .int .i64 20,
    .nils, .sl 2 124718 0 0, .nils, .nils]), (118748, .cells [.int .i64 0, .int .i64 0, .int .i64 0, .str [], .int .i64 1, .int .i64 2, .int .i64 0, .str [256], .int .i64 0,
    .int .i64 0, .int .i64 0, .str []]), (124269, .cells [.sym .u8 257, .int .u8 32, .sym .u8 256, .int .u8 32, .int .u8 50, .int .u8 10]), (124718, .cells [.bool false,
    .int .i64 0]), (125381, .cells [.str [111, 110, 101]])]
  n := 125396
  d := .agg [.sl 4 125465 0 3, .sl 1 125475 0 1, .nils, .sl 6 125521 0 0, .str [32, 111, 110, 101], .sl 1 131185 0 2, .int .i64 2, .sl 1 133848 0 13, .int .i64 90, .int .i64 0,
    .int .i64 0, .int .i64 0, .bool false]
  outs := [(42561, .cells [.int .i64 0, .int .i64 0, .str [], .int .i64 1, .int .i64 0, .str [], .int .i64 1, .int .i64 1, .str [], .int .i64 1, .int .i64 2, .str []]), (65076,
    .cells [.int .i64 2, .int .i64 0, .int .i64 33, .int .i64 0]), (65091, .cells [.int .i64 1, .int .i64 0, .int .i64 2, .int .i64 2, .int .i64 22, .int .i64 0, .int .i64 4,
    .int .i64 0, .int .i64 1, .int .i64 0, .int .i64 2, .int .i64 2, .int .i64 2, .int .i64 3, .int .i64 22, .int .i64 0, .int .i64 23, .int .i64 0, .int .i64 1, .int .i64 0,
    .int .i64 2, .int .i64 3, .int .i64 3, .int .i64 0, .int .i64 23, .int .i64 0, .int .i64 1, .int .i64 0, .int .i64 2, .int .i64 1, .int .i64 22, .int .i64 0, .int .i64 31,
    .int .i64 0, .int .i64 34, .int .i64 2, .int .i64 2, .int .i64 0, .int .i64 33, .int .i64 0]), (65106, .cells [.int .i64 2, .int .i64 0, .int .i64 33, .int .i64 0]), (65109,
    .cells [.int .i64 0, .sl 2 65076 0 2, .int .i64 0, .sl 2 65091 0 20, .int .i64 0, .sl 2 65106 0 2]), (115915, .cells [.int .i64 1]), (115961, .cells [.int .i64 1, .int .i64 20,
    .nils, .sl 2 124718 0 0, .nils, .nils]), (118748, .cells [.int .i64 0, .int .i64 0, .int .i64 0, .str [], .int .i64 1, .int .i64 2, .int .i64 0, .str [256], .int .i64 0,
    .int .i64 0, .int .i64 0, .str []]), (124269, .cells [.sym .u8 257, .int .u8 32, .sym .u8 256, .int .u8 32, .int .u8 50, .int .u8 10]), (124718, .cells [.bool false,
    .int .i64 0]), (125381, .cells [.str [111, 110, 101]]), (125465, .cells [.int .i64 1, .int .i64 2, .int .i64 0, .str [111, 110, 101], .int .i64 0, .int .i64 0, .int .i64 0,
    .str [], .int .i64 0, .int .i64 0, .int .i64 0, .str []]), (125475, .cells [.int .i64 0]), (125521, .cells [.int .i64 1, .int .i64 20, .nils, .sl 2 134314 0 0, .nils, .nils]),
    (131185, .cells [.str [], .str [111, 110, 101]]), (133848, .cells [.sym .u8 257, .int .u8 32, .sym .u8 256, .int .u8 32, .int .u8 50, .int .u8 10, .int .u8 32, .int .u8 111,
    .int .u8 110, .int .u8 101, .int .u8 32, .int .u8 50, .int .u8 10]), (134314, .cells [.bool false, .int .i64 1])]
  n' := 134831
theorem runC11N5 : memoRun I [] 100000 mC11N5 = some doneR := by kernel_rfl
theorem okC11N5 (hv : Digits val) : MemoOk Tryz.prog val mC11N5 := memoRun_ok (sound hv allOk_nil _) runC11N5
noncomputable def mC11N6 : Memo where
  k := 81
  args := [.agg [.sl 3 42561 0 4, .nils, .int .i64 1, .int .i64 0, .sl 2 65109 0 3], .agg [.sl 4 125465 0 3, .sl 1 125475 0 1, .nils, .sl 6 125521 0 0, .str [32, 111, 110, 101],
    .sl 1 131185 0 2, .int .i64 2, .sl 1 133848 0 13, .int .i64 90, .int .i64 0, .int .i64 0, .int .i64 0, .bool false], .int .i64 2]
  ins := [(42561, .cells [.int .i64 0, .int .i64 0, .str [], .int .i64 1, .int .i64 0, .str [], .int .i64 1, .int .i64 1, .str [], .int .i64 1, .int .i64 2, .str []]), (65076,
    .cells [.int .i64 2, .int .i64 0, .int .i64 33, .int .i64 0]), (65091, .cells [.int .i64 1, .int .i64 0, .int .i64 2, .int .i64 2, .int .i64 22, .int .i64 0, .int .i64 4,
    .int .i64 0, .int .i64 1, .int .i64 0, .int .i64 2, .int .i64 2, .int .i64 2, .int .i64 3, .int .i64 22, .int .i64 0, .int .i64 23, .int .i64 0, .int .i64 1, .int .i64 0,
    .int .i64 2, .int .i64 3, .int .i64 3, .int .i64 0, .int .i64 23, .int .i64 0, .int .i64 1, .int .i64 0, .int .i64 2, .int .i64 1, .int .i64 22, .int .i64 0, .int .i64 31,
    .int .i64 0, .int .i64 34, .int .i64 2, .int .i64 2, .int .i64 0, .int .i64 33, .int .i64 0]), (65106, .cells [.int .i64 2, .int .i64 0, .int .i64 33, .int .i64 0]), (65109,
    .cells [.int .i64 0, .sl 2 65076 0 2, .int .i64 0, .sl 2 65091 0 20, .int .i64 0, .sl 2 65106 0 2]), (125465, .cells [.int .i64 1, .int .i64 2, .int .i64 0, .str [111, 110,
    101], .int .i64 0, .int .i64 0, .int .i64 0, .str [], .int .i64 0, .int .i64 0, .int .i64 0, .str []]), (125475, .cells [.int .i64 0]), (125521, .cells [.int .i64 1,
    .int .i64 20, .nils, .sl 2 134314 0 0, .nils, .nils]), (131185, .cells [.str [], .str [111, 110, 101]]), (133848, .cells [.sym .u8 257, .int .u8 32, .sym .u8 256, .int .u8 32,
    .int .u8 50, .int .u8 10, .int .u8 32, .int .u8 111, .int .u8 110, .int .u8 101, .int .u8 32, .int .u8 50, .int .u8 10]), (134314, .cells [.bool false, .int .i64 1])]
  n := 134839
  d := .agg [.sl 4 134908 0 3, .sl 1 134918 0 1, .nils, .sl 6 134964 0 0, .str [32, 111, 110, 101], .sl 1 134929 0 2, .int .i64 2, .sl 1 134938 0 13, .int .i64 90, .int .i64 0,
    .int .i64 0, .int .i64 0, .bool false]
  outs := [(42561, .cells [.int .i64 0, .int .i64 0, .str [], .int .i64 1, .int .i64 0, .str [], .int .i64 1, .int .i64 1, .str [], .int .i64 1, .int .i64 2, .str []]), (65076,
    .cells [.int .i64 2, .int .i64 0, .int .i64 33, .int .i64 0]), (65091, .cells [.int .i64 1, .int .i64 0, .int .i64 2, .int .i64 2, .int .i64 22, .int .i64 0, .int .i64 4,
    .int .i64 0, .int .i64 1, .int .i64 0, .int .i64 2, .int .i64 2, .int .i64 2, .int .i64 3, .int .i64 22, .int .i64 0, .int .i64 23, .int .i64 0, .int .i64 1, .int .i64 0,
    .int .i64 2, .int .i64 3, .int .i64 3, .int .i64 0, .int .i64 23, .int .i64 0, .int .i64 1, .int .i64 0, .int .i64 2, .int .i64 1, .int .i64 22, .int .i64 0, .int .i64 31,
    .int .i64 0, .int .i64 34, .int .i64 2, .int .i64 2, .int .i64 0, .int .i64 33, .int .i64 0]), (65106, .cells [.int .i64 2, .int .i64 0, .int .i64 33, .int .i64 0]), (65109,
    .cells [.int .i64 0, .sl 2 65076 0 2, .int .i64 0, .sl 2 65091 0 20, .int .i64 0, .sl 2 65106 0 2]), (125465, .cells [.int .i64 1, .int .i64 2, .int .i64 0, .str [111, 110,
    101], .int .i64 0, .int .i64 0, .int .i64 0, .str [], .int .i64 0, .int .i64 0, .int .i64 0, .str []]), (125475, .cells [.int .i64 0]), (125521, .cells [.int .i64 1,
    .int .i64 20, .nils, .sl 2 134314 0 0, .nils, .nils]), (131185, .cells [.str [], .str [111, 110, 101]]), (133848, .cells [.sym .u8 257, .int .u8 32, .sym .u8 256, .int .u8 32,
    .int .u8 50, .int .u8 10, .int .u8 32, .int .u8 111, .int .u8 110, .int .u8 101, .int .u8 32, .int .u8 50, .int .u8 10]), (134314, .cells [.bool false, .int .i64 1]), (134908,
    .cells [.int .i64 1, .int .i64 2, .int .i64 0, .str [111, 110, 101], .int .i64 0, .int .i64 0, .int .i64 0, .str [], .int .i64 0, .int .i64 0, .int .i64 0, .str []]), (134918,
    .cells [.int .i64 0]), (134929, .cells [.str [], .str [111, 110, 101]]), (134938, .cells [.sym .u8 257, .int .u8 32, .sym .u8 256, .int .u8 32, .int .u8 50, .int .u8 10,
    .int .u8 32, .int .u8 111, .int .u8 110, .int .u8 101, .int .u8 32, .int .u8 50, .int .u8 10]), (134964, .cells [.int .i64 2, .int .i64 2, .nils, .sl 2 135425 0 0, .nils,
    .nils]), (135425, .cells [.bool false, .int .i64 1])]
  n' := 135942
theorem runC11N6 : memoRun I [] 100000 mC11N6 = some doneR := by kernel_rfl
theorem okC11N6 (hv : Digits val) : MemoOk Tryz.prog val mC11N6 := memoRun_ok (sound hv allOk_nil _) runC11N6
noncomputable def mC11N7 : Memo where
  k := 37
  args := [.agg [.sl 3 42561 0 4, .nils, .int .i64 1, .int .i64 0, .sl 2 65109 0 3], .sl 1 0 0 2, .int .i64 100]
  ins := [(0, .cells [.str [256, 32, 32, 257], .str [111, 110, 101]]), (42561, .cells [.int .i64 0, .int .i64 0, .str [], .int .i64 1, .int .i64 0, .str [], .int .i64 1, .int .i64 1,
    .str [], .int .i64 1, .int .i64 2, .str []]), (65076, .cells [.int .i64 2, .int .i64 0, .int .i64 33, .int .i64 0]), (65091, .cells [.int .i64 1, .int .i64 0, .int .i64 2,
    .int .i64 2, .int .i64 22, .int .i64 0, .int .i64 4, .int .i64 0, .int .i64 1, .int .i64 0, .int .i64 2, .int .i64 2, .int .i64 2, .int .i64 3, .int .i64 22, .int .i64 0,
    .int .i64 23, .int .i64 0, .int .i64 1, .int .i64 0, .int .i64 2, .int .i64 3, .int .i64 3, .int .i64 0, .int .i64 23, .int .i64 0, .int .i64 1, .int .i64 0, .int .i64 2,
    .int .i64 1, .int .i64 22, .int .i64 0, .int .i64 31, .int .i64 0, .int .i64 34, .int .i64 2, .int .i64 2, .int .i64 0, .int .i64 33, .int .i64 0]), (65106, .cells [.int .i64 2,
    .int .i64 0, .int .i64 33, .int .i64 0]), (65109, .cells [.int .i64 0, .sl 2 65076 0 2, .int .i64 0, .sl 2 65091 0 20, .int .i64 0, .sl 2 65106 0 2])]
  n := 94207
  d := .agg [.sl 4 134908 0 3, .sl 1 134918 0 1, .nils, .sl 6 134964 0 0, .str [32, 111, 110, 101], .sl 1 134929 0 2, .int .i64 2, .sl 1 134938 0 13, .int .i64 90, .int .i64 0,
    .int .i64 0, .int .i64 0, .bool false]
  outs := [(0, .cells [.str [256, 32, 32, 257], .str [111, 110, 101]]), (42561, .cells [.int .i64 0, .int .i64 0, .str [], .int .i64 1, .int .i64 0, .str [], .int .i64 1, .int .i64 1,
    .str [], .int .i64 1, .int .i64 2, .str []]), (65076, .cells [.int .i64 2, .int .i64 0, .int .i64 33, .int .i64 0]), (65091, .cells [.int .i64 1, .int .i64 0, .int .i64 2,
    .int .i64 2, .int .i64 22, .int .i64 0, .int .i64 4, .int .i64 0, .int .i64 1, .int .i64 0, .int .i64 2, .int .i64 2, .int .i64 2, .int .i64 3, .int .i64 22, .int .i64 0,
    .int .i64 23, .int .i64 0, .int .i64 1, .int .i64 0, .int .i64 2, .int .i64 3, .int .i64 3, .int .i64 0, .int .i64 23, .int .i64 0, .int .i64 1, .int .i64 0, .int .i64 2,
    .int .i64 1, .int .i64 22, .int .i64 0, .int .i64 31, .int .i64 0, .int .i64 34, .int .i64 2, .int .i64 2, .int .i64 0, .int .i64 33, .int .i64 0]), (65106, .cells [.int .i64 2,
    .int .i64 0, .int .i64 33, .int .i64 0]), (65109, .cells [.int .i64 0, .sl 2 65076 0 2, .int .i64 0, .sl 2 65091 0 20, .int .i64 0, .sl 2 65106 0 2]), (134908,
    .cells [.int .i64 1, .int .i64 2, .int .i64 0, .str [111, 110, 101], .int .i64 0, .int .i64 0, .int .i64 0, .str [], .int .i64 0, .int .i64 0, .int .i64 0, .str []]), (134918,
    .cells [.int .i64 0]), (134929, .cells [.str [], .str [111, 110, 101]]), (134938, .cells [.sym .u8 257, .int .u8 32, .sym .u8 256, .int .u8 32, .int .u8 50, .int .u8 10,
    .int .u8 32, .int .u8 111, .int .u8 110, .int .u8 101, .int .u8 32, .int .u8 50, .int .u8 10]), (134964, .cells [.int .i64 2, .int .i64 2, .nils, .sl 2 135425 0 0, .nils,
    .nils]), (135425, .cells [.bool false, .int .i64 1])]
  n' := 135943
theorem runC11N7 : memoRun I [mC11N2, mS16, mC11N3, mC11N4, mC11N5, mC11N6] 100000 mC11N7 = some doneR := by kernel_rfl
theorem okC11N7 (hv : Digits val) : MemoOk Tryz.prog val mC11N7 := memoRun_ok (sound hv (allOk_cons (okC11N2 hv) (allOk_cons (okS16 hv) (allOk_cons (okC11N3 hv) (allOk_cons (okC11N4 hv) (allOk_cons (okC11N5 hv) (allOk_cons (okC11N6 hv) allOk_nil)))))) _) runC11N7
noncomputable def mC11N8 : Memo where
  k := 36
  args := [.agg [.sl 4 134908 0 3, .sl 1 134918 0 1, .nils, .sl 6 134964 0 0, .str [32, 111, 110, 101], .sl 1 134929 0 2, .int .i64 2, .sl 1 134938 0 13, .int .i64 90, .int .i64 0,
    .int .i64 0, .int .i64 0, .bool false]]
  ins := [(134908, .cells [.int .i64 1, .int .i64 2, .int .i64 0, .str [111, 110, 101], .int .i64 0, .int .i64 0, .int .i64 0, .str [], .int .i64 0, .int .i64 0, .int .i64 0, .str []]),
    (134918, .cells [.int .i64 0]), (134929, .cells [.str [], .str [111, 110, 101]]), (134938, .cells [.sym .u8 257, .int .u8 32, .sym .u8 256, .int .u8 32, .int .u8 50,
    .int .u8 10, .int .u8 32, .int .u8 111, .int .u8 110, .int .u8 101, .int .u8 32, .int .u8 50, .int .u8 10]), (134964, .cells [.int .i64 2, .int .i64 2, .nils, .sl 2 135425 0 0,
    .nils, .nils]), (135425, .cells [.bool false, .int .i64 1])]
  n := 135943
  d := .str [257, 32, 256, 32, 50, 10, 32, 111, 110, 101, 32, 50, 10]
  outs := [(134908, .cells [.int .i64 1, .int .i64 2, .int .i64 0, .str [111, 110, 101], .int .i64 0, .int .i64 0, .int .i64 0, .str [], .int .i64 0, .int .i64 0, .int .i64 0, .str []]),
    (134918, .cells [.int .i64 0]), (134929, .cells [.str [], .str [111, 110, 101]]), (134938, .cells [.sym .u8 257, .int .u8 32, .sym .u8 256, .int .u8 32, .int .u8 50,
    .int .u8 10, .int .u8 32, .int .u8 111, .int .u8 110, .int .u8 101, .int .u8 32, .int .u8 50, .int .u8 10]), (134964, .cells [.int .i64 2, .int .i64 2, .nils, .sl 2 135425 0 0,
    .nils, .nils]), (135425, .cells [.bool false, .int .i64 1])]
  n' := 135964
theorem runC11N8 : memoRun I [] 100000 mC11N8 = some doneR := by kernel_rfl
theorem okC11N8 (hv : Digits val) : MemoOk Tryz.prog val mC11N8 := memoRun_ok (sound hv allOk_nil _) runC11N8
noncomputable def mC11 : Memo where
  k := 9
  args := [.str [123, 32, 120, 32, 61, 32, 36, 49, 59, 32, 36, 49, 32, 61, 32, 36, 50, 59, 32, 36, 50, 32, 61, 32, 120, 59, 32, 112, 114, 105, 110, 116, 32, 36, 48, 44, 32, 110, 102, 59, 32,
    125], .sl 1 0 0 2, .int .i64 100]
  ins := [(0, .cells [.str [256, 32, 32, 257], .str [111, 110, 101]])]
  n := 1
  d := .tup [.str [257, 32, 256, 32, 50, 10, 32, 111, 110, 101, 32, 50, 10], .bool true]
  outs := [(0, .cells [.str [256, 32, 32, 257], .str [111, 110, 101]])]
  n' := 135978
theorem runC11 : memoRun I [mS5, mS17, mC11N0, mC11N1, mC11N7, mC11N8] 100000 mC11 = some doneR := by kernel_rfl
theorem okC11 (hv : Digits val) : MemoOk Tryz.prog val mC11 := memoRun_ok (sound hv (allOk_cons (okS5 hv) (allOk_cons (okS17 hv) (allOk_cons (okC11N0 hv) (allOk_cons (okC11N1 hv) (allOk_cons (okC11N7 hv) (allOk_cons (okC11N8 hv) allOk_nil)))))) _) runC11
end Go.Gh
