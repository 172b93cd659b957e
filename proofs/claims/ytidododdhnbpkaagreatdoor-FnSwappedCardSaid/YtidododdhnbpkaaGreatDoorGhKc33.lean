import Derived.Test.YtidododdhnbpkaaGreatDoorGhK3
/- The program run where the numbers have 3 and 3 digits. -/
set_option maxRecDepth 1000000
set_option linter.unusedVariables false
namespace Go.Gh
open Go.Proofs
variable {val : Nat → UInt8}
noncomputable def mC33N0 : Memo where
  k := 35
  args := [.agg [.sl 6 6725 0 1, .nils], .sl 1 0 0 2, .int .i64 100]
  ins := [(0, .cells [.str [256, 257, 258, 32, 32, 259, 260, 261], .str [111, 110, 101]]), (6725, .cells [.int .i64 3, .int .i64 0, .int .i64 0, .str [], .nils, .sl 6 9933 0 4]), (7827,
    .cells [.int .i64 1, .int .i64 1, .str [], .nils]), (7963, .cells [.int .i64 5, .int .i64 0, .str [], .sl 4 7827 0 1]), (8415, .cells [.int .i64 1, .int .i64 2, .str [],
    .nils]), (8553, .cells [.int .i64 1, .int .i64 1, .str [], .nils, .int .i64 5, .int .i64 0, .str [], .sl 4 8415 0 1]), (9164, .cells [.int .i64 1, .int .i64 2, .str [], .nils,
    .int .i64 3, .int .i64 0, .str [120], .nils]), (9485, .cells [.int .i64 1, .int .i64 0, .str [], .nils]), (9795, .cells [.int .i64 5, .int .i64 0, .str [], .sl 4 9485 0 1,
    .int .i64 15, .int .i64 0, .str [], .nils]), (9933, .cells [.int .i64 2, .str [120], .str [], .sl 4 7963 0 1, .nils, .nils, .int .i64 4, .str [], .str [], .sl 4 8553 0 2, .nils,
    .nils, .int .i64 4, .str [], .str [], .sl 4 9164 0 2, .nils, .nils, .int .i64 1, .str [], .str [], .sl 4 9795 0 2, .nils, .nils])]
  n := 75219
  d := .agg [.sl 4 92854 0 1, .nils, .str [32, 111, 110, 101], .sl 1 93756 0 2, .int .i64 2, .sl 1 94208 0 17, .int .i64 90, .int .i64 0, .int .i64 0, .int .i64 0, .int .i64 0]
  outs := [(0, .cells [.str [256, 257, 258, 32, 32, 259, 260, 261], .str [111, 110, 101]]), (6725, .cells [.int .i64 3, .int .i64 0, .int .i64 0, .str [], .nils, .sl 6 9933 0 4]), (7827,
    .cells [.int .i64 1, .int .i64 1, .str [], .nils]), (7963, .cells [.int .i64 5, .int .i64 0, .str [], .sl 4 7827 0 1]), (8415, .cells [.int .i64 1, .int .i64 2, .str [],
    .nils]), (8553, .cells [.int .i64 1, .int .i64 1, .str [], .nils, .int .i64 5, .int .i64 0, .str [], .sl 4 8415 0 1]), (9164, .cells [.int .i64 1, .int .i64 2, .str [], .nils,
    .int .i64 3, .int .i64 0, .str [120], .nils]), (9485, .cells [.int .i64 1, .int .i64 0, .str [], .nils]), (9795, .cells [.int .i64 5, .int .i64 0, .str [], .sl 4 9485 0 1,
    .int .i64 15, .int .i64 0, .str [], .nils]), (9933, .cells [.int .i64 2, .str [120], .str [], .sl 4 7963 0 1, .nils, .nils, .int .i64 4, .str [], .str [], .sl 4 8553 0 2, .nils,
    .nils, .int .i64 4, .str [], .str [], .sl 4 9164 0 2, .nils, .nils, .int .i64 1, .str [], .str [], .sl 4 9795 0 2, .nils, .nils]), (92854, .cells [.str [120], .int .i64 2,
    .int .i64 0, .str [111, 110, 101]]), (93756, .cells [.str [], .str [111, 110, 101]]), (94208, .cells [.sym .u8 259, .sym .u8 260, .sym .u8 261, .int .u8 32, .sym .u8 256,
    .sym .u8 257, .sym .u8 258, .int .u8 32, .int .u8 50, .int .u8 10, .int .u8 32, .int .u8 111, .int .u8 110, .int .u8 101, .int .u8 32, .int .u8 50, .int .u8 10])]
  n' := 94262
theorem runC33N0 : memoRun I [mS19, mS8] 100000 mC33N0 = some doneR := by kernel_rfl
theorem okC33N0 (hv : Digits val) : MemoOk Tryz.prog val mC33N0 := memoRun_ok (sound hv (allOk_cons (okS19 hv) (allOk_cons (okS8 hv) allOk_nil)) _) runC33N0
noncomputable def mC33N1 : Memo where
  k := 34
  args := [.agg [.sl 4 92854 0 1, .nils, .str [32, 111, 110, 101], .sl 1 93756 0 2, .int .i64 2, .sl 1 94208 0 17, .int .i64 90, .int .i64 0, .int .i64 0, .int .i64 0, .int .i64 0]]
  ins := [(92854, .cells [.str [120], .int .i64 2, .int .i64 0, .str [111, 110, 101]]), (93756, .cells [.str [], .str [111, 110, 101]]), (94208, .cells [.sym .u8 259, .sym .u8 260,
    .sym .u8 261, .int .u8 32, .sym .u8 256, .sym .u8 257, .sym .u8 258, .int .u8 32, .int .u8 50, .int .u8 10, .int .u8 32, .int .u8 111, .int .u8 110, .int .u8 101, .int .u8 32,
    .int .u8 50, .int .u8 10])]
  n := 94262
  d := .str [259, 260, 261, 32, 256, 257, 258, 32, 50, 10, 32, 111, 110, 101, 32, 50, 10]
  outs := [(92854, .cells [.str [120], .int .i64 2, .int .i64 0, .str [111, 110, 101]]), (93756, .cells [.str [], .str [111, 110, 101]]), (94208, .cells [.sym .u8 259, .sym .u8 260,
    .sym .u8 261, .int .u8 32, .sym .u8 256, .sym .u8 257, .sym .u8 258, .int .u8 32, .int .u8 50, .int .u8 10, .int .u8 32, .int .u8 111, .int .u8 110, .int .u8 101, .int .u8 32,
    .int .u8 50, .int .u8 10])]
  n' := 94283
theorem runC33N1 : memoRun I [] 100000 mC33N1 = some doneR := by kernel_rfl
theorem okC33N1 (hv : Digits val) : MemoOk Tryz.prog val mC33N1 := memoRun_ok (sound hv allOk_nil _) runC33N1
noncomputable def mC33N2 : Memo where
  k := 80
  args := [.agg [.sl 3 42561 0 4, .nils, .int .i64 1, .int .i64 0, .sl 2 65109 0 3], .int .i64 100]
  ins := [(42561, .cells [.int .i64 0, .int .i64 0, .str [], .int .i64 1, .int .i64 0, .str [], .int .i64 1, .int .i64 1, .str [], .int .i64 1, .int .i64 2, .str []]), (65076,
    .cells [.int .i64 2, .int .i64 0, .int .i64 33, .int .i64 0]), (65091, .cells [.int .i64 1, .int .i64 0, .int .i64 2, .int .i64 2, .int .i64 22, .int .i64 0, .int .i64 4,
    .int .i64 0, .int .i64 1, .int .i64 0, .int .i64 2, .int .i64 2, .int .i64 2, .int .i64 3, .int .i64 22, .int .i64 0, .int .i64 23, .int .i64 0, .int .i64 1, .int .i64 0,
    .int .i64 2, .int .i64 3, .int .i64 3, .int .i64 0, .int .i64 23, .int .i64 0, .int .i64 1, .int .i64 0, .int .i64 2, .int .i64 1, .int .i64 22, .int .i64 0, .int .i64 31,
    .int .i64 0, .int .i64 34, .int .i64 2, .int .i64 2, .int .i64 0, .int .i64 33, .int .i64 0]), (65106, .cells [.int .i64 2, .int .i64 0, .int .i64 33, .int .i64 0]), (65109,
    .cells [.int .i64 0, .sl 2 65076 0 2, .int .i64 0, .sl 2 65091 0 20, .int .i64 0, .sl 2 65106 0 2])]
  n := 94288
  d := .agg [.sl 4 104473 0 1, .sl 1 104441 0 1, .sl 1 104376 0 0, .nils, .str [], .nils, .int .i64 0, .nils, .int .i64 100, .int .i64 0, .int .i64 0, .int .i64 0, .bool false]
  outs := [(42561, .cells [.int .i64 0, .int .i64 0, .str [], .int .i64 1, .int .i64 0, .str [], .int .i64 1, .int .i64 1, .str [], .int .i64 1, .int .i64 2, .str []]), (65076,
    .cells [.int .i64 2, .int .i64 0, .int .i64 33, .int .i64 0]), (65091, .cells [.int .i64 1, .int .i64 0, .int .i64 2, .int .i64 2, .int .i64 22, .int .i64 0, .int .i64 4,
    .int .i64 0, .int .i64 1, .int .i64 0, .int .i64 2, .int .i64 2, .int .i64 2, .int .i64 3, .int .i64 22, .int .i64 0, .int .i64 23, .int .i64 0, .int .i64 1, .int .i64 0,
    .int .i64 2, .int .i64 3, .int .i64 3, .int .i64 0, .int .i64 23, .int .i64 0, .int .i64 1, .int .i64 0, .int .i64 2, .int .i64 1, .int .i64 22, .int .i64 0, .int .i64 31,
    .int .i64 0, .int .i64 34, .int .i64 2, .int .i64 2, .int .i64 0, .int .i64 33, .int .i64 0]), (65106, .cells [.int .i64 2, .int .i64 0, .int .i64 33, .int .i64 0]), (65109,
    .cells [.int .i64 0, .sl 2 65076 0 2, .int .i64 0, .sl 2 65091 0 20, .int .i64 0, .sl 2 65106 0 2]), (104376, .cells []), (104441, .cells [.int .i64 0]), (104473,
    .cells [.int .i64 1, .int .i64 0, .int .i64 0, .str []])]
  n' := 104497
theorem runC33N2 : memoRun I [mS16] 100000 mC33N2 = some doneR := by kernel_rfl
theorem okC33N2 (hv : Digits val) : MemoOk Tryz.prog val mC33N2 := memoRun_ok (sound hv (allOk_cons (okS16 hv) allOk_nil) _) runC33N2
noncomputable def mC33N3 : Memo where
  k := 81
  args := [.agg [.sl 3 42561 0 4, .nils, .int .i64 1, .int .i64 0, .sl 2 65109 0 3], .agg [.sl 4 104473 0 1, .sl 1 104441 0 1, .sl 1 104376 0 0, .nils, .str [], .nils, .int .i64 0, .nils,
    .int .i64 100, .int .i64 0, .int .i64 0, .int .i64 0, .bool false], .int .i64 0]
  ins := [(42561, .cells [.int .i64 0, .int .i64 0, .str [], .int .i64 1, .int .i64 0, .str [], .int .i64 1, .int .i64 1, .str [], .int .i64 1, .int .i64 2, .str []]), (65076,
    .cells [.int .i64 2, .int .i64 0, .int .i64 33, .int .i64 0]), (65091, .cells [.int .i64 1, .int .i64 0, .int .i64 2, .int .i64 2, .int .i64 22, .int .i64 0, .int .i64 4,
    .int .i64 0, .int .i64 1, .int .i64 0, .int .i64 2, .int .i64 2, .int .i64 2, .int .i64 3, .int .i64 22, .int .i64 0, .int .i64 23, .int .i64 0, .int .i64 1, .int .i64 0,
    .int .i64 2, .int .i64 3, .int .i64 3, .int .i64 0, .int .i64 23, .int .i64 0, .int .i64 1, .int .i64 0, .int .i64 2, .int .i64 1, .int .i64 22, .int .i64 0, .int .i64 31,
    .int .i64 0, .int .i64 34, .int .i64 2, .int .i64 2, .int .i64 0, .int .i64 33, .int .i64 0]), (65106, .cells [.int .i64 2, .int .i64 0, .int .i64 33, .int .i64 0]), (65109,
    .cells [.int .i64 0, .sl 2 65076 0 2, .int .i64 0, .sl 2 65091 0 20, .int .i64 0, .sl 2 65106 0 2]), (104376, .cells []), (104441, .cells [.int .i64 0]), (104473,
    .cells [.int .i64 1, .int .i64 0, .int .i64 0, .str []])]
  n := 114595
  d := .agg [.sl 4 115154 0 2, .sl 1 114674 0 1, .nils, .sl 6 114720 0 0, .str [], .nils, .int .i64 0, .nils, .int .i64 100, .int .i64 0, .int .i64 0, .int .i64 0, .bool false]
  outs := [(42561, .cells [.int .i64 0, .int .i64 0, .str [], .int .i64 1, .int .i64 0, .str [], .int .i64 1, .int .i64 1, .str [], .int .i64 1, .int .i64 2, .str []]), (65076,
    .cells [.int .i64 2, .int .i64 0, .int .i64 33, .int .i64 0]), (65091, .cells [.int .i64 1, .int .i64 0, .int .i64 2, .int .i64 2, .int .i64 22, .int .i64 0, .int .i64 4,
    .int .i64 0, .int .i64 1, .int .i64 0, .int .i64 2, .int .i64 2, .int .i64 2, .int .i64 3, .int .i64 22, .int .i64 0, .int .i64 23, .int .i64 0, .int .i64 1, .int .i64 0,
    .int .i64 2, .int .i64 3, .int .i64 3, .int .i64 0, .int .i64 23, .int .i64 0, .int .i64 1, .int .i64 0, .int .i64 2, .int .i64 1, .int .i64 22, .int .i64 0, .int .i64 31,
    .int .i64 0, .int .i64 34, .int .i64 2, .int .i64 2, .int .i64 0, .int .i64 33, .int .i64 0]), (65106, .cells [.int .i64 2, .int .i64 0, .int .i64 33, .int .i64 0]), (65109,
    .cells [.int .i64 0, .sl 2 65076 0 2, .int .i64 0, .sl 2 65091 0 20, .int .i64 0, .sl 2 65106 0 2]), (104376, .cells []), (104441, .cells [.int .i64 0]), (104473,
    .cells [.int .i64 1, .int .i64 0, .int .i64 0, .str []]), (114674, .cells [.int .i64 0]), (114720, .cells [.int .i64 0, .int .i64 2, .nils, .sl 2 115183 0 0, .nils, .nils]),
    (115154, .cells [.int .i64 1, .int .i64 0, .int .i64 0, .str [], .int .i64 0, .int .i64 0, .int .i64 0, .str []]), (115183, .cells [.bool false, .int .i64 1])]
  n' := 115700
theorem runC33N3 : memoRun I [] 100000 mC33N3 = some doneR := by kernel_rfl
theorem okC33N3 (hv : Digits val) : MemoOk Tryz.prog val mC33N3 := memoRun_ok (sound hv allOk_nil _) runC33N3
noncomputable def mC33N4 : Memo where
  k := 81
  args := [.agg [.sl 3 42561 0 4, .nils, .int .i64 1, .int .i64 0, .sl 2 65109 0 3], .agg [.sl 4 115154 0 2, .sl 1 114674 0 1, .nils, .sl 6 114720 0 0, .str [256, 257, 258, 32, 32, 259, 260,
    261], .sl 1 115973 0 2, .int .i64 1, .nils, .int .i64 99, .int .i64 0, .int .i64 0, .int .i64 0, .bool false], .int .i64 1]
  ins := [(42561, .cells [.int .i64 0, .int .i64 0, .str [], .int .i64 1, .int .i64 0, .str [], .int .i64 1, .int .i64 1, .str [], .int .i64 1, .int .i64 2, .str []]), (65076,
    .cells [.int .i64 2, .int .i64 0, .int .i64 33, .int .i64 0]), (65091, .cells [.int .i64 1, .int .i64 0, .int .i64 2, .int .i64 2, .int .i64 22, .int .i64 0, .int .i64 4,
    .int .i64 0, .int .i64 1, .int .i64 0, .int .i64 2, .int .i64 2, .int .i64 2, .int .i64 3, .int .i64 22, .int .i64 0, .int .i64 23, .int .i64 0, .int .i64 1, .int .i64 0,
    .int .i64 2, .int .i64 3, .int .i64 3, .int .i64 0, .int .i64 23, .int .i64 0, .int .i64 1, .int .i64 0, .int .i64 2, .int .i64 1, .int .i64 22, .int .i64 0, .int .i64 31,
    .int .i64 0, .int .i64 34, .int .i64 2, .int .i64 2, .int .i64 0, .int .i64 33, .int .i64 0]), (65106, .cells [.int .i64 2, .int .i64 0, .int .i64 33, .int .i64 0]), (65109,
    .cells [.int .i64 0, .sl 2 65076 0 2, .int .i64 0, .sl 2 65091 0 20, .int .i64 0, .sl 2 65106 0 2]), (114674, .cells [.int .i64 0]), (114720, .cells [.int .i64 0, .int .i64 2,
    .nils, .sl 2 115183 0 0, .nils, .nils]), (115154, .cells [.int .i64 1, .int .i64 0, .int .i64 0, .str [], .int .i64 0, .int .i64 0, .int .i64 0, .str []]), (115183,
    .cells [.bool false, .int .i64 1]), (115973, .cells [.str [256, 257, 258], .str [259, 260, 261]])]
  n := 115988
  d := .agg [.sl 4 118900 0 3, .sl 1 116067 0 1, .nils, .sl 6 116113 0 0, .str [259, 260, 261, 32, 256, 257, 258], .sl 1 121788 0 2, .int .i64 1, .sl 1 124421 0 10, .int .i64 95,
    .int .i64 0, .int .i64 0, .int .i64 0, .bool false]
  outs := [(42561, .cells [.int .i64 0, .int .i64 0, .str [], .int .i64 1, .int .i64 0, .str [], .int .i64 1, .int .i64 1, .str [], .int .i64 1, .int .i64 2, .str []]), (65076,
    .cells [.int .i64 2, .int .i64 0, .int .i64 33, .int .i64 0]), (65091, .cells [.int .i64 1, .int .i64 0, .int .i64 2, .int .i64 2, .int .i64 22, .int .i64 0, .int .i64 4,
    .int .i64 0, .int .i64 1, .int .i64 0, .int .i64 2, .int .i64 2, .int .i64 2, .int .i64 3, .int .i64 22, .int .i64 0, .int .i64 23, .int .i64 0, .int .i64 1, .int .i64 0,
    .int .i64 2, .int .i64 3, .int .i64 3, .int .i64 0, .int .i64 23, .int .i64 0, .int .i64 1, .int .i64 0, .int .i64 2, .int .i64 1, .int .i64 22, .int .i64 0, .int .i64 31,
    .int .i64 0, .int .i64 34, .int .i64 2, .int .i64 2, .int .i64 0, .int .i64 33, .int .i64 0]), (65106, .cells [.int .i64 2, .int .i64 0, .int .i64 33, .int .i64 0]), (65109,
    .cells [.int .i64 0, .sl 2 65076 0 2, .int .i64 0, .sl 2 65091 0 20, .int .i64 0, .sl 2 65106 0 2]), (114674, .cells [.int .i64 0]), (114720, .cells [.int .i64 0, .int .i64 2,
    .nils, .sl 2 115183 0 0, .nils, .nils]), (115154, .cells [.int .i64 1, .int .i64 0, .int .i64 0, .str [], .int .i64 0, .int .i64 0, .int .i64 0, .str []]), (115183,
    .cells [.bool false, .int .i64 1]), (115973, .cells [.str [256, 257, 258], .str [259, 260, 261]]), (116067, .cells [.int .i64 1]), (116113, .cells [.int .i64 1, .int .i64 20,
    .nils, .sl 2 124870 0 0, .nils, .nils]), (118900, .cells [.int .i64 0, .int .i64 0, .int .i64 0, .str [], .int .i64 1, .int .i64 2, .int .i64 0, .str [256, 257, 258],
    .int .i64 0, .int .i64 0, .int .i64 0, .str []]), (121788, .cells [.str [259, 260, 261], .str [256, 257, 258]]), (124421, .cells [.sym .u8 259, .sym .u8 260, .sym .u8 261,
    .int .u8 32, .sym .u8 256, .sym .u8 257, .sym .u8 258, .int .u8 32, .int .u8 50, .int .u8 10]), (124870, .cells [.bool false, .int .i64 0])]
  n' := 125387
theorem runC33N4 : memoRun I [] 100000 mC33N4 = some doneR := by kernel_rfl
theorem okC33N4 (hv : Digits val) : MemoOk Tryz.prog val mC33N4 := memoRun_ok (sound hv allOk_nil _) runC33N4
noncomputable def mC33N5 : Memo where
  k := 81
  args := [.agg [.sl 3 42561 0 4, .nils, .int .i64 1, .int .i64 0, .sl 2 65109 0 3], .agg [.sl 4 118900 0 3, .sl 1 116067 0 1, .nils, .sl 6 116113 0 0, .str [111, 110, 101], .sl 1 125533 0 1,
    .int .i64 2, .sl 1 124421 0 10, .int .i64 94, .int .i64 0, .int .i64 0, .int .i64 0, .bool false], .int .i64 1]
  ins := [(42561, .cells [.int .i64 0, .int .i64 0, .str [], .int .i64 1, .int .i64 0, .str [], .int .i64 1, .int .i64 1, .str [], .int .i64 1, .int .i64 2, .str []]), (65076,
    .cells [.int .i64 2, .int .i64 0, .int .i64 33, .int .i64 0]), (65091, .cells [.int .i64 1, .int .i64 0, .int .i64 2, .int .i64 2, .int .i64 22, .int .i64 0, .int .i64 4,
    .int .i64 0, .int .i64 1, .int .i64 0, .int .i64 2, .int .i64 2, .int .i64 2, .int .i64 3, .int .i64 22, .int .i64 0, .int .i64 23, .int .i64 0, .int .i64 1, .int .i64 0,
    .int .i64 2, .int .i64 3, .int .i64 3, .int .i64 0, .int .i64 23, .int .i64 0, .int .i64 1, .int .i64 0, .int .i64 2, .int .i64 1, .int .i64 22, .int .i64 0, .int .i64 31,
    .int .i64 0, .int .i64 34, .int .i64 2, .int .i64 2, .int .i64 0, .int .i64 33, .int .i64 0]), (65106, .cells [.int .i64 2, .int .i64 0, .int .i64 33, .int .i64 0]), (65109,
    .cells [.int .i64 0, .sl 2 65076 0 2, .int .i64 0, .sl 2 65091 0 20, .int .i64 0, .sl 2 65106 0 2]), (116067, .cells [.int .i64 1]), (116113, .cells [.int .i64 1, .int .i64 20,
    .nils, .sl 2 124870 0 0, .nils, .nils]), (118900, .cells [.int .i64 0, .int .i64 0, .int .i64 0, .str [], .int .i64 1, .int .i64 2, .int .i64 0, .str [256, 257, 258],
    .int .i64 0, .int .i64 0, .int .i64 0, .str []]), (124421, .cells [.sym .u8 259, .sym .u8 260, .sym .u8 261, .int .u8 32, .sym .u8 256, .sym .u8 257, .sym .u8 258, .int .u8 32,
    .int .u8 50, .int .u8 10]), (124870, .cells [.bool false, .int .i64 0]), (125533, .cells [.str [111, 110, 101]])]
  n := 125548
  d := .agg [.sl 4 125617 0 3, .sl 1 125627 0 1, .nils, .sl 6 125673 0 0, .str [32, 111, 110, 101], .sl 1 131337 0 2, .int .i64 2, .sl 1 134000 0 17, .int .i64 90, .int .i64 0,
    .int .i64 0, .int .i64 0, .bool false]
  outs := [(42561, .cells [.int .i64 0, .int .i64 0, .str [], .int .i64 1, .int .i64 0, .str [], .int .i64 1, .int .i64 1, .str [], .int .i64 1, .int .i64 2, .str []]), (65076,
    .cells [.int .i64 2, .int .i64 0, .int .i64 33, .int .i64 0]), (65091, .cells [.int .i64 1, .int .i64 0, .int .i64 2, .int .i64 2, .int .i64 22, .int .i64 0, .int .i64 4,
    .int .i64 0, .int .i64 1, .int .i64 0, .int .i64 2, .int .i64 2, .int .i64 2, .int .i64 3, .int .i64 22, .int .i64 0, .int .i64 23, .int .i64 0, .int .i64 1, .int .i64 0,
    .int .i64 2, .int .i64 3, .int .i64 3, .int .i64 0, .int .i64 23, .int .i64 0, .int .i64 1, .int .i64 0, .int .i64 2, .int .i64 1, .int .i64 22, .int .i64 0, .int .i64 31,
    .int .i64 0, .int .i64 34, .int .i64 2, .int .i64 2, .int .i64 0, .int .i64 33, .int .i64 0]), (65106, .cells [.int .i64 2, .int .i64 0, .int .i64 33, .int .i64 0]), (65109,
    .cells [.int .i64 0, .sl 2 65076 0 2, .int .i64 0, .sl 2 65091 0 20, .int .i64 0, .sl 2 65106 0 2]), (116067, .cells [.int .i64 1]), (116113, .cells [.int .i64 1, .int .i64 20,
    .nils, .sl 2 124870 0 0, .nils, .nils]), (118900, .cells [.int .i64 0, .int .i64 0, .int .i64 0, .str [], .int .i64 1, .int .i64 2, .int .i64 0, .str [256, 257, 258],
    .int .i64 0, .int .i64 0, .int .i64 0, .str []]), (124421, .cells [.sym .u8 259, .sym .u8 260, .sym .u8 261, .int .u8 32, .sym .u8 256, .sym .u8 257, .sym .u8 258, .int .u8 32,
    .int .u8 50, .int .u8 10]), (124870, .cells [.bool false, .int .i64 0]), (125533, .cells [.str [111, 110, 101]]), (125617, .cells [.int .i64 1, .int .i64 2, .int .i64 0,
    .str [111, 110, 101], .int .i64 0, .int .i64 0, .int .i64 0, .str [], .int .i64 0, .int .i64 0, .int .i64 0, .str []]), (125627, .cells [.int .i64 0]), (125673,
    .cells [.int .i64 1, .int .i64 20, .nils, .sl 2 134466 0 0, .nils, .nils]), (131337, .cells [.str [], .str [111, 110, 101]]), (134000, .cells [.sym .u8 259, .sym .u8 260,
    .sym .u8 261, .int .u8 32, .sym .u8 256, .sym .u8 257, .sym .u8 258, .int .u8 32, .int .u8 50, .int .u8 10, .int .u8 32, .int .u8 111, .int .u8 110, .int .u8 101, .int .u8 32,
    .int .u8 50, .int .u8 10]), (134466, .cells [.bool false, .int .i64 1])]
  n' := 134983
theorem runC33N5 : memoRun I [] 100000 mC33N5 = some doneR := by kernel_rfl
theorem okC33N5 (hv : Digits val) : MemoOk Tryz.prog val mC33N5 := memoRun_ok (sound hv allOk_nil _) runC33N5
noncomputable def mC33N6 : Memo where
  k := 81
  args := [.agg [.sl 3 42561 0 4, .nils, .int .i64 1, .int .i64 0, .sl 2 65109 0 3], .agg [.sl 4 125617 0 3, .sl 1 125627 0 1, .nils, .sl 6 125673 0 0, .str [32, 111, 110, 101],
    .sl 1 131337 0 2, .int .i64 2, .sl 1 134000 0 17, .int .i64 90, .int .i64 0, .int .i64 0, .int .i64 0, .bool false], .int .i64 2]
  ins := [(42561, .cells [.int .i64 0, .int .i64 0, .str [], .int .i64 1, .int .i64 0, .str [], .int .i64 1, .int .i64 1, .str [], .int .i64 1, .int .i64 2, .str []]), (65076,
    .cells [.int .i64 2, .int .i64 0, .int .i64 33, .int .i64 0]), (65091, .cells [.int .i64 1, .int .i64 0, .int .i64 2, .int .i64 2, .int .i64 22, .int .i64 0, .int .i64 4,
    .int .i64 0, .int .i64 1, .int .i64 0, .int .i64 2, .int .i64 2, .int .i64 2, .int .i64 3, .int .i64 22, .int .i64 0, .int .i64 23, .int .i64 0, .int .i64 1, .int .i64 0,
    .int .i64 2, .int .i64 3, .int .i64 3, .int .i64 0, .int .i64 23, .int .i64 0, .int .i64 1, .int .i64 0, .int .i64 2, .int .i64 1, .int .i64 22, .int .i64 0, .int .i64 31,
    .int .i64 0, .int .i64 34, .int .i64 2, .int .i64 2, .int .i64 0, .int .i64 33, .int .i64 0]), (65106, .cells [.int .i64 2, .int .i64 0, .int .i64 33, .int .i64 0]), (65109,
    .cells [.int .i64 0, .sl 2 65076 0 2, .int .i64 0, .sl 2 65091 0 20, .int .i64 0, .sl 2 65106 0 2]), (125617, .cells [.int .i64 1, .int .i64 2, .int .i64 0, .str [111, 110,
    101], .int .i64 0, .int .i64 0, .int .i64 0, .str [], .int .i64 0, .int .i64 0, .int .i64 0, .str []]), (125627, .cells [.int .i64 0]), (125673, .cells [.int .i64 1,
    .int .i64 20, .nils, .sl 2 134466 0 0, .nils, .nils]), (131337, .cells [.str [], .str [111, 110, 101]]), (134000, .cells [.sym .u8 259, .sym .u8 260, .sym .u8 261, .int .u8 32,
    .sym .u8 256, .sym .u8 257, .sym .u8 258, .int .u8 32, .int .u8 50, .int .u8 10, .int .u8 32, .int .u8 111, .int .u8 110, .int .u8 101, .int .u8 32, .int .u8 50, .int .u8 10]),
    (134466, .cells [.bool false, .int .i64 1])]
  n := 134991
  d := .agg [.sl 4 135060 0 3, .sl 1 135070 0 1, .nils, .sl 6 135116 0 0, .str [32, 111, 110, 101], .sl 1 135081 0 2, .int .i64 2, .sl 1 135090 0 17, .int .i64 90, .int .i64 0,
    .int .i64 0, .int .i64 0, .bool false]
  outs := [(42561, .cells [.int .i64 0, .int .i64 0, .str [], .int .i64 1, .int .i64 0, .str [], .int .i64 1, .int .i64 1, .str [], .int .i64 1, .int .i64 2, .str []]), (65076,
    .cells [.int .i64 2, .int .i64 0, .int .i64 33, .int .i64 0]), (65091, .cells [.int .i64 1, .int .i64 0, .int .i64 2, .int .i64 2, .int .i64 22, .int .i64 0, .int .i64 4,
    .int .i64 0, .int .i64 1, .int .i64 0, .int .i64 2, .int .i64 2, .int .i64 2, .int .i64 3, .int .i64 22, .int .i64 0, .int .i64 23, .int .i64 0, .int .i64 1, .int .i64 0,
    .int .i64 2, .int .i64 3, .int .i64 3, .int .i64 0, .int .i64 23, .int .i64 0, .int .i64 1, .int .i64 0, .int .i64 2, .int .i64 1, .int .i64 22, .int .i64 0, .int .i64 31,
    .int .i64 0, .int .i64 34, .int .i64 2, .int .i64 2, .int .i64 0, .int .i64 33, .int .i64 0]), (65106, .cells [.int .i64 2, .int .i64 0, .int .i64 33, .int .i64 0]), (65109,
    .cells [.int .i64 0, .sl 2 65076 0 2, .int .i64 0, .sl 2 65091 0 20, .int .i64 0, .sl 2 65106 0 2]), (125617, .cells [.int .i64 1, .int .i64 2, .int .i64 0, .str [111, 110,
    101], .int .i64 0, .int .i64 0, .int .i64 0, .str [], .int .i64 0, .int .i64 0, .int .i64 0, .str []]), (125627, .cells [.int .i64 0]), (125673, .cells [.int .i64 1,
    .int .i64 20, .nils, .sl 2 134466 0 0, .nils, .nils]), (131337, .cells [.str [], .str [111, 110, 101]]), (134000, .cells [.sym .u8 259, .sym .u8 260, .sym .u8 261, .int .u8 32,
    .sym .u8 256, .sym .u8 257, .sym .u8 258, .int .u8 32, .int .u8 50, .int .u8 10, .int .u8 32, .int .u8 111, .int .u8 110, .int .u8 101, .int .u8 32, .int .u8 50, .int .u8 10]),
    (134466, .cells [.bool false, .int .i64 1]), (135060, .cells [.int .i64 1, .int .i64 2, .int .i64 0, .str [111, 110, 101], .int .i64 0, .int .i64 0, .int .i64 0, .str [],
    .int .i64 0, .int .i64 0, .int .i64 0, .str []]), (135070, .cells [.int .i64 0]), (135081, .cells [.str [], .str [111, 110, 101]]), (135090, .cells [.sym .u8 259, .sym .u8 260,
    .sym .u8 261, .int .u8 32, .sym .u8 256, .sym .u8 257, .sym .u8 258, .int .u8 32, .int .u8 50, .int .u8 10, .int .u8 32, .int .u8 111, .int .u8 110, .int .u8 101, .int .u8 32,
    .int .u8 50, .int .u8 10]), (135116, .cells [.int .i64 2, .int .i64 2, .nils, .sl 2 135577 0 0, .nils, .nils]), (135577, .cells [.bool false, .int .i64 1])]
  n' := 136094
theorem runC33N6 : memoRun I [] 100000 mC33N6 = some doneR := by kernel_rfl
theorem okC33N6 (hv : Digits val) : MemoOk Tryz.prog val mC33N6 := memoRun_ok (sound hv allOk_nil _) runC33N6
noncomputable def mC33N7 : Memo where
  k := 37
  args := [.agg [.sl 3 42561 0 4, .nils, .int .i64 1, .int .i64 0, .sl 2 65109 0 3], .sl 1 0 0 2, .int .i64 100]
  ins := [(0, .cells [.str [256, 257, 258, 32, 32, 259, 260, 261], .str [111, 110, 101]]), (42561, .cells [.int .i64 0, .int .i64 0, .str [], .int .i64 1, .int .i64 0, .str [], .int .i64 1,
    .int .i64 1, .str [], .int .i64 1, .int .i64 2, .str []]), (65076, .cells [.int .i64 2, .int .i64 0, .int .i64 33, .int .i64 0]), (65091, .cells [.int .i64 1, .int .i64 0,
    .int .i64 2, .int .i64 2, .int .i64 22, .int .i64 0, .int .i64 4, .int .i64 0, .int .i64 1, .int .i64 0, .int .i64 2, .int .i64 2, .int .i64 2, .int .i64 3, .int .i64 22,
    .int .i64 0, .int .i64 23, .int .i64 0, .int .i64 1, .int .i64 0, .int .i64 2, .int .i64 3, .int .i64 3, .int .i64 0, .int .i64 23, .int .i64 0, .int .i64 1, .int .i64 0,
    .int .i64 2, .int .i64 1, .int .i64 22, .int .i64 0, .int .i64 31, .int .i64 0, .int .i64 34, .int .i64 2, .int .i64 2, .int .i64 0, .int .i64 33, .int .i64 0]), (65106,
    .cells [.int .i64 2, .int .i64 0, .int .i64 33, .int .i64 0]), (65109, .cells [.int .i64 0, .sl 2 65076 0 2, .int .i64 0, .sl 2 65091 0 20, .int .i64 0, .sl 2 65106 0 2])]
  n := 94283
  d := .agg [.sl 4 135060 0 3, .sl 1 135070 0 1, .nils, .sl 6 135116 0 0, .str [32, 111, 110, 101], .sl 1 135081 0 2, .int .i64 2, .sl 1 135090 0 17, .int .i64 90, .int .i64 0,
    .int .i64 0, .int .i64 0, .bool false]
  outs := [(0, .cells [.str [256, 257, 258, 32, 32, 259, 260, 261], .str [111, 110, 101]]), (42561, .cells [.int .i64 0, .int .i64 0, .str [], .int .i64 1, .int .i64 0, .str [], .int .i64 1,
    .int .i64 1, .str [], .int .i64 1, .int .i64 2, .str []]), (65076, .cells [.int .i64 2, .int .i64 0, .int .i64 33, .int .i64 0]), (65091, .cells [.int .i64 1, .int .i64 0,
    .int .i64 2, .int .i64 2, .int .i64 22, .int .i64 0, .int .i64 4, .int .i64 0, .int .i64 1, .int .i64 0, .int .i64 2, .int .i64 2, .int .i64 2, .int .i64 3, .int .i64 22,
    .int .i64 0, .int .i64 23, .int .i64 0, .int .i64 1, .int .i64 0, .int .i64 2, .int .i64 3, .int .i64 3, .int .i64 0, .int .i64 23, .int .i64 0, .int .i64 1, .int .i64 0,
    .int .i64 2, .int .i64 1, .int .i64 22, .int .i64 0, .int .i64 31, .int .i64 0, .int .i64 34, .int .i64 2, .int .i64 2, .int .i64 0, .int .i64 33, .int .i64 0]), (65106,
    .cells [.int .i64 2, .int .i64 0, .int .i64 33, .int .i64 0]), (65109, .cells [.int .i64 0, .sl 2 65076 0 2, .int .i64 0, .sl 2 65091 0 20, .int .i64 0, .sl 2 65106 0 2]),
    (135060, .cells [.int .i64 1, .int .i64 2, .int .i64 0, .str [111, 110, 101], .int .i64 0, .int .i64 0, .int .i64 0, .str [], .int .i64 0, .int .i64 0, .int .i64 0, .str []]),
    (135070, .cells [.int .i64 0]), (135081, .cells [.str [], .str [111, 110, 101]]), (135090, .cells [.sym .u8 259, .sym .u8 260, .sym .u8 261, .int .u8 32, .sym .u8 256,
    .sym .u8 257, .sym .u8 258, .int .u8 32, .int .u8 50, .int .u8 10, .int .u8 32, .int .u8 111, .int .u8 110, .int .u8 101, .int .u8 32, .int .u8 50, .int .u8 10]), (135116,
    .cells [.int .i64 2, .int .i64 2, .nils, .sl 2 135577 0 0, .nils, .nils]), (135577, .cells [.bool false, .int .i64 1])]
  n' := 136095
theorem runC33N7 : memoRun I [mC33N2, mS16, mC33N3, mC33N4, mC33N5, mC33N6] 100000 mC33N7 = some doneR := by kernel_rfl
theorem okC33N7 (hv : Digits val) : MemoOk Tryz.prog val mC33N7 := memoRun_ok (sound hv (allOk_cons (okC33N2 hv) (allOk_cons (okS16 hv) (allOk_cons (okC33N3 hv) (allOk_cons (okC33N4 hv) (allOk_cons (okC33N5 hv) (allOk_cons (okC33N6 hv) allOk_nil)))))) _) runC33N7
noncomputable def mC33N8 : Memo where
  k := 36
  args := [.agg [.sl 4 135060 0 3, .sl 1 135070 0 1, .nils, .sl 6 135116 0 0, .str [32, 111, 110, 101], .sl 1 135081 0 2, .int .i64 2, .sl 1 135090 0 17, .int .i64 90, .int .i64 0,
    .int .i64 0, .int .i64 0, .bool false]]
  ins := [(135060, .cells [.int .i64 1, .int .i64 2, .int .i64 0, .str [111, 110, 101], .int .i64 0, .int .i64 0, .int .i64 0, .str [], .int .i64 0, .int .i64 0, .int .i64 0, .str []]),
    (135070, .cells [.int .i64 0]), (135081, .cells [.str [], .str [111, 110, 101]]), (135090, .cells [.sym .u8 259, .sym .u8 260, .sym .u8 261, .int .u8 32, .sym .u8 256,
    .sym .u8 257, .sym .u8 258, .int .u8 32, .int .u8 50, .int .u8 10, .int .u8 32, .int .u8 111, .int .u8 110, .int .u8 101, .int .u8 32, .int .u8 50, .int .u8 10]), (135116,
    .cells [.int .i64 2, .int .i64 2, .nils, .sl 2 135577 0 0, .nils, .nils]), (135577, .cells [.bool false, .int .i64 1])]
  n := 136095
  d := .str [259, 260, 261, 32, 256, 257, 258, 32, 50, 10, 32, 111, 110, 101, 32, 50, 10]
  outs := [(135060, .cells [.int .i64 1, .int .i64 2, .int .i64 0, .str [111, 110, 101], .int .i64 0, .int .i64 0, .int .i64 0, .str [], .int .i64 0, .int .i64 0, .int .i64 0, .str []]),
    (135070, .cells [.int .i64 0]), (135081, .cells [.str [], .str [111, 110, 101]]), (135090, .cells [.sym .u8 259, .sym .u8 260, .sym .u8 261, .int .u8 32, .sym .u8 256,
    .sym .u8 257, .sym .u8 258, .int .u8 32, .int .u8 50, .int .u8 10, .int .u8 32, .int .u8 111, .int .u8 110, .int .u8 101, .int .u8 32, .int .u8 50, .int .u8 10]), (135116,
    .cells [.int .i64 2, .int .i64 2, .nils, .sl 2 135577 0 0, .nils, .nils]), (135577, .cells [.bool false, .int .i64 1])]
  n' := 136116
theorem runC33N8 : memoRun I [] 100000 mC33N8 = some doneR := by kernel_rfl
theorem okC33N8 (hv : Digits val) : MemoOk Tryz.prog val mC33N8 := memoRun_ok (sound hv allOk_nil _) runC33N8
noncomputable def mC33 : Memo where
  k := 9
  args := [.str [123, 32, 120, 32, 61, 32, 36, 49, 59, 32, 36, 49, 32, 61, 32, 36, 50, 59, 32, 36, 50, 32, 61, 32, 120, 59, 32, 112, 114, 105, 110, 116, 32, 36, 48, 44, 32, 110, 102, 59, 32,
    125], .sl 1 0 0 2, .int .i64 100]
  ins := [(0, .cells [.str [256, 257, 258, 32, 32, 259, 260, 261], .str [111, 110, 101]])]
  n := 1
  d := .tup [.str [259, 260, 261, 32, 256, 257, 258, 32, 50, 10, 32, 111, 110, 101, 32, 50, 10], .bool true]
  outs := [(0, .cells [.str [256, 257, 258, 32, 32, 259, 260, 261], .str [111, 110, 101]])]
  n' := 136130
theorem runC33 : memoRun I [mS5, mS17, mC33N0, mC33N1, mC33N7, mC33N8] 100000 mC33 = some doneR := by kernel_rfl
theorem okC33 (hv : Digits val) : MemoOk Tryz.prog val mC33 := memoRun_ok (sound hv (allOk_cons (okS5 hv) (allOk_cons (okS17 hv) (allOk_cons (okC33N0 hv) (allOk_cons (okC33N1 hv) (allOk_cons (okC33N7 hv) (allOk_cons (okC33N8 hv) allOk_nil)))))) _) runC33
end Go.Gh
