import Derived.Test.YtidododdhnbpkaaGreatDoorGhK3
/- The program run where the numbers have 1 and 3 digits. -/
set_option maxRecDepth 1000000
set_option linter.unusedVariables false
namespace Go.Gh
open Go.Proofs
variable {val : Nat → UInt8}
noncomputable def mC13N0 : Memo where
  k := 35
  args := [.agg [.sl 6 6725 0 1, .nils], .sl 1 0 0 2, .int .i64 100]
  ins := [(0, .cells [.str [256, 32, 32, 257, 258, 259], .str [111, 110, 101]]), (6725, .cells [.int .i64 3, .int .i64 0, .int .i64 0, .str [], .nils, .sl 6 9933 0 4]), (7827,
    .cells [.int .i64 1, .int .i64 1, .str [], .nils]), (7963, .cells [.int .i64 5, .int .i64 0, .str [], .sl 4 7827 0 1]), (8415, .cells [.int .i64 1, .int .i64 2, .str [],
    .nils]), (8553, .cells [.int .i64 1, .int .i64 1, .str [], .nils, .int .i64 5, .int .i64 0, .str [], .sl 4 8415 0 1]), (9164, .cells [.int .i64 1, .int .i64 2, .str [], .nils,
    .int .i64 3, .int .i64 0, .str [120], .nils]), (9485, .cells [.int .i64 1, .int .i64 0, .str [], .nils]), (9795, .cells [.int .i64 5, .int .i64 0, .str [], .sl 4 9485 0 1,
    .int .i64 15, .int .i64 0, .str [], .nils]), (9933, .cells [.int .i64 2, .str [120], .str [], .sl 4 7963 0 1, .nils, .nils, .int .i64 4, .str [], .str [], .sl 4 8553 0 2, .nils,
    .nils, .int .i64 4, .str [], .str [], .sl 4 9164 0 2, .nils, .nils, .int .i64 1, .str [], .str [], .sl 4 9795 0 2, .nils, .nils])]
  n := 75219
  d := .agg [.sl 4 92816 0 1, .nils, .str [32, 111, 110, 101], .sl 1 93718 0 2, .int .i64 2, .sl 1 94170 0 15, .int .i64 90, .int .i64 0, .int .i64 0, .int .i64 0, .int .i64 0]
  outs := [(0, .cells [.str [256, 32, 32, 257, 258, 259], .str [111, 110, 101]]), (6725, .cells [.int .i64 3, .int .i64 0, .int .i64 0, .str [], .nils, .sl 6 9933 0 4]), (7827,
    .cells [.int .i64 1, .int .i64 1, .str [], .nils]), (7963, .cells [.int .i64 5, .int .i64 0, .str [], .sl 4 7827 0 1]), (8415, .cells [.int .i64 1, .int .i64 2, .str [],
    .nils]), (8553, .cells [.int .i64 1, .int .i64 1, .str [], .nils, .int .i64 5, .int .i64 0, .str [], .sl 4 8415 0 1]), (9164, .cells [.int .i64 1, .int .i64 2, .str [], .nils,
    .int .i64 3, .int .i64 0, .str [120], .nils]), (9485, .cells [.int .i64 1, .int .i64 0, .str [], .nils]), (9795, .cells [.int .i64 5, .int .i64 0, .str [], .sl 4 9485 0 1,
    .int .i64 15, .int .i64 0, .str [], .nils]), (9933, .cells [.int .i64 2, .str [120], .str [], .sl 4 7963 0 1, .nils, .nils, .int .i64 4, .str [], .str [], .sl 4 8553 0 2, .nils,
    .nils, .int .i64 4, .str [], .str [], .sl 4 9164 0 2, .nils, .nils, .int .i64 1, .str [], .str [], .sl 4 9795 0 2, .nils, .nils]), (92816, .cells [.str [120], .int .i64 2,
    .int .i64 0, .str [111, 110, 101]]), (93718, .cells [.str [], .str [111, 110, 101]]), (94170, .cells [.sym .u8 257, .sym .u8 258, .sym .u8 259, .int .u8 32, .sym .u8 256,
    .int .u8 32, .int .u8 50, .int .u8 10, .int .u8 32, .int .u8 111, .int .u8 110, .int .u8 101, .int .u8 32, .int .u8 50, .int .u8 10])]
  n' := 94224
theorem runC13N0 : memoRun I [mS19, mS8] 100000 mC13N0 = some doneR := by kernel_rfl
theorem okC13N0 (hv : Digits val) : MemoOk Tryz.prog val mC13N0 := memoRun_ok (sound hv (allOk_cons (okS19 hv) (allOk_cons (okS8 hv) allOk_nil)) _) runC13N0
noncomputable def mC13N1 : Memo where
  k := 34
  args := [.agg [.sl 4 92816 0 1, .nils, .str [32, 111, 110, 101], .sl 1 93718 0 2, .int .i64 2, .sl 1 94170 0 15, .int .i64 90, .int .i64 0, .int .i64 0, .int .i64 0, .int .i64 0]]
  ins := [(92816, .cells [.str [120], .int .i64 2, .int .i64 0, .str [111, 110, 101]]), (93718, .cells [.str [], .str [111, 110, 101]]), (94170, .cells [.sym .u8 257, .sym .u8 258,
    .sym .u8 259, .int .u8 32, .sym .u8 256, .int .u8 32, .int .u8 50, .int .u8 10, .int .u8 32, .int .u8 111, .int .u8 110, .int .u8 101, .int .u8 32, .int .u8 50, .int .u8 10])]
  n := 94224
  d := .str [257, 258, 259, 32, 256, 32, 50, 10, 32, 111, 110, 101, 32, 50, 10]
  outs := [(92816, .cells [.str [120], .int .i64 2, .int .i64 0, .str [111, 110, 101]]), (93718, .cells [.str [], .str [111, 110, 101]]), (94170, .cells [.sym .u8 257, .sym .u8 258,
    .sym .u8 259, .int .u8 32, .sym .u8 256, .int .u8 32, .int .u8 50, .int .u8 10, .int .u8 32, .int .u8 111, .int .u8 110, .int .u8 101, .int .u8 32, .int .u8 50, .int .u8 10])]
  n' := 94245
theorem runC13N1 : memoRun I [] 100000 mC13N1 = some doneR := by kernel_rfl
theorem okC13N1 (hv : Digits val) : MemoOk Tryz.prog val mC13N1 := memoRun_ok (sound hv allOk_nil _) runC13N1
noncomputable def mC13N2 : Memo where
  k := 80
  args := [.agg [.sl 3 42561 0 4, .nils, .int .i64 1, .int .i64 0, .sl 2 65109 0 3], .int .i64 100]
  ins := [(42561, .cells [.int .i64 0, .int .i64 0, .str [], .int .i64 1, .int .i64 0, .str [], .int .i64 1, .int .i64 1, .str [], .int .i64 1, .int .i64 2, .str []]), (65076,
    .cells [.int .i64 2, .int .i64 0, .int .i64 33, .int .i64 0]), (65091, .cells [.int .i64 1, .int .i64 0, .int .i64 2, .int .i64 2, .int .i64 22, .int .i64 0, .int .i64 4,
    .int .i64 0, .int .i64 1, .int .i64 0, .int .i64 2, .int .i64 2, .int .i64 2, .int .i64 3, .int .i64 22, .int .i64 0, .int .i64 23, .int .i64 0, .int .i64 1, .int .i64 0,
    .int .i64 2, .int .i64 3, .int .i64 3, .int .i64 0, .int .i64 23, .int .i64 0, .int .i64 1, .int .i64 0, .int .i64 2, .int .i64 1, .int .i64 22, .int .i64 0, .int .i64 31,
    .int .i64 0, .int .i64 34, .int .i64 2, .int .i64 2, .int .i64 0, .int .i64 33, .int .i64 0]), (65106, .cells [.int .i64 2, .int .i64 0, .int .i64 33, .int .i64 0]), (65109,
    .cells [.int .i64 0, .sl 2 65076 0 2, .int .i64 0, .sl 2 65091 0 20, .int .i64 0, .sl 2 65106 0 2])]
  n := 94250
  d := .agg [.sl 4 104435 0 1, .sl 1 104403 0 1, .sl 1 104338 0 0, .nils, .str [], .nils, .int .i64 0, .nils, .int .i64 100, .int .i64 0, .int .i64 0, .int .i64 0, .bool false]
  outs := [(42561, .cells [.int .i64 0, .int .i64 0, .str [], .int .i64 1, .int .i64 0, .str [], .int .i64 1, .int .i64 1, .str [], .int .i64 1, .int .i64 2, .str []]), (65076,
    .cells [.int .i64 2, .int .i64 0, .int .i64 33, .int .i64 0]), (65091, .cells [.int .i64 1, .int .i64 0, .int .i64 2, .int .i64 2, .int .i64 22, .int .i64 0, .int .i64 4,
    .int .i64 0, .int .i64 1, .int .i64 0, .int .i64 2, .int .i64 2, .int .i64 2, .int .i64 3, .int .i64 22, .int .i64 0, .int .i64 23, .int .i64 0, .int .i64 1, .int .i64 0,
    .int .i64 2, .int .i64 3, .int .i64 3, .int .i64 0, .int .i64 23, .int .i64 0, .int .i64 1, .int .i64 0, .int .i64 2, .int .i64 1, .int .i64 22, .int .i64 0, .int .i64 31,
    .int .i64 0, .int .i64 34, .int .i64 2, .int .i64 2, .int .i64 0, .int .i64 33, .int .i64 0]), (65106, .cells [.int .i64 2, .int .i64 0, .int .i64 33, .int .i64 0]), (65109,
    .cells [.int .i64 0, .sl 2 65076 0 2, .int .i64 0, .sl 2 65091 0 20, .int .i64 0, .sl 2 65106 0 2]), (104338, .cells []), (104403, .cells [.int .i64 0]), (104435,
    .cells [.int .i64 1, .int .i64 0, .int .i64 0, .str []])]
  n' := 104459
theorem runC13N2 : memoRun I [mS16] 100000 mC13N2 = some doneR := by kernel_rfl
theorem okC13N2 (hv : Digits val) : MemoOk Tryz.prog val mC13N2 := memoRun_ok (sound hv (allOk_cons (okS16 hv) allOk_nil) _) runC13N2
noncomputable def mC13N3 : Memo where
  k := 81
  args := [.agg [.sl 3 42561 0 4, .nils, .int .i64 1, .int .i64 0, .sl 2 65109 0 3], .agg [.sl 4 104435 0 1, .sl 1 104403 0 1, .sl 1 104338 0 0, .nils, .str [], .nils, .int .i64 0, .nils,
    .int .i64 100, .int .i64 0, .int .i64 0, .int .i64 0, .bool false], .int .i64 0]
  ins := [(42561, .cells [.int .i64 0, .int .i64 0, .str [], .int .i64 1, .int .i64 0, .str [], .int .i64 1, .int .i64 1, .str [], .int .i64 1, .int .i64 2, .str []]), (65076,
    .cells [.int .i64 2, .int .i64 0, .int .i64 33, .int .i64 0]), (65091, .cells [.int .i64 1, .int .i64 0, .int .i64 2, .int .i64 2, .int .i64 22, .int .i64 0, .int .i64 4,
    .int .i64 0, .int .i64 1, .int .i64 0, .int .i64 2, .int .i64 2, .int .i64 2, .int .i64 3, .int .i64 22, .int .i64 0, .int .i64 23, .int .i64 0, .int .i64 1, .int .i64 0,
    .int .i64 2, .int .i64 3, .int .i64 3, .int .i64 0, .int .i64 23, .int .i64 0, .int .i64 1, .int .i64 0, .int .i64 2, .int .i64 1, .int .i64 22, .int .i64 0, .int .i64 31,
    .int .i64 0, .int .i64 34, .int .i64 2, .int .i64 2, .int .i64 0, .int .i64 33, .int .i64 0]), (65106, .cells [.int .i64 2, .int .i64 0, .int .i64 33, .int .i64 0]), (65109,
    .cells [.int .i64 0, .sl 2 65076 0 2, .int .i64 0, .sl 2 65091 0 20, .int .i64 0, .sl 2 65106 0 2]), (104338, .cells []), (104403, .cells [.int .i64 0]), (104435,
    .cells [.int .i64 1, .int .i64 0, .int .i64 0, .str []])]
  n := 114557
  d := .agg [.sl 4 115116 0 2, .sl 1 114636 0 1, .nils, .sl 6 114682 0 0, .str [], .nils, .int .i64 0, .nils, .int .i64 100, .int .i64 0, .int .i64 0, .int .i64 0, .bool false]
  outs := [(42561, .cells [.int .i64 0, .int .i64 0, .str [], .int .i64 1, .int .i64 0, .str [], .int .i64 1, .int .i64 1, .str [], .int .i64 1, .int .i64 2, .str []]), (65076,
    .cells [.int .i64 2, .int .i64 0, .int .i64 33, .int .i64 0]), (65091, .cells [.int .i64 1, .int .i64 0, .int .i64 2, .int .i64 2, .int .i64 22, .int .i64 0, .int .i64 4,
    .int .i64 0, .int .i64 1, .int .i64 0, .int .i64 2, .int .i64 2, .int .i64 2, .int .i64 3, .int .i64 22, .int .i64 0, .int .i64 23, .int .i64 0, .int .i64 1, .int .i64 0,
    .int .i64 2, .int .i64 3, .int .i64 3, .int .i64 0, .int .i64 23, .int .i64 0, .int .i64 1, .int .i64 0, .int .i64 2, .int .i64 1, .int .i64 22, .int .i64 0, .int .i64 31,
    .int .i64 0, .int .i64 34, .int .i64 2, .int .i64 2, .int .i64 0, .int .i64 33, .int .i64 0]), (65106, .cells [.int .i64 2, .int .i64 0, .int .i64 33, .int .i64 0]), (65109,
    .cells [.int .i64 0, .sl 2 65076 0 2, .int .i64 0, .sl 2 65091 0 20, .int .i64 0, .sl 2 65106 0 2]), (104338, .cells []), (104403, .cells [.int .i64 0]), (104435,
    .cells [.int .i64 1, .int .i64 0, .int .i64 0, .str []]), (114636, .cells [.int .i64 0]), (114682, .cells [.int .i64 0, .int .i64 2, .nils, .sl 2 115145 0 0, .nils, .nils]),
    (115116, .cells [.int .i64 1, .int .i64 0, .int .i64 0, .str [], .int .i64 0, .int .i64 0, .int .i64 0, .str []]), (115145, .cells [.bool false, .int .i64 1])]
  n' := 115662
theorem runC13N3 : memoRun I [] 100000 mC13N3 = some doneR := by kernel_rfl
theorem okC13N3 (hv : Digits val) : MemoOk Tryz.prog val mC13N3 := memoRun_ok (sound hv allOk_nil _) runC13N3
noncomputable def mC13N4 : Memo where
  k := 81
  args := [.agg [.sl 3 42561 0 4, .nils, .int .i64 1, .int .i64 0, .sl 2 65109 0 3], .agg [.sl 4 115116 0 2, .sl 1 114636 0 1, .nils, .sl 6 114682 0 0, .str [256, 32, 32, 257, 258, 259],
    .sl 1 115897 0 2, .int .i64 1, .nils, .int .i64 99, .int .i64 0, .int .i64 0, .int .i64 0, .bool false], .int .i64 1]
  ins := [(42561, .cells [.int .i64 0, .int .i64 0, .str [], .int .i64 1, .int .i64 0, .str [], .int .i64 1, .int .i64 1, .str [], .int .i64 1, .int .i64 2, .str []]), (65076,
    .cells [.int .i64 2, .int .i64 0, .int .i64 33, .int .i64 0]), (65091, .cells [.int .i64 1, .int .i64 0, .int .i64 2, .int .i64 2, .int .i64 22, .int .i64 0, .int .i64 4,
    .int .i64 0, .int .i64 1, .int .i64 0, .int .i64 2, .int .i64 2, .int .i64 2, .int .i64 3, .int .i64 22, .int .i64 0, .int .i64 23, .int .i64 0, .int .i64 1, .int .i64 0,
    .int .i64 2, .int .i64 3, .int .i64 3, .int .i64 0, .int .i64 23, .int .i64 0, .int .i64 1, .int .i64 0, .int .i64 2, .int .i64 1, .int .i64 22, .int .i64 0, .int .i64 31,
    .int .i64 0, .int .i64 34, .int .i64 2, .int .i64 2, .int .i64 0, .int .i64 33, .int .i64 0]), (65106, .cells [.int .i64 2, .int .i64 0, .int .i64 33, .int .i64 0]), (65109,
    .cells [.int .i64 0, .sl 2 65076 0 2, .int .i64 0, .sl 2 65091 0 20, .int .i64 0, .sl 2 65106 0 2]), (114636, .cells [.int .i64 0]), (114682, .cells [.int .i64 0, .int .i64 2,
    .nils, .sl 2 115145 0 0, .nils, .nils]), (115116, .cells [.int .i64 1, .int .i64 0, .int .i64 0, .str [], .int .i64 0, .int .i64 0, .int .i64 0, .str []]), (115145,
    .cells [.bool false, .int .i64 1]), (115897, .cells [.str [256], .str [257, 258, 259]])]
  n := 115912
  d := .agg [.sl 4 118824 0 3, .sl 1 115991 0 1, .nils, .sl 6 116037 0 0, .str [257, 258, 259, 32, 256], .sl 1 121712 0 2, .int .i64 1, .sl 1 124345 0 8, .int .i64 95, .int .i64 0,
    .int .i64 0, .int .i64 0, .bool false]
  outs := [(42561, .cells [.int .i64 0, .int .i64 0, .str [], .int .i64 1, .int .i64 0, .str [], .int .i64 1, .int .i64 1, .str [], .int .i64 1, .int .i64 2, .str []]), (65076,
    .cells [.int .i64 2, .int .i64 0, .int .i64 33, .int .i64 0]), (65091, .cells [.int .i64 1, .int .i64 0, .int .i64 2, .int .i64 2, .int .i64 22, .int .i64 0, .int .i64 4,
    .int .i64 0, .int .i64 1, .int .i64 0, .int .i64 2, .int .i64 2, .int .i64 2, .int .i64 3, .int .i64 22, .int .i64 0, .int .i64 23, .int .i64 0, .int .i64 1, .int .i64 0,
    .int .i64 2, .int .i64 3, .int .i64 3, .int .i64 0, .int .i64 23, .int .i64 0, .int .i64 1, .int .i64 0, .int .i64 2, .int .i64 1, .int .i64 22, .int .i64 0, .int .i64 31,
    .int .i64 0, .int .i64 34, .int .i64 2, .int .i64 2, .int .i64 0, .int .i64 33, .int .i64 0]), (65106, .cells [.int .i64 2, .int .i64 0, .int .i64 33, .int .i64 0]), (65109,
    .cells [.int .i64 0, .sl 2 65076 0 2, .int .i64 0, .sl 2 65091 0 20, .int .i64 0, .sl 2 65106 0 2]), (114636, .cells [.int .i64 0]), (114682, .cells [.int .i64 0, .int .i64 2,
    .nils, .sl 2 115145 0 0, .nils, .nils]), (115116, .cells [.int .i64 1, .int .i64 0, .int .i64 0, .str [], .int .i64 0, .int .i64 0, .int .i64 0, .str []]), (115145,
    .cells [.bool false, .int .i64 1]), (115897, .cells [.str [256], .str [257, 258, 259]]), (115991, .cells [.int .i64 1]), (116037, .cells [.int .i64 1, .int .i64 20, .nils,
    .sl 2 124794 0 0, .nils, .nils]), (118824, .cells [.int .i64 0, .int .i64 0, .int .i64 0, .str [], .int .i64 1, .int .i64 2, .int .i64 0, .str [256], .int .i64 0, .int .i64 0,
    .int .i64 0, .str []]), (121712, .cells [.str [257, 258, 259], .str [256]]), (124345, .cells [.sym .u8 257, .sym .u8 258, .sym .u8 259, .int .u8 32, .sym .u8 256, .int .u8 32,
    .int .u8 50, .int .u8 10]), (124794, .cells [.bool false, .int .i64 0])]
  n' := 125311
theorem runC13N4 : memoRun I [] 100000 mC13N4 = some doneR := by kernel_rfl
theorem okC13N4 (hv : Digits val) : MemoOk Tryz.prog val mC13N4 := memoRun_ok (sound hv allOk_nil _) runC13N4
noncomputable def mC13N5 : Memo where
  k := 81
  args := [.agg [.sl 3 42561 0 4, .nils, .int .i64 1, .int .i64 0, .sl 2 65109 0 3], .agg [.sl 4 118824 0 3, .sl 1 115991 0 1, .nils, .sl 6 116037 0 0, .str [111, 110, 101], .sl 1 125457 0 1,
    .int .i64 2, .sl 1 124345 0 8, .int .i64 94, .int .i64 0, .int .i64 0, .int .i64 0, .bool false], .int .i64 1]
  ins := [(42561, .cells [.int .i64 0, .int .i64 0, .str [], .int .i64 1, .int .i64 0, .str [], .int .i64 1, .int .i64 1, .str [], .int .i64 1, .int .i64 2, .str []]), (65076,
    .cells [.int .i64 2, .int .i64 0, .int .i64 33, .int .i64 0]), (65091, .cells [.int .i64 1, .int .i64 0, .int .i64 2, .int .i64 2, .int .i64 22, .int .i64 0, .int .i64 4,
    .int .i64 0, .int .i64 1, .int .i64 0, .int .i64 2, .int .i64 2, .int .i64 2, .int .i64 3, .int .i64 22, .int .i64 0, .int .i64 23, .int .i64 0, .int .i64 1, .int .i64 0,
    .int .i64 2, .int .i64 3, .int .i64 3, .int .i64 0, .int .i64 23, .int .i64 0, .int .i64 1, .int .i64 0, .int .i64 2, .int .i64 1, .int .i64 22, .int .i64 0, .int .i64 31,
    .int .i64 0, .int .i64 34, .int .i64 2, .int .i64 2, .int .i64 0, .int .i64 33, .int .i64 0]), (65106, .cells [.int .i64 2, .int .i64 0, .int .i64 33, .int .i64 0]), (65109,
    .cells [.int .i64 0, .sl 2 65076 0 2, .int .i64 0, .sl 2 65091 0 20, .int .i64 0, .sl 2 65106 0 2]), (115991, .cells [.int .i64 1]), (116037, .cells [.int .i64 1, .int .i64 20,
    .nils, .sl 2 124794 0 0, .nils, .nils]), (118824, .cells [.int .i64 0, .int .i64 0, .int .i64 0, .str [], .int .i64 1, .int .i64 2, .int .i64 0, .str [256], .int .i64 0,
    .int .i64 0, .int .i64 0, .str []]), (124345, .cells [.sym .u8 257, .sym .u8 258, .sym .u8 259, .int .u8 32, .sym .u8 256, .int .u8 32, .int .u8 50, .int .u8 10]), (124794,
    .cells [.bool false, .int .i64 0]), (125457, .cells [.str [111, 110, 101]])]
  n := 125472
  d := .agg [.sl 4 125541 0 3, .sl 1 125551 0 1, .nils, .sl 6 125597 0 0, .str [32, 111, 110, 101], .sl 1 131261 0 2, .int .i64 2, .sl 1 133924 0 15, .int .i64 90, .int .i64 0,
    .int .i64 0, .int .i64 0, .bool false]
  outs := [(42561, .cells [.int .i64 0, .int .i64 0, .str [], .int .i64 1, .int .i64 0, .str [], .int .i64 1, .int .i64 1, .str [], .int .i64 1, .int .i64 2, .str []]), (65076,
    .cells [.int .i64 2, .int .i64 0, .int .i64 33, .int .i64 0]), (65091, .cells [.int .i64 1, .int .i64 0, .int .i64 2, .int .i64 2, .int .i64 22, .int .i64 0, .int .i64 4,
    .int .i64 0, .int .i64 1, .int .i64 0, .int .i64 2, .int .i64 2, .int .i64 2, .int .i64 3, .int .i64 22, .int .i64 0, .int .i64 23, .int .i64 0, .int .i64 1, .int .i64 0,
    .int .i64 2, .int .i64 3, .int .i64 3, .int .i64 0, .int .i64 23, .int .i64 0, .int .i64 1, .int .i64 0, .int .i64 2, .int .i64 1, .int .i64 22, .int .i64 0, .int .i64 31,
    .int .i64 0, .int .i64 34, .int .i64 2, .int .i64 2, .int .i64 0, .int .i64 33, .int .i64 0]), (65106, .cells [.int .i64 2, .int .i64 0, .int .i64 33, .int .i64 0]), (65109,
    .cells [.int .i64 0, .sl 2 65076 0 2, .int .i64 0, .sl 2 65091 0 20, .int .i64 0, .sl 2 65106 0 2]), (115991, .cells [.int .i64 1]), (116037, .cells [.int .i64 1, .int .i64 20,
    .nils, .sl 2 124794 0 0, .nils, .nils]), (118824, .cells [.int .i64 0, .int .i64 0, .int .i64 0, .str [], .int .i64 1, .int .i64 2, .int .i64 0, .str [256], .int .i64 0,
    .int .i64 0, .int .i64 0, .str []]), (124345, .cells [.sym .u8 257, .sym .u8 258, .sym .u8 259, .int .u8 32, .sym .u8 256, .int .u8 32, .int .u8 50, .int .u8 10]), (124794,
    .cells [.bool false, .int .i64 0]), (125457, .cells [.str [111, 110, 101]]), (125541, .cells [.int .i64 1, .int .i64 2, .int .i64 0, .str [111, 110, 101], .int .i64 0,
    .int .i64 0, .int .i64 0, .str [], .int .i64 0, .int .i64 0, .int .i64 0, .str []]), (125551, .cells [.int .i64 0]), (125597, .cells [.int .i64 1, .int .i64 20, .nils,
    .sl 2 134390 0 0, .nils, .nils]), (131261, .cells [.str [], .str [111, 110, 101]]), (133924, .cells [.sym .u8 257, .sym .u8 258, .sym .u8 259, .int .u8 32, .sym .u8 256,
    .int .u8 32, .int .u8 50, .int .u8 10, .int .u8 32, .int .u8 111, .int .u8 110, .int .u8 101, .int .u8 32, .int .u8 50, .int .u8 10]), (134390, .cells [.bool false,
    .int .i64 1])]
  n' := 134907
theorem runC13N5 : memoRun I [] 100000 mC13N5 = some doneR := by kernel_rfl
theorem okC13N5 (hv : Digits val) : MemoOk Tryz.prog val mC13N5 := memoRun_ok (sound hv allOk_nil _) runC13N5
noncomputable def mC13N6 : Memo where
  k := 81
  args := [.agg [.sl 3 42561 0 4, .nils, .int .i64 1, .int .i64 0, .sl 2 65109 0 3], .agg [.sl 4 125541 0 3, .sl 1 125551 0 1, .nils, .sl 6 125597 0 0, .str [32, 111, 110, 101],
    .sl 1 131261 0 2, .int .i64 2, .sl 1 133924 0 15, .int .i64 90, .int .i64 0, .int .i64 0, .int .i64 0, .bool false], .int .i64 2]
  ins := [(42561, .cells [.int .i64 0, .int .i64 0, .str [], .int .i64 1, .int .i64 0, .str [], .int .i64 1, .int .i64 1, .str [], .int .i64 1, .int .i64 2, .str []]), (65076,
    .cells [.int .i64 2, .int .i64 0, .int .i64 33, .int .i64 0]), (65091, .cells [.int .i64 1, .int .i64 0, .int .i64 2, .int .i64 2, .int .i64 22, .int .i64 0, .int .i64 4,
    .int .i64 0, .int .i64 1, .int .i64 0, .int .i64 2, .int .i64 2, .int .i64 2, .int .i64 3, .int .i64 22, .int .i64 0, .int .i64 23, .int .i64 0, .int .i64 1, .int .i64 0,
    .int .i64 2, .int .i64 3, .int .i64 3, .int .i64 0, .int .i64 23, .int .i64 0, .int .i64 1, .int .i64 0, .int .i64 2, .int .i64 1, .int .i64 22, .int .i64 0, .int .i64 31,
    .int .i64 0, .int .i64 34, .int .i64 2, .int .i64 2, .int .i64 0, .int .i64 33, .int .i64 0]), (65106, .cells [.int .i64 2, .int .i64 0, .int .i64 33, .int .i64 0]), (65109,
    .cells [.int .i64 0, .sl 2 65076 0 2, .int .i64 0, .sl 2 65091 0 20, .int .i64 0, .sl 2 65106 0 2]), (125541, .cells [.int .i64 1, .int .i64 2, .int .i64 0, .str [111, 110,
    101], .int .i64 0, .int .i64 0, .int .i64 0, .str [], .int .i64 0, .int .i64 0, .int .i64 0, .str []]), (125551, .cells [.int .i64 0]), (125597, .cells [.int .i64 1,
    .int .i64 20, .nils, .sl 2 134390 0 0, .nils, .nils]), (131261, .cells [.str [], .str [111, 110, 101]]), (133924, .cells [.sym .u8 257, .sym .u8 258, .sym .u8 259, .int .u8 32,
    .sym .u8 256, .int .u8 32, .int .u8 50, .int .u8 10, .int .u8 32, .int .u8 111, .int .u8 110, .int .u8 101, .int .u8 32, .int .u8 50, .int .u8 10]), (134390,
    .cells [.bool false, .int .i64 1])]
  n := 134915
  d := .agg [.sl 4 134984 0 3, .sl 1 134994 0 1, .nils, .sl 6 135040 0 0, .str [32, 111, 110, 101], .sl 1 135005 0 2, .int .i64 2, .sl 1 135014 0 15, .int .i64 90, .int .i64 0,
    .int .i64 0, .int .i64 0, .bool false]
  outs := [(42561, .cells [.int .i64 0, .int .i64 0, .str [], .int .i64 1, .int .i64 0, .str [], .int .i64 1, .int .i64 1, .str [], .int .i64 1, .int .i64 2, .str []]), (65076,
    .cells [.int .i64 2, .int .i64 0, .int .i64 33, .int .i64 0]), (65091, .cells [.int .i64 1, .int .i64 0, .int .i64 2, .int .i64 2, .int .i64 22, .int .i64 0, .int .i64 4,
    .int .i64 0, .int .i64 1, .int .i64 0, .int .i64 2, .int .i64 2, .int .i64 2, .int .i64 3, .int .i64 22, .int .i64 0, .int .i64 23, .int .i64 0, .int .i64 1, .int .i64 0,
    .int .i64 2, .int .i64 3, .int .i64 3, .int .i64 0, .int .i64 23, .int .i64 0, .int .i64 1, .int .i64 0, .int .i64 2, .int .i64 1, .int .i64 22, .int .i64 0, .int .i64 31,
    .int .i64 0, .int .i64 34, .int .i64 2, .int .i64 2, .int .i64 0, .int .i64 33, .int .i64 0]), (65106, .cells [.int .i64 2, .int .i64 0, .int .i64 33, .int .i64 0]), (65109,
    .cells [.int .i64 0, .sl 2 65076 0 2, .int .i64 0, .sl 2 65091 0 20, .int .i64 0, .sl 2 65106 0 2]), (125541, .cells [.int .i64 1, .int .i64 2, .int .i64 0, .str [111, 110,
    101], .int .i64 0, .int .i64 0, .int .i64 0, .str [], .int .i64 0, .int .i64 0, .int .i64 0, .str []]), (125551, .cells [.int .i64 0]), (125597, .cells [.int .i64 1,
    .int .i64 20, .nils, .sl 2 134390 0 0, .nils, .nils]), (131261, .cells [.str [], .str [111, 110, 101]]), (133924, .cells [.sym .u8 257, .sym .u8 258, .sym .u8 259, .int .u8 32,
    .sym .u8 256, .int .u8 32, .int .u8 50, .int .u8 10, .int .u8 32, .int .u8 111, .int .u8 110, .int .u8 101, .int .u8 32, .int .u8 50, .int .u8 10]), (134390,
    .cells [.bool false, .int .i64 1]), (134984, .cells [.int .i64 1, .int .i64 2, .int .i64 0, .str [111, 110, 101], .int .i64 0, .int .i64 0, .int .i64 0, .str [], .int .i64 0,
    .int .i64 0, .int .i64 0, .str []]), (134994, .cells [.int .i64 0]), (135005, .cells [.str [], .str [111, 110, 101]]), (135014, .cells [.sym .u8 257, .sym .u8 258, .sym .u8 259,
    .int .u8 32, .sym .u8 256, .int .u8 32, .int .u8 50, .int .u8 10, .int .u8 32, .int .u8 111, .int .u8 110, .int .u8 101, .int .u8 32, .int .u8 50, .int .u8 10]), (135040,
    .cells [.int .i64 2, .int .i64 2, .nils, .sl 2 135501 0 0, .nils, .nils]), (135501, .cells [.bool false, .int .i64 1])]
  n' := 136018
theorem runC13N6 : memoRun I [] 100000 mC13N6 = some doneR := by kernel_rfl
theorem okC13N6 (hv : Digits val) : MemoOk Tryz.prog val mC13N6 := memoRun_ok (sound hv allOk_nil _) runC13N6
noncomputable def mC13N7 : Memo where
  k := 37
  args := [.agg [.sl 3 42561 0 4, .nils, .int .i64 1, .int .i64 0, .sl 2 65109 0 3], .sl 1 0 0 2, .int .i64 100]
  ins := [(0, .cells [.str [256, 32, 32, 257, 258, 259], .str [111, 110, 101]]), (42561, .cells [.int .i64 0, .int .i64 0, .str [], .int .i64 1, .int .i64 0, .str [], .int .i64 1,
    .int .i64 1, .str [], .int .i64 1, .int .i64 2, .str []]), (65076, .cells [.int .i64 2, .int .i64 0, .int .i64 33, .int .i64 0]), (65091, .cells [.int .i64 1, .int .i64 0,
    .int .i64 2, .int .i64 2, .int .i64 22, .int .i64 0, .int .i64 4, .int .i64 0, .int .i64 1, .int .i64 0, .int .i64 2, .int .i64 2, .int .i64 2, .int .i64 3, .int .i64 22,
    .int .i64 0, .int .i64 23, .int .i64 0, .int .i64 1, .int .i64 0, .int .i64 2, .int .i64 3, .int .i64 3, .int .i64 0, .int .i64 23, .int .i64 0, .int .i64 1, .int .i64 0,
    .int .i64 2, .int .i64 1, .int .i64 22, .int .i64 0, .int .i64 31, .int .i64 0, .int .i64 34, .int .i64 2, .int .i64 2, .int .i64 0, .int .i64 33, .int .i64 0]), (65106,
    .cells [.int .i64 2, .int .i64 0, .int .i64 33, .int .i64 0]), (65109, .cells [.int .i64 0, .sl 2 65076 0 2, .int .i64 0, .sl 2 65091 0 20, .int .i64 0, .sl 2 65106 0 2])]
  n := 94245
  d := .agg [.sl 4 134984 0 3, .sl 1 134994 0 1, .nils, .sl 6 135040 0 0, .str [32, 111, 110, 101], .sl 1 135005 0 2, .int .i64 2, .sl 1 135014 0 15, .int .i64 90, .int .i64 0,
    .int .i64 0, .int .i64 0, .bool false]
  outs := [(0, .cells [.str [256, 32, 32, 257, 258, 259], .str [111, 110, 101]]), (42561, .cells [.int .i64 0, .int .i64 0, .str [], .int .i64 1, .int .i64 0, .str [], .int .i64 1,
    .int .i64 1, .str [], .int .i64 1, .int .i64 2, .str []]), (65076, .cells [.int .i64 2, .int .i64 0, .int .i64 33, .int .i64 0]), (65091, .cells [.int .i64 1, .int .i64 0,
    .int .i64 2, .int .i64 2, .int .i64 22, .int .i64 0, .int .i64 4, .int .i64 0, .int .i64 1, .int .i64 0, .int .i64 2, .int .i64 2, .int .i64 2, .int .i64 3, .int .i64 22,
    .int .i64 0, .int .i64 23, .int .i64 0, .int .i64 1, .int .i64 0, .int .i64 2, .int .i64 3, .int .i64 3, .int .i64 0, .int .i64 23, .int .i64 0, .int .i64 1, .int .i64 0,
    .int .i64 2, .int .i64 1, .int .i64 22, .int .i64 0, .int .i64 31, .int .i64 0, .int .i64 34, .int .i64 2, .int .i64 2, .int .i64 0, .int .i64 33, .int .i64 0]), (65106,
    .cells [.int .i64 2, .int .i64 0, .int .i64 33, .int .i64 0]), (65109, .cells [.int .i64 0, .sl 2 65076 0 2, .int .i64 0, .sl 2 65091 0 20, .int .i64 0, .sl 2 65106 0 2]),
    (134984, .cells [.int .i64 1, .int .i64 2, .int .i64 0, .str [111, 110, 101], .int .i64 0, .int .i64 0, .int .i64 0, .str [], .int .i64 0, .int .i64 0, .int .i64 0, .str []]),
    (134994, .cells [.int .i64 0]), (135005, .cells [.str [], .str [111, 110, 101]]), (135014, .cells [.sym .u8 257, .sym .u8 258, .sym .u8 259, .int .u8 32, .sym .u8 256,
    .int .u8 32, .int .u8 50, .int .u8 10, .int .u8 32, .int .u8 111, .int .u8 110, .int .u8 101, .int .u8 32, .int .u8 50, .int .u8 10]), (135040, .cells [.int .i64 2, .int .i64 2,
    .nils, .sl 2 135501 0 0, .nils, .nils]), (135501, .cells [.bool false, .int .i64 1])]
  n' := 136019
theorem runC13N7 : memoRun I [mC13N2, mS16, mC13N3, mC13N4, mC13N5, mC13N6] 100000 mC13N7 = some doneR := by kernel_rfl
theorem okC13N7 (hv : Digits val) : MemoOk Tryz.prog val mC13N7 := memoRun_ok (sound hv (allOk_cons (okC13N2 hv) (allOk_cons (okS16 hv) (allOk_cons (okC13N3 hv) (allOk_cons (okC13N4 hv) (allOk_cons (okC13N5 hv) (allOk_cons (okC13N6 hv) allOk_nil)))))) _) runC13N7
noncomputable def mC13N8 : Memo where
  k := 36
  args := [.agg [.sl 4 134984 0 3, .sl 1 134994 0 1, .nils, .sl 6 135040 0 0, .str [32, 111, 110, 101], .sl 1 135005 0 2, .int .i64 2, .sl 1 135014 0 15, .int .i64 90, .int .i64 0,
    .int .i64 0, .int .i64 0, .bool false]]
  ins := [(134984, .cells [.int .i64 1, .int .i64 2, .int .i64 0, .str [111, 110, 101], .int .i64 0, .int .i64 0, .int .i64 0, .str [], .int .i64 0, .int .i64 0, .int .i64 0, .str []]),
    (134994, .cells [.int .i64 0]), (135005, .cells [.str [], .str [111, 110, 101]]), (135014, .cells [.sym .u8 257, .sym .u8 258, .sym .u8 259, .int .u8 32, .sym .u8 256,
    .int .u8 32, .int .u8 50, .int .u8 10, .int .u8 32, .int .u8 111, .int .u8 110, .int .u8 101, .int .u8 32, .int .u8 50, .int .u8 10]), (135040, .cells [.int .i64 2, .int .i64 2,
    .nils, .sl 2 135501 0 0, .nils, .nils]), (135501, .cells [.bool false, .int .i64 1])]
  n := 136019
  d := .str [257, 258, 259, 32, 256, 32, 50, 10, 32, 111, 110, 101, 32, 50, 10]
  outs := [(134984, .cells [.int .i64 1, .int .i64 2, .int .i64 0, .str [111, 110, 101], .int .i64 0, .int .i64 0, .int .i64 0, .str [], .int .i64 0, .int .i64 0, .int .i64 0, .str []]),
    (134994, .cells [.int .i64 0]), (135005, .cells [.str [], .str [111, 110, 101]]), (135014, .cells [.sym .u8 257, .sym .u8 258, .sym .u8 259, .int .u8 32, .sym .u8 256,
    .int .u8 32, .int .u8 50, .int .u8 10, .int .u8 32, .int .u8 111, .int .u8 110, .int .u8 101, .int .u8 32, .int .u8 50, .int .u8 10]), (135040, .cells [.int .i64 2, .int .i64 2,
    .nils, .sl 2 135501 0 0, .nils, .nils]), (135501, .cells [.bool false, .int .i64 1])]
  n' := 136040
theorem runC13N8 : memoRun I [] 100000 mC13N8 = some doneR := by kernel_rfl
theorem okC13N8 (hv : Digits val) : MemoOk Tryz.prog val mC13N8 := memoRun_ok (sound hv allOk_nil _) runC13N8
noncomputable def mC13 : Memo where
  k := 9
  args := [.str [123, 32, 120, 32, 61, 32, 36, 49, 59, 32, 36, 49, 32, 61, 32, 36, 50, 59, 32, 36, 50, 32, 61, 32, 120, 59, 32, 112, 114, 105, 110, 116, 32, 36, 48, 44, 32, 110, 102, 59, 32,
    125], .sl 1 0 0 2, .int .i64 100]
  ins := [(0, .cells [.str [256, 32, 32, 257, 258, 259], .str [111, 110, 101]])]
  n := 1
  d := .tup [.str [257, 258, 259, 32, 256, 32, 50, 10, 32, 111, 110, 101, 32, 50, 10], .bool true]
  outs := [(0, .cells [.str [256, 32, 32, 257, 258, 259], .str [111, 110, 101]])]
  n' := 136054
theorem runC13 : memoRun I [mS5, mS17, mC13N0, mC13N1, mC13N7, mC13N8] 100000 mC13 = some doneR := by kernel_rfl
theorem okC13 (hv : Digits val) : MemoOk Tryz.prog val mC13 := memoRun_ok (sound hv (allOk_cons (okS5 hv) (allOk_cons (okS17 hv) (allOk_cons (okC13N0 hv) (allOk_cons (okC13N1 hv) (allOk_cons (okC13N7 hv) (allOk_cons (okC13N8 hv) allOk_nil)))))) _) runC13
end Go.Gh
