import Derived.WalkKit
import Derived.ProofKit
import Derived.Lib.AppendIntMem
import Derived.Test.YtidododdhnbpkaaGreatDoorGhS
/- The walks of the law's own helpers: 'big', 'at', 'digits'. -/
set_option linter.unusedVariables false
set_option linter.unusedSimpArgs false
set_option maxRecDepth 10000
namespace Go.Proofs.YtidododdhnbpkaaGreatDoor.swapped
open Go.RowKit
/-- The table of powers, whatever is done from block B on. -/
abbrev Tab (B : Nat) (w : World) : Prop := Lib.TabBelow Tryz.prog B w "internal/strconv.uint64pow10" .u64 Lib.pow10Tab
theorem below_grow (w : World) (k : Nat) (os : Array Obj) : Below w.heap.size w (Sort.grow (w.drewN k) os) :=
  ⟨rfl, rfl, rfl, by simp [Sort.grow, World.drewN], fun i hi => by simp [Sort.grow, World.drewN, Array.getElem?_append, hi]⟩
theorem below_alloc {B : Nat} {w : World} (hB : B ≤ w.heap.size) (o : Obj) : Below B w (w.alloc o) := by
  rw [Sort.alloc_eq_grow]
  exact ⟨rfl, rfl, rfl, by simp [Sort.grow], fun i hi => Sort.heap_grow_old w _ (Nat.lt_of_lt_of_le hi hB)⟩
theorem walk48 (B n : Nat) (hn : n < 256) (w : World) (hB : B ≤ w.heap.size) (ht : Tab B w) : Calls Tryz.prog 48 #[.int .i64 n] w fun e w' => e = .returned (.string ⟨(Lib.decDigits n).toArray⟩) ∧ Below B w w' := by
  refine (show Calls Tryz.prog 48 #[.int .i64 (n : Int)] w _ from Any.strconv_Itoa Tryz.lays171 n (by omega) (by omega) w ht.here).mono ?_
  rintro e w' ⟨rfl, k, os, rfl⟩
  refine ⟨?_, (below_grow w k os).mono hB⟩
  unfold Lib.itoa
  rw [if_neg (by omega)]; rfl
theorem walk25 (B n : Nat) (hn : n < 256) (w : World) (hB : B ≤ w.heap.size) (ht : Tab B w) : Calls Tryz.prog 25 #[.int .i64 n] w fun e w' => e = .returned (.string ⟨(Lib.decDigits n).toArray⟩) ∧ Below B w w' := by
  go_enter Tryz.func25, Tryz.ntmps25
  go_wp2_with (go_at_call 48; refine (walk48 B n hn _ hB ht).mono ?_; rintro e w1 ⟨rfl, hb⟩)
  go_ret
  exact ⟨rfl, hb⟩
theorem walk15 (B n : Nat) (hn : n < 256) (s : ByteArray) (w : World) (hB : B ≤ w.heap.size) (ht : Tab B w) : Calls Tryz.prog 15 #[.agg #[.int .i64 1, .int .i64 n, .string s]] w fun e w' => e = .returned (.string ⟨(Lib.decDigits n).toArray⟩) ∧ Below B w w' := by
  go_enter Tryz.func15, Tryz.ntmps15
  go_wp2_with (go_at_call 25; refine (walk25 B n hn _ (Nat.le_trans hB (below_alloc hB _).size) (ht.on (below_alloc hB _))).mono ?_; rintro e w1 ⟨rfl, hb⟩)
  go_ret
  exact ⟨rfl, (below_alloc hB _).trans hb⟩
theorem walk7 (B n : Nat) (hn : n < 256) (w : World) (hB : B ≤ w.heap.size) (ht : Tab B w) : Calls Tryz.prog 7 #[.int .i64 n] w fun e w' => e = .returned (.string ⟨(Lib.decDigits n).toArray⟩) ∧ Below B w w' := by
  go_enter Tryz.func7, Tryz.ntmps7
  go_wp2_with (go_at_call 15; refine (walk15 B n hn _ _ hB ht).mono ?_; rintro e w1 ⟨rfl, hb⟩)
  go_ret
  exact ⟨rfl, hb⟩
theorem walk6 (a : Option Addr) (len cap : Nat) (w : World) : Calls Tryz.prog 6 #[.slice a len cap] w fun e w' => e = .returned (.bool (decide ((1048576 : Int) < len))) ∧ w' = w := by
  go_enter Tryz.func6, Tryz.ntmps6
  go_wp2
  go_ret
  exact ⟨rfl, rfl⟩
theorem walk8_out (i : Nat) (hi : i < 256) (a : Option Addr) (len cap : Nat) (hlen : len ≤ 1048576) (w : World) (hl : ¬ i < len) : Calls Tryz.prog 8 #[.slice a len cap, .int .i64 i] w fun e w' => e = .returned (.int .i64 ((i * 31 + len * 7 : Int) % 256)) ∧ w' = w := by
  go_enter Tryz.func8, Tryz.ntmps8
  go_wp2
  go_ret
  exact ⟨rfl, rfl⟩
theorem walk8_in (i : Nat) (hi : i < 256) (q : Addr) (len cap : Nat) (hlen : len ≤ 1048576) (w : World) (hl : i < len) (x : Nat) (hx : x < 256) (hc : w.cell? (q.add i) = some (.int .u8 x)) : Calls Tryz.prog 8 #[.slice (some q) len cap, .int .i64 i] w fun e w' => e = .returned (.int .i64 x) ∧ w' = w := by
  go_enter Tryz.func8, Tryz.ntmps8
  go_wp2
  go_ret
  exact ⟨rfl, rfl⟩
end Go.Proofs.YtidododdhnbpkaaGreatDoor.swapped
