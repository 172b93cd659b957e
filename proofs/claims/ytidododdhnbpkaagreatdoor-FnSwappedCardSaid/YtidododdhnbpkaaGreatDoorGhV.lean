import Derived.Test.YtidododdhnbpkaaGreatDoorGhZ
import Derived.Test.YtidododdhnbpkaaGreatDoorGhW
/- The law itself. -/
set_option linter.unusedVariables false
set_option linter.unusedSimpArgs false
set_option maxRecDepth 10000
namespace Go.Proofs.YtidododdhnbpkaaGreatDoor.swapped
open Go.RowKit
theorem dec_digits (n : Nat) (hn : n < 256) : ((Lib.decDigits n).length = 1 ∨ (Lib.decDigits n).length = 2 ∨ (Lib.decDigits n).length = 3) ∧ ∀ c ∈ Lib.decDigits n, 48 ≤ c.toNat ∧ c.toNat ≤ 57 := by
  have dig : ∀ k, k < 10 → 48 ≤ (UInt8.ofNat (48 + k)).toNat ∧ (UInt8.ofNat (48 + k)).toNat ≤ 57 := by decide
  by_cases h1 : n < 10
  · unfold Lib.decDigits
    rw [dif_pos h1]
    exact ⟨.inl rfl, by simpa using dig n h1⟩
  · by_cases h2 : n < 100
    · unfold Lib.decDigits
      rw [dif_neg h1]
      unfold Lib.decDigits
      rw [dif_pos (show n / 10 < 10 by omega)]
      have := dig (n / 10) (by omega)
      have := dig (n % 10) (by omega)
      exact ⟨.inr (.inl rfl), by simp only [List.singleton_append, List.mem_cons, List.not_mem_nil, or_false]; rintro c (rfl | rfl) <;> assumption⟩
    · unfold Lib.decDigits
      rw [dif_neg h1]
      unfold Lib.decDigits
      rw [dif_neg (show ¬ n / 10 < 10 by omega)]
      unfold Lib.decDigits
      rw [dif_pos (show n / 10 / 10 < 10 by omega)]
      have := dig (n / 10 / 10) (by omega)
      have := dig (n / 10 % 10) (by omega)
      have := dig (n % 10) (by omega)
      exact ⟨.inr (.inr rfl), by simp only [List.singleton_append, List.cons_append, List.nil_append, List.mem_cons, List.not_mem_nil, or_false]; rintro c (rfl | rfl | rfl) <;> assumption⟩
/-- What 'at' gives: the same in all later worlds. -/
theorem at_val (B i : Nat) (hi : i < 256) (a : Option Addr) (len cap : Nat) (hlen : len ≤ 1048576) (w : World) (hc : ∀ q, a = some q → ∀ j, j < len → q.block < B ∧ ∃ x : Nat, x < 256 ∧ w.cell? (q.add j) = some (.int .u8 x)) (ha : a = none → len = 0) :
    ∃ m : Nat, m < 256 ∧ ∀ w', Below B w w' → Calls Tryz.prog 8 #[.slice a len cap, .int .i64 i] w' fun e w2 => e = .returned (.int .i64 m) ∧ w2 = w' := by
  by_cases hl : i < len
  · cases a with
    | none => have := ha rfl; omega
    | some q =>
      obtain ⟨hq, x, hx, hcx⟩ := hc q rfl i hl
      refine ⟨x, hx, fun w' hb => walk8_in i hi q len cap hlen w' hl x hx ?_⟩
      rw [← hcx]
      unfold World.cell?
      rw [show (q.add i).block = q.block by unfold Addr.add; split <;> rfl, hb.block q.block hq]
  · refine ⟨(i * 31 + len * 7) % 256, Nat.mod_lt _ (by omega), fun w' hb => ?_⟩
    have := walk8_out i hi a len cap hlen w' hl
    have e : (((i * 31 + len * 7) % 256 : Nat) : Int) = ((i * 31 + len * 7 : Int) % 256) := by omega
    rw [e]; exact this
theorem below_but {B blk : Nat} {w w' : World} (hk : Gh.ButOne blk w w') (hb : blk < w.heap.size) (hB : B ≤ blk) : Below B w w' :=
  ⟨hk.os, hk.tape, hk.output, hk.size, fun k h => hk.block k (by omega) (by omega)⟩
theorem mine_alloc (w : World) (x y : Value) (t : TypeId) : Gh.Mine (w.alloc (.cells #[x, y] t)) w.heap.size 0 x ∧ Gh.Mine (w.alloc (.cells #[x, y] t)) w.heap.size 1 y := by
  have h := (MapKept.heap_alloc w (.cells #[x, y] t)).1
  constructor <;> constructor <;> unfold Gh.ad <;> first | (unfold World.cell?; simp only [h]; rfl) | (unfold World.frozen?; simp only [h]; rfl)
theorem walk3 (B : Nat) (a : Option Addr) (len cap : Nat) (w : World) (hB : B ≤ w.heap.size) (ht : Tab B w) (hc : ∀ q, a = some q → ∀ j, j < len → q.block < B ∧ ∃ x : Nat, x < 256 ∧ w.cell? (q.add j) = some (.int .u8 x)) (ha : a = none → len = 0) :
    Calls Tryz.prog 3 #[.slice a len cap] w fun e w' => e = .returned (.bool true) ∧ Below B w w' := by
  by_cases hbig : (1048576 : Int) < len
  · go_enter Tryz.func3, Tryz.ntmps3
    go_wp2_with (go_at_call 6; refine (walk6 a len cap _).mono ?_; rintro e w1 ⟨rfl, rfl⟩)
    go_ret
    exact ⟨rfl, Below.refl _ _⟩
  · obtain ⟨m2, hm2, c2⟩ := at_val B 2 (by omega) a len cap (by omega) w hc ha
    obtain ⟨m3, hm3, c3⟩ := at_val B 3 (by omega) a len cap (by omega) w hc ha
    obtain ⟨l2, g2⟩ := dec_digits m2 hm2
    obtain ⟨l3, g3⟩ := dec_digits m3 hm3
    go_enter Tryz.func3, Tryz.ntmps3
    go_wp2_with (go_at_call 6; refine (walk6 a len cap _).mono ?_; rintro e w1 ⟨rfl, rfl⟩)
    go_wp2_with (go_at_call 8; refine (c2 _ (Below.refl _ _)).mono ?_; rintro e _ ⟨rfl, rfl⟩)
    go_wp2_with (go_at_call 7; refine (walk7 B m2 hm2 _ hB ht).mono ?_; rintro e w2 ⟨rfl, hb2⟩)
    go_wp2_with (go_at_call 8; refine (c3 _ hb2).mono ?_; rintro e _ ⟨rfl, rfl⟩)
    go_wp2_with (go_at_call 7; refine (walk7 B m3 hm3 _ (Nat.le_trans hB hb2.size) (ht.on hb2)).mono ?_; rintro e w3 ⟨rfl, hb3⟩)
    go_wp2_with (go_at_call 9; refine (Gh.ran_ok l2 l3 g2 g3 rfl (by simp) rfl (mine_alloc w3 _ _ 9).1 (mine_alloc w3 _ _ 9).2 (by simp [World.alloc_eq])).mono ?_; rintro e w4 ⟨rfl, hk⟩)
    go_ret
    have hB3 : B ≤ w3.heap.size := Nat.le_trans hB (hb2.trans hb3).size
    have hba := below_alloc hB3 (Obj.cells #[Value.string ({ data := (Lib.decDigits m2).toArray } ++ { data := #[32, 32] } ++ { data := (Lib.decDigits m3).toArray }), Value.string { data := #[111, 110, 101] }] 9)
    have heq : (Lib.decDigits m3 ++ 32 :: (Lib.decDigits m2 ++ List.map UInt8.ofNat Gh.tailL) == (({ data := (Lib.decDigits m3).toArray } : ByteArray) ++ { data := #[32] } ++ { data := (Lib.decDigits m2).toArray } ++ { data := #[32, 50, 10, 32, 111, 110, 101, 32, 50, 10] }).toList) = true := by
      rw [ByteArray.toList_eq, beq_iff_eq]
      simp [Gh.tailL]
    rw [heq]
    exact ⟨rfl, hb2.trans (hb3.trans (hba.trans (below_but hk (Nat.lt_of_lt_of_le (Nat.lt_succ_self _) (by simp [World.alloc_eq])) hB3)))⟩
end Go.Proofs.YtidododdhnbpkaaGreatDoor.swapped
