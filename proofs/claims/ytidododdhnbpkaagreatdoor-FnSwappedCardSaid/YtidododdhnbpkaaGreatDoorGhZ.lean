import Derived.Test.YtidododdhnbpkaaGreatDoorGhKc11
import Derived.Test.YtidododdhnbpkaaGreatDoorGhKc12
import Derived.Test.YtidododdhnbpkaaGreatDoorGhKc13
import Derived.Test.YtidododdhnbpkaaGreatDoorGhKc21
import Derived.Test.YtidododdhnbpkaaGreatDoorGhKc22
import Derived.Test.YtidododdhnbpkaaGreatDoorGhKc23
import Derived.Test.YtidododdhnbpkaaGreatDoorGhKc31
import Derived.Test.YtidododdhnbpkaaGreatDoorGhKc32
import Derived.Test.YtidododdhnbpkaaGreatDoorGhKc33
/- What the program's run comes to: two fields changed about, whatever the digits. -/
set_option linter.unusedVariables false
set_option linter.unusedSimpArgs false
namespace Go.Gh
open Go.RowKit Go.Proofs
section
variable {val : Nat → UInt8} {w : World}
def progL : List Nat := [123, 32, 120, 32, 61, 32, 36, 49, 59, 32, 36, 49, 32, 61, 32, 36, 50, 59, 32, 36, 50, 32, 61, 32, 120, 59, 32, 112, 114, 105, 110, 116, 32, 36, 48, 44, 32, 110, 102, 59, 32, 125]
def tailL : List Nat := [32, 50, 10, 32, 111, 110, 101, 32, 50, 10]
/-- All but one block is as it was. -/
structure ButOne (blk : Nat) (w w' : World) : Prop where
  os : w'.os = w.os
  tape : w'.tape = w.tape
  output : w'.output = w.output
  size : w.heap.size ≤ w'.heap.size
  block : ∀ k, k < w.heap.size → k ≠ blk → w'.heap[k]? = w.heap[k]?
theorem calls_of_ends {k : Nat} {args : Array Value} {Q : Ending → World → Prop} (hf : ((Tryz.prog.funcs[k]?).map fun fn => (fn.name == "runtime.NumGoroutine", fn.body.isNone)) = some (false, false)) (h : Ends Tryz.prog k args w Q) : Calls Tryz.prog k args w Q := by
  rcases h with ⟨fn, h1, h2, h3, h4⟩ | ⟨v, w', h1, h2⟩
  · exact h4
  · exfalso
    cases q : Tryz.prog.funcs[k]? with
    | none => rw [q] at hf; cases hf
    | some fn =>
      rw [q] at hf
      simp only [Option.map_some, Option.some.injEq, Prod.mk.injEq] at hf
      have h2' : fn.name ≠ "runtime.NumGoroutine" := by simpa using hf.1
      have h3' : fn.body ≠ none := by intro q; rw [q] at hf; cases hf.2
      have : (callFunc k args).run Tryz.prog w = .ok (.enter k args) w := by simp [callFunc, q, h2', h3']
      rw [this] at h1; cases h1
theorem ran_sem {x : Memo} {sa sd : List Nat} (ok : MemoOk Tryz.prog val x) (hk : x.k = 9) (ha : x.args = [.str progL, .sl 1 0 0 2, .int .i64 100]) (hi : x.ins = [(0, .cells [.str sa, .str [111, 110, 101]])]) (hn : x.n = 1) (hd : x.d = .tup [.str sd, .bool true])
    {blk : Nat} (h0 : Mine w blk 0 (.string ⟨(sa.map val).toArray⟩)) (h1 : Mine w blk 1 (.string ⟨([111, 110, 101].map val).toArray⟩)) (hb : blk < w.heap.size) :
    Calls Tryz.prog 9 #[.string ⟨(progL.map val).toArray⟩, .slice (some (ad blk 0)) 2 2, .int .i64 100] w fun e w' => e = .returned (.tuple #[.string ⟨(sd.map val).toArray⟩, .bool true]) ∧ ButOne blk w w' := by
  obtain ⟨_, t, ht, sem⟩ := ok
  rw [hi] at ht
  rw [hk, ha, hn] at sem
  have only : ∀ o c, t.get o = some c → o = 0 ∧ c = .cells [.str sa, .str [111, 110, 101]] := fun o c q => by
    have := ht o c q
    simp only [List.mem_singleton, Prod.mk.injEq] at this
    exact this
  have hM : ∀ o l, (fun o => if o = 0 then some ⟨blk, 0, 2⟩ else none : Mp) o = some l → o = 0 ∧ l = ⟨blk, 0, 2⟩ := fun o l q => by
    replace q : (if o = 0 then some (⟨blk, 0, 2⟩ : Loc) else none) = some l := q
    by_cases q2 : o = 0
    · rw [if_pos q2] at q; cases q; exact ⟨q2, rfl⟩
    · rw [if_neg q2] at q; cases q
  have hM0 : (fun o => if o = 0 then some ⟨blk, 0, 2⟩ else none : Mp) 0 = some ⟨blk, 0, 2⟩ := rfl
  generalize (fun o => if o = 0 then some ⟨blk, 0, 2⟩ else none : Mp) = M at hM hM0
  have H : HR val w M t 1 := by
    refine ⟨fun o c l q1 q2 => ?_, fun o o' c c' l l' q1 q2 q3 q4 q5 => by rw [(hM _ _ q3).1, (hM _ _ q4).1], fun o l q => by rw [(hM _ _ q).1]; omega, fun o l q => by rw [(hM _ _ q).2]; exact hb, fun o c q => by rw [(only o c q).1]; omega⟩
    obtain ⟨rfl, rfl⟩ := only o c q1
    obtain ⟨_, rfl⟩ := hM _ _ q2
    refine ⟨Nat.le_refl _, fun i hi => ?_, fun i d hd => ?_⟩
    · match i, hi with
      | 0, _ => exact ⟨_, h0⟩
      | 1, _ => exact ⟨_, h1⟩
    · match i, hd with
      | 0, hd => cases hd; exact ⟨_, h0.1, by simp only [VRel]⟩
      | 1, hd => cases hd; exact ⟨_, h1.1, by simp only [VRel]⟩
  refine calls_of_ends (by kernel_rfl) ((sem M w _ H ?_).mono ?_)
  · simp only [VRelL, VRel]
    exact ⟨_, _, rfl, rfl, _, _, rfl, ⟨_, 0, 2, hM0, rfl, Nat.le_refl _, by omega, Nat.le_refl 2, fun _ => rfl⟩, _, _, rfl, rfl, rfl⟩
  · rintro e w' ⟨v, M', d, h', n', rfl, ⟨rd, _, _⟩, _, _, hvr, S⟩
    cases rd
    rw [hd] at hvr
    simp only [VRel, VRelL] at hvr
    obtain ⟨vs, rfl, v1, vs1, q1, rfl, v2, vs2, rfl, rfl, rfl⟩ := hvr
    have hvs : vs = #[.string ⟨(sd.map val).toArray⟩, .bool true] := by apply Array.toList_inj.1; rw [q1]
    refine ⟨by rw [hvs], S.os.1, S.os.2.1, S.os.2.2, S.size, fun k hk hne => (S.frame k hk fun o c l q1 q2 => ?_).1⟩
    rw [(hM o l q2).2]
    exact Ne.symm hne
def valOf (s : List UInt8) (c : Nat) : UInt8 := if c < 256 then UInt8.ofNat c else s.getD (c - 256) 48
theorem digits_of {s : List UInt8} (h : ∀ c ∈ s, 48 ≤ c.toNat ∧ c.toNat ≤ 57) : Digits (valOf s) where
  lit c hc := by unfold valOf; rw [if_pos hc]
  dig c hc := by
    unfold valOf
    rw [if_neg (by omega), List.getD_eq_getElem?_getD]
    cases q : s[c - 256]? with
    | none => decide
    | some d => exact h d (List.mem_of_getElem? q)
theorem prog_val (s : List UInt8) : progL.map (valOf s) = progL.map UInt8.ofNat := by
  refine List.map_congr_left fun c hc => ?_
  have : ∀ c ∈ progL, c < 256 := by decide
  unfold valOf; rw [if_pos (this c hc)]
/-- Whatever the digits. -/
theorem ran_ok {a b : List UInt8} (la : a.length = 1 ∨ a.length = 2 ∨ a.length = 3) (lb : b.length = 1 ∨ b.length = 2 ∨ b.length = 3) (da : ∀ c ∈ a, 48 ≤ c.toNat ∧ c.toNat ≤ 57) (db : ∀ c ∈ b, 48 ≤ c.toNat ∧ c.toNat ≤ 57)
    {p s one : ByteArray} (hp : p.data.toList = progL.map UInt8.ofNat) (hs : s.data.toList = a ++ [32, 32] ++ b) (hone : one.data.toList = [111, 110, 101]) {blk : Nat} (h0 : Mine w blk 0 (.string s)) (h1 : Mine w blk 1 (.string one)) (hb : blk < w.heap.size) :
    Calls Tryz.prog 9 #[.string p, .slice (some (ad blk 0)) 2 2, .int .i64 100] w fun e w' => e = .returned (.tuple #[.string ⟨(b ++ [32] ++ a ++ tailL.map UInt8.ofNat).toArray⟩, .bool true]) ∧ ButOne blk w w' := by
  have mkB : ∀ (x : ByteArray) (l : List UInt8), x.data.toList = l → x = ⟨l.toArray⟩ := fun x l e => by
    obtain ⟨⟨l'⟩⟩ := x; simp at e; subst e; rfl
  have hp' := mkB _ _ hp; have hs' := mkB _ _ hs; have ho' := mkB _ _ hone
  subst hp' hs' ho'
  have hd : ∀ c ∈ a ++ b, 48 ≤ c.toNat ∧ c.toNat ≤ 57 := fun c hc => (List.mem_append.1 hc).elim (da c) (db c)
  have fin : ∀ (x : Memo) (sa sd : List Nat), MemoOk Tryz.prog (valOf (a ++ b)) x → x.k = 9 → x.args = [.str progL, .sl 1 0 0 2, .int .i64 100] → x.ins = [(0, .cells [.str sa, .str [111, 110, 101]])] → x.n = 1 → x.d = .tup [.str sd, .bool true] →
      sa.map (valOf (a ++ b)) = a ++ [32, 32] ++ b → sd.map (valOf (a ++ b)) = b ++ [32] ++ a ++ tailL.map UInt8.ofNat → Calls Tryz.prog 9 #[.string ⟨(progL.map UInt8.ofNat).toArray⟩, .slice (some (ad blk 0)) 2 2, .int .i64 100] w fun e w' => e = .returned (.tuple #[.string ⟨(b ++ [32] ++ a ++ tailL.map UInt8.ofNat).toArray⟩, .bool true]) ∧ ButOne blk w w' := fun x sa sd ok k1 k2 k3 k4 k5 k6 k7 => by
    have := ran_sem (w := w) ok k1 k2 k3 k4 k5 (blk := blk) (by rw [k6]; exact h0) h1 hb
    rw [prog_val, k7] at this
    exact this
  have dg := digits_of hd
  have len1 : ∀ l : List UInt8, l.length = 1 → ∃ x, l = [x] := fun l h => by
    match l, h with
    | [x], _ => exact ⟨x, rfl⟩
  have len2 : ∀ l : List UInt8, l.length = 2 → ∃ x y, l = [x, y] := fun l h => by
    match l, h with
    | [x, y], _ => exact ⟨x, y, rfl⟩
  have len3 : ∀ l : List UInt8, l.length = 3 → ∃ x y z, l = [x, y, z] := fun l h => by
    match l, h with
    | [x, y, z], _ => exact ⟨x, y, z, rfl⟩
  rcases la with la | la | la <;> rcases lb with lb | lb | lb
  · obtain ⟨x, rfl⟩ := len1 a la; obtain ⟨y, rfl⟩ := len1 b lb; exact fin mC11 _ _ (okC11 dg) rfl rfl rfl rfl rfl rfl rfl
  · obtain ⟨x, rfl⟩ := len1 a la; obtain ⟨y, y2, rfl⟩ := len2 b lb; exact fin mC12 _ _ (okC12 dg) rfl rfl rfl rfl rfl rfl rfl
  · obtain ⟨x, rfl⟩ := len1 a la; obtain ⟨y, y2, y3, rfl⟩ := len3 b lb; exact fin mC13 _ _ (okC13 dg) rfl rfl rfl rfl rfl rfl rfl
  · obtain ⟨x, x2, rfl⟩ := len2 a la; obtain ⟨y, rfl⟩ := len1 b lb; exact fin mC21 _ _ (okC21 dg) rfl rfl rfl rfl rfl rfl rfl
  · obtain ⟨x, x2, rfl⟩ := len2 a la; obtain ⟨y, y2, rfl⟩ := len2 b lb; exact fin mC22 _ _ (okC22 dg) rfl rfl rfl rfl rfl rfl rfl
  · obtain ⟨x, x2, rfl⟩ := len2 a la; obtain ⟨y, y2, y3, rfl⟩ := len3 b lb; exact fin mC23 _ _ (okC23 dg) rfl rfl rfl rfl rfl rfl rfl
  · obtain ⟨x, x2, x3, rfl⟩ := len3 a la; obtain ⟨y, rfl⟩ := len1 b lb; exact fin mC31 _ _ (okC31 dg) rfl rfl rfl rfl rfl rfl rfl
  · obtain ⟨x, x2, x3, rfl⟩ := len3 a la; obtain ⟨y, y2, rfl⟩ := len2 b lb; exact fin mC32 _ _ (okC32 dg) rfl rfl rfl rfl rfl rfl rfl
  · obtain ⟨x, x2, x3, rfl⟩ := len3 a la; obtain ⟨y, y2, y3, rfl⟩ := len3 b lb; exact fin mC33 _ _ (okC33 dg) rfl rfl rfl rfl rfl rfl rfl
end
end Go.Gh
