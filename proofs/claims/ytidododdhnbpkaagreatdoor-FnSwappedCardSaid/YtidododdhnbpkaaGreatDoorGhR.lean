import Derived.Test.YtidododdhnbpkaaGreatDoorGhT
import Derived.Calls
import Derived.Below
/- What it means that plain values stand for what is in memory. -/
set_option linter.unusedVariables false
set_option linter.unusedSimpArgs false
namespace Go.Gh
open Go.RowKit
section
variable {α : Type}
/-! ### The tree -/
theorem beq_mod (k : Nat) : Nat.beq (Nat.mod k 2) 0 = decide (k % 2 = 0) := by
  show Nat.beq (k % 2) 0 = _
  cases h : Nat.beq (k % 2) 0 with
  | true => simp [Nat.eq_of_beq_eq_true h]
  | false => have := Nat.ne_of_beq_eq_false h; simp [this]
def Tr.set : Nat → Tr α → Nat → Option α → Tr α
  | 0, t, _, _ => t
  | f + 1, t, k, v => match t, k with
    | .nil, 0 => .node .nil v .nil
    | .node l _ r, 0 => .node l v r
    | .nil, k + 1 => if k % 2 = 0 then .node (Tr.set f .nil (k / 2) v) none .nil else .node .nil none (Tr.set f .nil (k / 2) v)
    | .node l x r, k + 1 => if k % 2 = 0 then .node (Tr.set f l (k / 2) v) x r else .node l x (Tr.set f r (k / 2) v)
theorem setK_eq (v : Option α) : ∀ (f : Nat) (t : Tr α) (k : Nat) (K : Tr α → Option R), Tr.setK f t k v K = K (Tr.set f t k v)
  | 0, t, k, K => rfl
  | f + 1, t, k, K => by
    have ih := setK_eq v f
    have hs : ∀ (l r : Tr α) (x : Option α), nodeK (Tr.setK f) k v K l x r = K (match k with | 0 => .node l v r | k + 1 => if k % 2 = 0 then .node (Tr.set f l (k / 2) v) x r else .node l x (Tr.set f r (k / 2) v)) := fun l r x => by
      cases k with
      | zero => rfl
      | succ k =>
        have e : nodeK (Tr.setK f) (k + 1) v K l x r = Bool.rec (motive := fun _ => Option R) (Tr.setK f r (Nat.div k 2) v fun r => K (.node l x r)) (Tr.setK f l (Nat.div k 2) v fun l => K (.node l x r)) (Nat.beq (Nat.mod k 2) 0) := rfl
        rw [e, beq_mod]
        by_cases h : k % 2 = 0
        · simp only [h, decide_true, if_true]; exact ih _ _ _
        · simp only [h, decide_false, if_false]; exact ih _ _ _
    cases t with
    | nil =>
      show nodeK (Tr.setK f) k v K .nil none .nil = _
      rw [hs]; cases k <;> rfl
    | node l x r =>
      show nodeK (Tr.setK f) k v K l x r = _
      rw [hs]; cases k <;> rfl
theorem get_nil (j : Nat) : (Tr.nil : Tr α).get j = none := by cases j <;> rfl
theorem get_succ (l r : Tr α) (x : Option α) (j : Nat) : (Tr.node l x r).get (j + 1) = if j % 2 = 0 then l.get (j / 2) else r.get (j / 2) := by
  have e : (Tr.node l x r).get (j + 1) = Bool.rec (motive := fun _ => Option α) (r.get (Nat.div j 2)) (l.get (Nat.div j 2)) (Nat.beq (Nat.mod j 2) 0) := rfl
  rw [e, beq_mod]
  by_cases h : j % 2 = 0
  · simp only [h, decide_true, if_true]; rfl
  · simp only [h, decide_false, if_false]; rfl
theorem get_set (v : Option α) : ∀ (f : Nat) (t : Tr α) (k j : Nat), k < f → (Tr.set f t k v).get j = if j = k then v else t.get j
  | 0, t, k, j, h => by omega
  | f + 1, t, 0, j, h => by
    cases t <;> cases j
    · rfl
    · simp [Tr.set, get_succ, get_nil]
    · rfl
    · simp [Tr.set, get_succ]
  | f + 1, t, k + 1, j, h => by
    have ih := get_set v f
    have ih' : ∀ t j, (Tr.set f t (k / 2) v).get j = if j = k / 2 then v else t.get j := fun t j => ih t _ j (by omega)
    cases t <;> cases j
    · simp only [Tr.set]; split <;> rfl
    · rename_i j
      simp only [Tr.set]
      split <;> rw [get_succ, get_nil] <;> by_cases hj : j % 2 = 0
      · have h1 : j / 2 = k / 2 ↔ j + 1 = k + 1 := by omega
        simp [hj, ih', get_nil, h1]
      · have h1 : ¬ j + 1 = k + 1 := by omega
        simp only [hj, if_false, get_nil, h1]
      · have h1 : ¬ j + 1 = k + 1 := by omega
        simp only [hj, if_true, get_nil, h1, if_false]
      · have h1 : j / 2 = k / 2 ↔ j + 1 = k + 1 := by omega
        simp [hj, ih', get_nil, h1]
    · simp only [Tr.set]; split <;> rfl
    · rename_i l x r j
      simp only [Tr.set]
      split <;> rw [get_succ, get_succ] <;> by_cases hj : j % 2 = 0
      · have h1 : j / 2 = k / 2 ↔ j + 1 = k + 1 := by omega
        simp [hj, ih', h1]
      · have h1 : ¬ j + 1 = k + 1 := by omega
        simp only [hj, if_false, h1]
      · have h1 : ¬ j + 1 = k + 1 := by omega
        simp only [hj, if_true, h1, if_false]
      · have h1 : j / 2 = k / 2 ↔ j + 1 = k + 1 := by omega
        simp [hj, ih', h1]
end

section
variable {r : R}
def Tr.put {α : Type} (t : Tr α) (k : Nat) (v : Option α) : Tr α := Tr.set (Nat.succ k) t k v
theorem get_put {α : Type} (t : Tr α) (k j : Nat) (v : Option α) : (t.put k v).get j = if j = k then v else t.get j := get_set v _ t k j (Nat.lt_succ_self k)
theorem putE_eq (t : Env) (k : Nat) (d : D) (K : Env → Option R) : putE t k d K = K (t.put k (some d)) := setK_eq _ _ _ _ _
theorem hput_eq (h : Heap) (o : Nat) (c : Obj) (K : Heap → Option R) : hput h o c K = K (h.put o (some c)) := setK_eq _ _ _ _ _
theorem hdel_eq (h : Heap) (o : Nat) (K : Heap → Option R) : hdel h o K = K (h.put o none) := setK_eq _ _ _ _ _
theorem getE_put (t : Env) (k : Nat) (d : D) (j : Nat) : getE (t.put k (some d)) j = if j = k then d else getE t j := by
  unfold getE; rw [get_put]; by_cases h : j = k <;> simp only [h, if_true, if_false]
theorem req_some {c : Bool} {k : Option R} (h : req c k = some r) : c = true ∧ k = some r := by
  cases c
  · cases h
  · exact ⟨rfl, h⟩
theorem onSome_some {α : Type} {o : Option α} {k : α → Option R} (h : onSome o k = some r) : ∃ a, o = some a ∧ k a = some r := by
  cases o with
  | none => cases h
  | some a => exact ⟨a, rfl, h⟩
theorem hget_some {h : Heap} {o : Nat} {K : Obj → Option R} (e : hget h o K = some r) : ∃ c, h.get o = some c ∧ K c = some r := by
  unfold hget at e
  cases hc : h.get o with
  | none => rw [hc] at e; cases e
  | some c => rw [hc] at e; exact ⟨c, rfl, e⟩

/-! ### Rows -/
theorem dropL_some {α : Type} : ∀ (n : Nat) (l : List α) (K : List α → Option R), dropL n l K = some r → ∃ A B, l = A ++ B ∧ A.length = n ∧ K B = some r
  | 0, l, K, e => ⟨[], l, rfl, rfl, e⟩
  | n + 1, [], K, e => by cases e
  | n + 1, a :: l, K, e => by
    obtain ⟨A, B, rfl, h, e⟩ := dropL_some n l K e
    exact ⟨a :: A, B, rfl, by simp [h], e⟩
theorem takeL_some {α : Type} : ∀ (n : Nat) (l : List α) (K : List α → Option R), takeL n l K = some r → ∃ A B, l = A ++ B ∧ A.length = n ∧ K A = some r
  | 0, l, K, e => ⟨[], l, rfl, rfl, e⟩
  | n + 1, [], K, e => by cases e
  | n + 1, a :: l, K, e => by
    obtain ⟨A, B, rfl, h, e⟩ := takeL_some n l _ e
    exact ⟨a :: A, B, rfl, by simp [h], e⟩
theorem cut_some {l : List D} {off n : Nat} {K : List D → Option R} (e : cut l off n K = some r) : ∃ A B C, l = A ++ B ++ C ∧ A.length = off ∧ B.length = n ∧ K B = some r := by
  obtain ⟨A, B, rfl, h, e⟩ := dropL_some _ _ _ e
  obtain ⟨B, C, rfl, h2, e⟩ := takeL_some _ _ _ e
  exact ⟨A, B, C, by simp, h, h2, e⟩
theorem splice0_some : ∀ (l ds : List D) (K : List D → Option R), splice0 l ds K = some r → ∃ B C, l = B ++ C ∧ B.length = ds.length ∧ K (ds ++ C) = some r
  | l, [], K, e => ⟨[], l, rfl, rfl, e⟩
  | [], d :: ds, K, e => by cases e
  | a :: l, d :: ds, K, e => by
    obtain ⟨B, C, rfl, h, e⟩ := splice0_some l ds _ e
    exact ⟨a :: B, C, rfl, by simp [h], e⟩
theorem splice_some : ∀ (off : Nat) (l ds : List D) (K : List D → Option R), splice off l ds K = some r → ∃ A B C, l = A ++ B ++ C ∧ A.length = off ∧ B.length = ds.length ∧ K (A ++ ds ++ C) = some r
  | 0, l, ds, K, e => by
    obtain ⟨B, C, rfl, h, e⟩ := splice0_some l ds K e
    exact ⟨[], B, C, rfl, rfl, h, e⟩
  | n + 1, [], ds, K, e => by cases e
  | n + 1, a :: l, ds, K, e => by
    obtain ⟨A, B, C, rfl, h, h2, e⟩ := splice_some n l ds _ e
    exact ⟨a :: A, B, C, rfl, by simp [h], h2, e⟩
theorem catL_eq {α : Type} : ∀ (x y : List α) (K : List α → Option R), catL x y K = K (x ++ y)
  | [], y, K => rfl
  | a :: x, y, K => catL_eq x y fun r => K (a :: r)
theorem mapL_eq {α β : Type} (f : α → β) : ∀ (l : List α) (K : List β → Option R), mapL f l K = K (l.map f)
  | [], K => rfl
  | a :: l, K => by simp only [mapL, mapL_eq f l, List.map_cons]
theorem repL_eq {α : Type} (l : List α) : ∀ (n : Nat) (K : List α → Option R), repL l n K = K ((List.replicate n l).flatten)
  | 0, K => rfl
  | n + 1, K => by
    show repL l n (fun r => catL l r K) = _
    rw [repL_eq l n, catL_eq, List.replicate_succ, List.flatten_cons]
theorem optL_some {α β : Type} {f : α → Option β} : ∀ {l : List α} {K : List β → Option R}, optL f l K = some r → ∃ l' : List β, K l' = some r ∧ l.length = l'.length ∧ ∀ (i : Nat) (a : α), l[i]? = some a → ∃ b, l'[i]? = some b ∧ f a = some b
  | [], K, e => ⟨[], e, rfl, by simp⟩
  | a :: l, K, e => by
    simp only [optL] at e
    split at e
    · rename_i b hb
      obtain ⟨l', e, h1, h2⟩ := optL_some e
      refine ⟨b :: l', e, by simp [h1], fun i x hi => ?_⟩
      cases i with
      | zero => simp at hi; subst hi; exact ⟨b, rfl, hb⟩
      | succ i => simpa using h2 i x (by simpa using hi)
    · cases e
end

/-! ### The relation -/
structure Loc where
  b : Nat
  base : Nat
  size : Nat
/-- Where objects lie. -/
abbrev Mp := Nat → Option Loc
def ad (b off : Nat) : Addr := ⟨b, off, none⟩
/-- What bytes the codes stand for. -/
structure Digits (val : Nat → UInt8) : Prop where
  lit : ∀ c, c < 256 → val c = UInt8.ofNat c
  dig : ∀ c, 256 ≤ c → 48 ≤ (val c).toNat ∧ (val c).toNat ≤ 57

section
variable (val : Nat → UInt8) (M : Mp)
mutual
def VRel : D → Value → Prop
  | .int k n, v => v = .int k n
  | .sym k c, v => 256 ≤ c ∧ v = .int k (val c).toNat
  | .bool b, v => v = .bool b
  | .str s, v => v = .string ⟨(s.map val).toArray⟩
  | .undef, _ => True
  | .nilp, v => v = .pointer none
  | .nilf, v => v = .nilFunc
  | .nili, v => v = .nilIface
  | .nils, v => v = .slice none 0 0
  | .ptr o off, v => ∃ l, M o = some l ∧ v = .pointer (some (ad l.b (l.base + off)))
  | .sl st o off len, v => ∃ l a c, M o = some l ∧ v = .slice (some (ad l.b a)) len c ∧ len ≤ c ∧ 0 < st ∧ off + c * st ≤ l.size ∧ (c ≠ 0 → a = l.base + off)
  | .map o, v => ∃ l, M o = some l ∧ v = .map (some l.b)
  | .iter o, v => ∃ l, M o = some l ∧ v = .pointer (some (ad l.b 0))
  | .clo f cap, v => ∃ vs, v = .func (.func f) #[] vs ∧ VRelL cap vs.toList
  | .ifc t d, v => ∃ x, v = .iface t x ∧ VRel d x
  | .agg l, v => ∃ vs, v = .agg vs ∧ VRelL l vs.toList
  | .tup l, v => ∃ vs, v = .tuple vs ∧ VRelL l vs.toList
def VRelL : List D → List Value → Prop
  | [], vs => vs = []
  | d :: ds, vs => ∃ v vs', vs = v :: vs' ∧ VRel d v ∧ VRelL ds vs'
end
end
/-- A cell that may be written, and what it holds. -/
def Mine (w : World) (b off : Nat) (v : Value) : Prop := w.cell? (ad b off) = some v ∧ w.frozen? (ad b off) = false
section
variable (val : Nat → UInt8) (w : World) (M : Mp)
def OR (c : Obj) (l : Loc) : Prop :=
  match c with
  | .cells ds => ds.length ≤ l.size ∧ (∀ i, i < l.size → ∃ v, Mine w l.b (l.base + i) v) ∧ ∀ i d, ds[i]? = some d → ∃ v, w.cell? (ad l.b (l.base + i)) = some v ∧ VRel val M d v
  | .map es => ∃ es' clock, w.heap[l.b]? = some (.map es' clock) ∧ VRelL val M (es.map (·.1)) (es'.toList.map (·.key)) ∧ VRelL val M (es.map (·.2)) (es'.toList.map (·.val))
  | .iter s pos => ∃ bs : ByteArray, w.heap[l.b]? = some (.stringIter bs pos) ∧ pos + s.length = bs.size ∧ bs.data.toList.drop pos = s.map val
/-- The heap. -/
structure HR (h : Heap) (n : Nat) : Prop where
  obj : ∀ o c l, h.get o = some c → M o = some l → OR val w M c l
  inj : ∀ o o' c c' l l', h.get o = some c → h.get o' = some c' → M o = some l → M o' = some l' → l.b = l'.b → o = o'
  new : ∀ o l, M o = some l → o < n
  bound : ∀ o l, M o = some l → l.b < w.heap.size
  top : ∀ o c, h.get o = some c → o < n
end
/-- A block that is no live object's. -/
def Away (M : Mp) (h : Heap) (b : Nat) : Prop := ∀ o c l, h.get o = some c → M o = some l → l.b ≠ b
/-- What may have turned: only what was live. -/
structure Step (M : Mp) (w : World) (h : Heap) (M' : Mp) (w' : World) (h' : Heap) (new : Nat → Prop) : Prop where
  ext : ∀ o l, M o = some l → M' o = some l
  fresh : ∀ o l, M o = none → M' o = some l → new o
  os : w'.os = w.os ∧ w'.tape = w.tape ∧ w'.output = w.output
  size : w.heap.size ≤ w'.heap.size
  frame : ∀ b, b < w.heap.size → Away M h b → w'.heap[b]? = w.heap[b]? ∧ Away M' h' b
end Go.Gh
