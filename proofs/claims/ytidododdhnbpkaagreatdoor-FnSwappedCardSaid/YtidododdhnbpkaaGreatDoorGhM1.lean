import Derived.Test.YtidododdhnbpkaaGreatDoorGhC3
/- Calls that have been run by themselves are used again: with their own part of the heap, under other names. -/
set_option linter.unusedVariables false
set_option linter.unusedSimpArgs false
set_option linter.unnecessarySimpa false
noncomputable section
namespace Go.Gh
mutual
/-- The same, parts and all. -/
def eqW : D → D → Bool
  | .int k n, b => (match b with | .int k' n' => ikEq k k' && eqI n n' | _ => false)
  | .sym k n, b => (match b with | .sym k' n' => ikEq k k' && Nat.beq n n' | _ => false)
  | .bool x, b => (match b with | .bool y => eqB x y | _ => false)
  | .str x, b => (match b with | .str y => eqL x y | _ => false)
  | .undef, b => (match b with | .undef => true | _ => false)
  | .nilp, b => (match b with | .nilp => true | _ => false)
  | .nilf, b => (match b with | .nilf => true | _ => false)
  | .nili, b => (match b with | .nili => true | _ => false)
  | .nils, b => (match b with | .nils => true | _ => false)
  | .ptr o k, b => (match b with | .ptr o' k' => Nat.beq o o' && Nat.beq k k' | _ => false)
  | .sl s o k n, b => (match b with | .sl s' o' k' n' => (Nat.beq s s' && Nat.beq o o') && (Nat.beq k k' && Nat.beq n n') | _ => false)
  | .map o, b => (match b with | .map o' => Nat.beq o o' | _ => false)
  | .iter o, b => (match b with | .iter o' => Nat.beq o o' | _ => false)
  | .clo f c, b => (match b with | .clo f' c' => Nat.beq f f' && eqWs c c' | _ => false)
  | .ifc t d, b => (match b with | .ifc t' d' => Nat.beq t t' && eqW d d' | _ => false)
  | .agg l, b => (match b with | .agg l' => eqWs l l' | _ => false)
  | .tup l, b => (match b with | .tup l' => eqWs l l' | _ => false)
def eqWs : List D → List D → Bool
  | [], b => (match b with | [] => true | _ => false)
  | d :: ds, b => (match b with | [] => false | d' :: ds' => eqW d d' && eqWs ds ds')
end
def eqWe : List (D × D) → List (D × D) → Bool
  | [], b => (match b with | [] => true | _ => false)
  | d :: ds, b => (match b with | [] => false | d' :: ds' => (eqW d.1 d'.1 && eqW d.2 d'.2) && eqWe ds ds')
def eqWo : Obj → Obj → Bool
  | .cells x, b => (match b with | .cells y => eqWs x y | _ => false)
  | .map x, b => (match b with | .map y => eqWe x y | _ => false)
  | .iter s p, b => (match b with | .iter s' p' => eqL s s' && Nat.beq p p' | _ => false)
mutual
/-- All names in it come ahead of this one. -/
def below (m : Nat) : D → Bool
  | .ptr o _ => Nat.blt o m
  | .sl _ o _ _ => Nat.blt o m
  | .map o => Nat.blt o m
  | .iter o => Nat.blt o m
  | .clo _ c => belows m c
  | .ifc _ d => below m d
  | .agg l => belows m l
  | .tup l => belows m l
  | _ => true
def belows (m : Nat) : List D → Bool
  | [] => true
  | d :: ds => below m d && belows m ds
end
def belowO (m : Nat) : Obj → Bool
  | .cells l => belows m l
  | .map l => belows m (l.map (·.1)) && belows m (l.map (·.2))
  | .iter .. => true
/-- From 'm' on names are 'n' and on. -/
def renN (m n o : Nat) : Nat := match Nat.blt o m with | true => o | false => Nat.add n (Nat.sub o m)
mutual
def renD (m n : Nat) : D → D
  | .ptr o k => .ptr (renN m n o) k
  | .sl s o k l => .sl s (renN m n o) k l
  | .map o => .map (renN m n o)
  | .iter o => .iter (renN m n o)
  | .clo f c => .clo f (renL m n c)
  | .ifc t d => .ifc t (renD m n d)
  | .agg l => .agg (renL m n l)
  | .tup l => .tup (renL m n l)
  | .int k x => .int k x
  | .sym k x => .sym k x
  | .bool x => .bool x
  | .str x => .str x
  | .undef => .undef
  | .nilp => .nilp
  | .nilf => .nilf
  | .nili => .nili
  | .nils => .nils
def renL (m n : Nat) : List D → List D
  | [] => []
  | d :: ds => renD m n d :: renL m n ds
end
def renO (m n : Nat) : Obj → Obj
  | .cells l => .cells (renL m n l)
  | .map es => .map (es.map fun x => (renD m n x.1, renD m n x.2))
  | .iter s p => .iter s p
/-- A call that has been run by itself. -/
structure Memo where
  k : Nat
  args : List D
  ins : List (Nat × Obj)
  n : Nat
  d : D
  outs : List (Nat × Obj)
  n' : Nat
def takeK : List (Nat × Obj) → Heap → (Heap → Option R) → Option R
  | [], h, K => K h
  | x :: l, h, K => hget h x.1 fun c => req (eqWo x.2 c) (hdel h x.1 fun h => takeK l h K)
def putsK (m n : Nat) : List (Nat × Obj) → Heap → (Heap → Option R) → Option R
  | [], h, K => K h
  | x :: l, h, K => hput h (renN m n x.1) (renO m n x.2) fun h => putsK m n l h K
def putL : List (Nat × Obj) → Heap → (Heap → Option R) → Option R
  | [], h, K => K h
  | x :: l, h, K => hput h x.1 x.2 fun h => putL l h K
def useK (m : Memo) (h : Heap) (n : Nat) (K : Res → Heap → Nat → Option R) : Option R :=
  req (Nat.ble m.n n) (takeK m.ins h fun h => putsK m.n n m.outs h fun h => K (.val (renD m.n n m.d)) h (Nat.add n (Nat.sub m.n' m.n)))
def findMemo (k : Nat) (args : List D) : List Memo → Option Memo
  | [] => none
  | m :: ms => match Nat.beq k m.k && eqWs m.args args with | true => some m | false => findMemo k args ms
def memoO (ms : List Memo) (O : Oracle) : Oracle := fun T h n K => match T with
  | .call k args => (match findMemo k args ms with | some m => useK m h n K | none => O (.call k args) h n K)
  | .loop b t => O (.loop b t) h n K
def memoI (I : Info) (ms : List Memo) : Nat → Oracle
  | 0 => fun _ _ _ _ => none
  | f + 1 => memoO ms (taskK I (memoI I ms f))
def memoWf (m : Memo) : Bool := belows m.n m.args && m.ins.all fun x => Nat.blt x.1 m.n && belowO m.n x.2
def getsK : List (Nat × Obj) → Heap → Option R → Option R
  | [], _, k => k
  | x :: l, h, k => hget h x.1 fun c => req (eqWo x.2 c) (getsK l h k)
def doneR : R := (.val .nilp, .nil, 0)
/-- The call is run. -/
def memoRun (I : Info) (ms : List Memo) (fuel : Nat) (m : Memo) : Option R :=
  req (memoWf m) (putL m.ins .nil fun h => memoI I ms fuel (.call m.k m.args) h m.n fun r h n => match r with
    | .val d => req (eqW m.d d && Nat.beq m.n' n) (getsK m.outs h (some doneR))
    | .out .. => none)

section
/-! ### What that is worth -/
mutual
theorem eqW_eq : ∀ (a b : D), eqW a b = true → a = b
  | .int k n, b, h => by cases b <;> simp only [eqW, Bool.and_eq_true] at h <;> first | (cases h; done) | rw [ikEq_true h.1, eqI_of h.2]
  | .sym k n, b, h => by cases b <;> simp only [eqW, Bool.and_eq_true] at h <;> first | (cases h; done) | rw [ikEq_true h.1, beq_true h.2]
  | .bool x, b, h => by cases b <;> simp only [eqW] at h <;> first | (cases h; done) | rw [eqB_of h]
  | .str x, b, h => by cases b <;> simp only [eqW] at h <;> first | (cases h; done) | rw [eqL_eq h]
  | .undef, b, h => by cases b <;> simp only [eqW] at h <;> first | rfl | cases h
  | .nilp, b, h => by cases b <;> simp only [eqW] at h <;> first | rfl | cases h
  | .nilf, b, h => by cases b <;> simp only [eqW] at h <;> first | rfl | cases h
  | .nili, b, h => by cases b <;> simp only [eqW] at h <;> first | rfl | cases h
  | .nils, b, h => by cases b <;> simp only [eqW] at h <;> first | rfl | cases h
  | .ptr o k, b, h => by cases b <;> simp only [eqW, Bool.and_eq_true] at h <;> first | (cases h; done) | rw [beq_true h.1, beq_true h.2]
  | .sl s o k n, b, h => by cases b <;> simp only [eqW, Bool.and_eq_true] at h <;> first | (cases h; done) | rw [beq_true h.1.1, beq_true h.1.2, beq_true h.2.1, beq_true h.2.2]
  | .map o, b, h => by cases b <;> simp only [eqW] at h <;> first | (cases h; done) | rw [beq_true h]
  | .iter o, b, h => by cases b <;> simp only [eqW] at h <;> first | (cases h; done) | rw [beq_true h]
  | .clo f c, b, h => by cases b <;> simp only [eqW, Bool.and_eq_true] at h <;> first | (cases h; done) | rw [beq_true h.1, eqWs_eq _ _ h.2]
  | .ifc t d, b, h => by cases b <;> simp only [eqW, Bool.and_eq_true] at h <;> first | (cases h; done) | rw [beq_true h.1, eqW_eq _ _ h.2]
  | .agg l, b, h => by cases b <;> simp only [eqW] at h <;> first | (cases h; done) | rw [eqWs_eq _ _ h]
  | .tup l, b, h => by cases b <;> simp only [eqW] at h <;> first | (cases h; done) | rw [eqWs_eq _ _ h]
theorem eqWs_eq : ∀ (a b : List D), eqWs a b = true → a = b
  | [], b, h => by cases b <;> simp only [eqWs] at h <;> first | rfl | cases h
  | d :: ds, b, h => by
    cases b <;> simp only [eqWs, Bool.and_eq_true] at h
    · cases h
    · rw [eqW_eq _ _ h.1, eqWs_eq _ _ h.2]
end
theorem eqWe_eq : ∀ (a b : List (D × D)), eqWe a b = true → a = b
  | [], b, h => by cases b <;> simp only [eqWe] at h <;> first | rfl | cases h
  | d :: ds, b, h => by
    cases b <;> simp only [eqWe, Bool.and_eq_true] at h
    · cases h
    · rw [Prod.ext (eqW_eq _ _ h.1.1) (eqW_eq _ _ h.1.2), eqWe_eq _ _ h.2]
theorem eqWo_eq (a b : Obj) (h : eqWo a b = true) : a = b := by
  cases a <;> cases b <;> simp only [eqWo, Bool.and_eq_true] at h <;> first
    | (cases h; done)
    | (rw [eqWs_eq _ _ h]; done)
    | (rw [eqWe_eq _ _ h]; done)
    | rw [eqL_eq h.1, beq_true h.2]
variable {val : Nat → UInt8} {M M' : Mp} {m n : Nat}
mutual
theorem VRel_cut (hM : ∀ o l, o < m → M o = some l → M' o = some l) : ∀ (d : D) (v : Value), below m d = true → VRel val M d v → VRel val M' d v
  | .int .., _, _, h | .sym .., _, _, h | .bool _, _, _, h | .str _, _, _, h | .undef, _, _, h | .nilp, _, _, h | .nilf, _, _, h | .nili, _, _, h | .nils, _, _, h => by simpa only [VRel] using h
  | .ptr o off, v, b, h => by simp only [VRel, below] at h b ⊢; obtain ⟨l, h1, h2⟩ := h; exact ⟨l, hM _ _ (blt_true b) h1, h2⟩
  | .sl st o off len, v, b, h => by simp only [VRel, below] at h b ⊢; obtain ⟨l, a, c, h1, h2⟩ := h; exact ⟨l, a, c, hM _ _ (blt_true b) h1, h2⟩
  | .map o, v, b, h => by simp only [VRel, below] at h b ⊢; obtain ⟨l, h1, h2⟩ := h; exact ⟨l, hM _ _ (blt_true b) h1, h2⟩
  | .iter o, v, b, h => by simp only [VRel, below] at h b ⊢; obtain ⟨l, h1, h2⟩ := h; exact ⟨l, hM _ _ (blt_true b) h1, h2⟩
  | .clo f cap, v, b, h => by simp only [VRel, below] at h b ⊢; obtain ⟨vs, h1, h2⟩ := h; exact ⟨vs, h1, VRelL_cut hM _ _ b h2⟩
  | .ifc t d, v, b, h => by simp only [VRel, below] at h b ⊢; obtain ⟨x, h1, h2⟩ := h; exact ⟨x, h1, VRel_cut hM _ _ b h2⟩
  | .agg l, v, b, h => by simp only [VRel, below] at h b ⊢; obtain ⟨vs, h1, h2⟩ := h; exact ⟨vs, h1, VRelL_cut hM _ _ b h2⟩
  | .tup l, v, b, h => by simp only [VRel, below] at h b ⊢; obtain ⟨vs, h1, h2⟩ := h; exact ⟨vs, h1, VRelL_cut hM _ _ b h2⟩
theorem VRelL_cut (hM : ∀ o l, o < m → M o = some l → M' o = some l) : ∀ (l : List D) (vs : List Value), belows m l = true → VRelL val M l vs → VRelL val M' l vs
  | [], _, _, h => by simpa only [VRelL] using h
  | d :: ds, vs, b, h => by
    simp only [VRelL, belows, Bool.and_eq_true] at h b ⊢
    obtain ⟨v, vs', e, h1, h2⟩ := h
    exact ⟨v, vs', e, VRel_cut hM d v b.1 h1, VRelL_cut hM ds vs' b.2 h2⟩
end
mutual
theorem VRel_ren (hM : ∀ o l, M o = some l → M' (renN m n o) = some l) : ∀ (d : D) (v : Value), VRel val M d v → VRel val M' (renD m n d) v
  | .int .., _, h | .sym .., _, h | .bool _, _, h | .str _, _, h | .undef, _, h | .nilp, _, h | .nilf, _, h | .nili, _, h | .nils, _, h => by simpa only [VRel, renD] using h
  | .ptr o off, v, h => by simp only [VRel, renD] at h ⊢; obtain ⟨l, h1, h2⟩ := h; exact ⟨l, hM _ _ h1, h2⟩
  | .sl st o off len, v, h => by simp only [VRel, renD] at h ⊢; obtain ⟨l, a, c, h1, h2⟩ := h; exact ⟨l, a, c, hM _ _ h1, h2⟩
  | .map o, v, h => by simp only [VRel, renD] at h ⊢; obtain ⟨l, h1, h2⟩ := h; exact ⟨l, hM _ _ h1, h2⟩
  | .iter o, v, h => by simp only [VRel, renD] at h ⊢; obtain ⟨l, h1, h2⟩ := h; exact ⟨l, hM _ _ h1, h2⟩
  | .clo f cap, v, h => by simp only [VRel, renD] at h ⊢; obtain ⟨vs, h1, h2⟩ := h; exact ⟨vs, h1, VRelL_ren hM _ _ h2⟩
  | .ifc t d, v, h => by simp only [VRel, renD] at h ⊢; obtain ⟨x, h1, h2⟩ := h; exact ⟨x, h1, VRel_ren hM _ _ h2⟩
  | .agg l, v, h => by simp only [VRel, renD] at h ⊢; obtain ⟨vs, h1, h2⟩ := h; exact ⟨vs, h1, VRelL_ren hM _ _ h2⟩
  | .tup l, v, h => by simp only [VRel, renD] at h ⊢; obtain ⟨vs, h1, h2⟩ := h; exact ⟨vs, h1, VRelL_ren hM _ _ h2⟩
theorem VRelL_ren (hM : ∀ o l, M o = some l → M' (renN m n o) = some l) : ∀ (l : List D) (vs : List Value), VRelL val M l vs → VRelL val M' (renL m n l) vs
  | [], _, h => by simpa only [VRelL, renL] using h
  | d :: ds, vs, h => by
    simp only [VRelL, renL] at h ⊢
    obtain ⟨v, vs', e, h1, h2⟩ := h
    exact ⟨v, vs', e, VRel_ren hM d v h1, VRelL_ren hM ds vs' h2⟩
end
theorem renL_map : ∀ l : List D, renL m n l = l.map (renD m n)
  | [] => rfl
  | d :: l => by simp only [renL, List.map_cons, renL_map l]
end
end Go.Gh
