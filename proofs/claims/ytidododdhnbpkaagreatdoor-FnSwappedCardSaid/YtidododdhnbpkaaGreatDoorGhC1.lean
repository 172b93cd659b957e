import Derived.Test.YtidododdhnbpkaaGreatDoorGhO9
set_option linter.unusedVariables false
set_option linter.unnecessarySimpa false
set_option linter.unusedSimpArgs false
namespace Go.Gh
open Go.RowKit
section
variable {P : Program} {I : Info} {O : Oracle} {val : Nat → UInt8} {a : Act} {o : Oper} {M : Mp} {w : World} {h : Heap} {t : Env} {nm n : Nat} {r : R} {K : D → Heap → Nat → Option R}

/-- A function ends so: one of the program's, or one that is given. -/
def Ends (P : Program) (k : Nat) (args : Array Value) (w : World) (Q : Ending → World → Prop) : Prop :=
  (∃ fn, P.funcs[k]? = some fn ∧ (fn.name == "runtime.NumGoroutine") = false ∧ fn.body.isNone = false ∧ Calls P k args w Q) ∨ ∃ v w', (callFunc k args).run P w = .ok (.value v) w' ∧ Q (.returned v) w'
/-- What follows a call: in terms of the callee's end. -/
theorem call_next {c : Call} {f : Operand} {k : Nat} {cap args : Array Value} {Q : Ending → World → Prop} (ho : o.op = .call c) (hc : c.callee = .value f) (hf : a.eval f = .func (.func k) #[] cap) (hargs : c.args.map a.eval ++ cap = args) (he : Ends P k args w Q)
    (next : Act → World → Prop) (Qx : Exit → Act → World → Prop) (hq : ∀ e w', Q e w' → ∃ v, e = .returned v ∧ next (a.put o.dst v) w') : o.wp P a w next Qx := by
  have hrun : (execOp a.eval o).run P w = (callFunc k args).run P w := by
    simp [execOp, ho, resolve, hc, hf, Deferred.ofValue, invoke, hargs]
  unfold Oper.wp
  rw [hrun]
  rcases he with ⟨fn, h1, h2, h3, h4⟩ | ⟨v, w', h1, h2⟩
  · have : (callFunc k args).run P w = .ok (.enter k args) w := by
      have h2' : fn.name ≠ "runtime.NumGoroutine" := by simpa using h2
      have h3' : fn.body ≠ none := by intro q; rw [q] at h3; cases h3
      simp [callFunc, h1, h2', h3']
    rw [this, Oper.upon_enter]
    exact h4.mono fun e w' q => by
      obtain ⟨v, rfl, q2⟩ := hq e w' q
      exact q2
  · rw [h1, Oper.upon_value]
    obtain ⟨v', q1, q2⟩ := hq _ _ h2
    cases q1
    exact q2

/-- The heap stays as it is where the world only grows. -/
structure Grown (w w' : World) : Prop where
  os : w'.os = w.os ∧ w'.tape = w.tape ∧ w'.output = w.output
  size : w.heap.size ≤ w'.heap.size
  blk : ∀ b, b < w.heap.size → w'.heap[b]? = w.heap[b]?
theorem Grown.hr {w' : World} (g : Grown w w') (H : HR val w M h n) : HR val w' M h n :=
  ⟨fun o c l h1 h2 => OR_keep (fun _ _ q => q) (g.blk _ (H.bound o l h2)) (H.obj o c l h1 h2), H.inj, H.new, fun o l q => Nat.lt_of_lt_of_le (H.bound o l q) g.size, H.top⟩
theorem Grown.step {w' : World} (g : Grown w w') (new : Nat → Prop) : Step M w h M w' h new :=
  ⟨fun _ _ q => q, fun _ _ q1 q2 => (by rw [q1] at q2; cases q2), g.os, g.size, fun b hb q => ⟨g.blk b hb, q⟩⟩

def PrimOk (P : Program) (val : Nat → UInt8) (I : Info) : Prop :=
  ∀ k f, I.prim k = some f → ∀ h args d, f h args = some d → ∀ M w n (vs : Array Value), HR val w M h n → VRelL val M args vs.toList → Ends P k vs w fun e w' => ∃ v, e = .returned v ∧ VRel val M d v ∧ Grown w w'
def FOk (P : Program) (I : Info) : Prop := ∀ k f, I.fn k = some f → P.funcs[k]? = some f ∧ (f.name == "runtime.NumGoroutine") = false ∧ funOk f = true
/-- A loop that is gone into, or round again. -/
def LW (P : Program) (c : Code) (Q : Exit → Act → World → Prop) (a : Act) (w : World) : Prop :=
  ∀ (b : Frame) (k : List Item) (cs : List Frame), ∃ e a' w', Q e a' w' ∧ Arrives P (lone (b.at a (.code c :: .inLoop c :: k)) cs w) b k cs e a' w'
theorem wp_of_LW {c : Code} {Q : Exit → Act → World → Prop} (h : LW P c Q a w) : (Code.loop c).wp P Q a w := fun b k cs =>
  let ⟨e, a', w', q, r⟩ := h b k cs; ⟨e, a', w', q, .of_steps (.one step_loop) r⟩
theorem LW_unroll {c : Code} {Q : Exit → Act → World → Prop} (h : c.wp P (Exit.then (LW P c Q) Q) a w) : LW P c Q a w := by
  intro b k cs
  obtain ⟨e, a1, w1, hq, harr⟩ := h b (.inLoop c :: k) cs
  cases e with
  | normal =>
    obtain ⟨e2, a2, w2, hq2, harr2⟩ := hq b k cs
    exact ⟨e2, a2, w2, hq2, .of_steps (Steps.trans harr (.one step_inLoop)) harr2⟩
  | exit id => exact ⟨_, a1, w1, hq, .pass (x := .inLoop c) rfl (fun _ _ => .inl (by simp)) harr⟩
  | goto l => exact ⟨_, a1, w1, hq, .pass (x := .inLoop c) rfl (fun _ _ => .inl (by simp)) harr⟩
  | ret => exact ⟨_, a1, w1, hq, .pass (x := .inLoop c) rfl (fun _ _ => .inl (by simp)) harr⟩
  | panic ch => exact ⟨_, a1, w1, hq, .pass (x := .inLoop c) rfl (fun _ _ => .inl (by simp)) harr⟩
  | outgrown => exact ⟨_, a1, w1, hq, .pass (x := .inLoop c) rfl (fun _ _ => .inl (by simp)) harr⟩
def exitOf : X → Exit
  | .normal => .normal
  | .exit id => .exit id
  | .ret => .ret
def within (n n' : Nat) (x : Nat) : Prop := n ≤ x ∧ x < n'
/-- What a task comes to. -/
def TaskSem (P : Program) (val : Nat → UInt8) (T : Task) (h : Heap) (n : Nat) (Post : Res → Heap → Nat → Prop) : Prop :=
  match T with
  | .call k args => ∀ M w (vs : Array Value), HR val w M h n → VRelL val M args vs.toList → Ends P k vs w fun e w' => ∃ v M' d h' n', e = .returned v ∧ Post (.val d) h' n' ∧ n ≤ n' ∧ HR val w' M' h' n' ∧ VRel val M' d v ∧ Step M w h M' w' h' (within n n')
  | .loop b t => ∀ M w (a : Act), HR val w M h n → ER val M t a.tmps → codeOk a.tmps.size b = true → ∀ Q : Exit → Act → World → Prop,
      (∀ x t' h' n' a' w' M', Post (.out x t') h' n' → n ≤ n' → HR val w' M' h' n' → ER val M' t' a'.tmps → a'.tmps.size = a.tmps.size → a'.defers = a.defers → Step M w h M' w' h' (within n n') → Q (exitOf x) a' w') → LW P b Q a w
def OSound (P : Program) (val : Nat → UInt8) (O : Oracle) : Prop := ∀ T h n K r, O T h n K = some r → TaskSem P val T h n fun res h' n' => K res h' n' = some r

theorem VRelL_cat {l1 l2 : List D} {v1 v2 : List Value} (h1 : VRelL val M l1 v1) (h2 : VRelL val M l2 v2) : VRelL val M (l1 ++ l2) (v1 ++ v2) := VRelL_append.2 ⟨_, _, rfl, h1, h2⟩
theorem op_call {f : Operand} {c : Call} (hv : Digits val) (hP : PrimOk P val I) (hO : OSound P val O) (H : HR val w M h n) (E : ER val M t a.tmps) (ho : o.op = .call c) (hc : c.callee = .value f) (e : evCallF f c I O t h nm n K = some r) (next : Act → World → Prop) (Q : Exit → Act → World → Prop)
    (k : ∀ d h' n' v w' M', K d h' n' = some r → n ≤ n' → HR val w' M' h' n' → VRel val M' d v → Step M w h M' w' h' (within n n') → next (a.put o.dst v) w') : o.wp P a w next Q := by
  replace e := opds_some hv E e; obtain ⟨ds, e, hds⟩ := e
  replace e := opd_some hv E e; obtain ⟨df, e, hf⟩ := e
  replace e := asClo_some e; obtain ⟨fk, cap, rfl, e⟩ := e
  rw [catL_eq] at e
  simp only [VRel] at hf
  obtain ⟨cs, hf, hcap⟩ := hf
  have hall : VRelL val M (ds ++ cap) (c.args.map a.eval ++ cs).toList := by
    rw [Array.toList_append, Array.toList_map]
    exact VRelL_cat hds hcap
  unfold callK at e
  split at e
  · rename_i pf hpf
    obtain ⟨d, hd, e⟩ := onSome_some e
    refine call_next ho hc hf rfl (hP _ _ hpf _ _ _ hd M w n _ H hall) next Q ?_
    rintro en w' ⟨v, rfl, hvr, g⟩
    exact ⟨v, rfl, k d h n v w' M e (Nat.le_refl _) (g.hr H) hvr (g.step _)⟩
  · have sem := hO _ _ _ _ _ e
    refine call_next ho hc hf rfl (sem M w _ H hall) next Q ?_
    rintro en w' ⟨v, M', d, h', n', rfl, e', hle, H', hvr, S⟩
    exact ⟨v, rfl, k d h' n' v w' M' e' hle H' hvr S⟩

/-- One operation. -/
theorem evOp_sound (hv : Digits val) (hI : TOk P I) (hP : PrimOk P val I) (hO : OSound P val O) (H : HR val w M h n) (E : ER val M t a.tmps) (hnm : nm < n) (hM : M nm = none) (e : evOp o.op I O t h nm n K = some r) (next : Act → World → Prop) (Q : Exit → Act → World → Prop)
    (k : ∀ d h' n' v w' M', K d h' n' = some r → n ≤ n' → HR val w' M' h' n' → VRel val M' d v → Step M w h M' w' h' (fun x => x = nm ∨ within n n' x) → next (a.put o.dst v) w') : o.wp P a w next Q := by
  have fin : (∃ d h', K d h' n = some r ∧ Goes P val a o M w h nm n d h' n) → o.wp P a w next Q := fun ⟨d, h', e, g⟩ => g next Q fun v w' M' H' hvr S => k d h' n v w' M' e (Nat.le_refl _) H' hvr S
  cases ho : o.op with
  | move x => rw [ho] at e; exact fin (op_move (I := I) (O := O) hv H E (.inl ho) e)
  | assign x => rw [ho] at e; exact fin (op_move (I := I) (O := O) hv H E (.inr ho) e)
  | pick c x y => rw [ho] at e; exact fin (op_pick (I := I) (O := O) hv H E ho e)
  | alloc ty => rw [ho] at e; exact fin (op_alloc (I := I) (O := O) (t := t) hv hI H hnm hM ho e)
  | box ty x => rw [ho] at e; exact fin (op_box (I := I) (O := O) hv hI H E hnm hM ho e)
  | build ty ps => rw [ho] at e; exact fin (op_build (I := I) (O := O) hv hI H E ho e)
  | buildSlice ty len ps => rw [ho] at e; exact fin (op_buildSlice (I := I) (O := O) hv hI H E hnm hM ho e)
  | insert ty m k x => rw [ho] at e; exact fin (op_insert (I := I) (O := O) hv hI H E ho e)
  | load ty x => rw [ho] at e; exact fin (op_load (I := I) (O := O) hv hI H E ho e)
  | store ty x y => rw [ho] at e; exact fin (op_store (I := I) (O := O) hv hI H E ho e)
  | nilCheck x => rw [ho] at e; exact fin (op_nilCheck (I := I) (O := O) hv H E ho e)
  | binOp op xt x y yt => rw [ho] at e; exact fin (op_bin (I := I) (O := O) hv hI H E ho e)
  | unOp op ty x => rw [ho] at e; exact fin (op_unOp (I := I) (O := O) hv H E ho e)
  | convert src dst x => rw [ho] at e; exact fin (op_convert (I := I) (O := O) hv hI H E hnm hM ho e)
  | makeInterface ty x => rw [ho] at e; exact fin (op_makeInterface (I := I) (O := O) hv hI H E ho e)
  | makeFunc f first cap => rw [ho] at e; exact fin (op_makeFunc (I := I) (O := O) hv H E ho e)
  | makeMap ty x => rw [ho] at e; exact fin (op_makeMap (I := I) (O := O) (t := t) hv H hnm hM ho e)
  | makeSlice ty l c => rw [ho] at e; exact fin (op_makeSlice (I := I) (O := O) hv hI H E hnm hM ho e)
  | slice ty x lo hi mx => rw [ho] at e; exact fin (op_slice (I := I) (O := O) hv hI H E ho e)
  | fieldAddr ty x f => rw [ho] at e; exact fin (op_fieldAddr (I := I) (O := O) hv hI H E ho e)
  | field ty x f => rw [ho] at e; exact fin (op_field (I := I) (O := O) hv hI H E ho e)
  | indexAddr ty x i => rw [ho] at e; exact fin (op_indexAddr (I := I) (O := O) hv hI H E ho e)
  | index ty x i => rw [ho] at e; exact fin (op_index (I := I) (O := O) hv hI H E ho e)
  | lookup ty m k ok => rw [ho] at e; exact fin (op_lookup (I := I) (O := O) hv hI H E ho e)
  | range ty x => rw [ho] at e; exact fin (op_range (I := I) (O := O) hv hI H E hnm hM ho e)
  | next x s => rw [ho] at e; exact fin (op_next (I := I) (O := O) hv H E ho e)
  | extract x i => rw [ho] at e; exact fin (op_extract (I := I) (O := O) hv H E ho e)
  | call c =>
    rw [ho] at e
    replace e : evCall c I O t h nm n K = some r := e
    cases hcal : c.callee with
    | builtin b =>
      have e' : evCallB b c I O t h nm n K = some r := by simpa only [evCall, hcal] using e
      replace e := opds_some hv E e'; obtain ⟨ds, e, hds⟩ := e
      exact fin (op_builtin (I := I) (K := fun d h => K d h n) hv hI H hnm hM ho hcal hds e)
    | value f =>
      have e' : evCallF f c I O t h nm n K = some r := by simpa only [evCall, hcal] using e
      exact op_call hv hP hO H E ho hcal e' next Q fun d h' n' v w' M' e' hle H' hvr S => k d h' n' v w' M' e' hle H' hvr (S.weaken fun _ q => .inr q)
    | invoke rc nme => simp only [evCall, hcal] at e; cases e
  | _ => rw [ho] at e; cases e
end
end Go.Gh
