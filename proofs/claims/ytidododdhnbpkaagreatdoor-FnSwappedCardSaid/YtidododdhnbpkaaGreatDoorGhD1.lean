import Derived.Test.YtidododdhnbpkaaGreatDoorGhO9
/- What operations look at: the same variables give the same. -/
set_option linter.unusedVariables false
set_option linter.unusedSimpArgs false
namespace Go.Gh
section
variable {I : Info} {O : Oracle} {t t' : Env} {r : R}
theorem opds_congr : ∀ {l : List Operand}, (∀ x ∈ l, opd t x = opd t' x) → opds t l = opds t' l
  | [], _ => rfl
  | x :: l, H => by
    funext K
    show (opd t x fun d => opds t l fun ds => K (d :: ds)) = (opd t' x fun d => opds t' l fun ds => K (d :: ds))
    rw [H x (by simp), opds_congr (l := l) fun y hy => H y (by simp [hy])]
theorem parts_congr : ∀ {l : List (Nat × Operand)}, (∀ x ∈ l, opd t x.2 = opd t' x.2) → parts t l = parts t' l
  | [], _ => rfl
  | x :: l, H => by
    funext K
    show (opd t x.2 fun d => parts t l fun ds => K ((x.1, d) :: ds)) = (opd t' x.2 fun d => parts t' l fun ds => K ((x.1, d) :: ds))
    rw [H x (by simp), parts_congr (l := l) fun y hy => H y (by simp [hy])]
theorem optOpd_congr {x : Option Operand} (H : ∀ y, x = some y → opd t y = opd t' y) : optOpd t x = optOpd t' x := by
  funext d K
  cases x with
  | none => rfl
  | some y => show opd t y K = opd t' y K; rw [H y rfl]
theorem evOp_congr (o : Op) (H : ∀ x ∈ o.operands.toList, opd t x = opd t' x) (h : Heap) (nm n : Nat) (K : D → Heap → Nat → Option R) : evOp o I O t h nm n K = evOp o I O t' h nm n K := by
  cases o with
  | move x => have h1 := H x (by simp [Op.operands]); show evMove x I O t h nm n K = evMove x I O t' h nm n K; simp only [evMove, h1]
  | assign x => have h1 := H x (by simp [Op.operands]); show evMove x I O t h nm n K = evMove x I O t' h nm n K; simp only [evMove, h1]
  | pick c x y => have h1 := H c (by simp [Op.operands]); have h2 := H x (by simp [Op.operands]); have h3 := H y (by simp [Op.operands]); show evPick c x y I O t h nm n K = evPick c x y I O t' h nm n K; simp only [evPick, h1, h2, h3]
  | alloc ty => rfl
  | box ty x => have h1 := H x (by simp [Op.operands]); show evBox ty x I O t h nm n K = evBox ty x I O t' h nm n K; simp only [evBox, h1]
  | build ty ps => have h1 : parts t ps.toList = parts t' ps.toList := parts_congr fun x hx => H x.2 (by simp [Op.operands]; exact ⟨x.1, by simpa using hx⟩); show evBuild ty ps I O t h nm n K = evBuild ty ps I O t' h nm n K; simp only [evBuild, h1]
  | buildSlice ty len ps => have h1 : parts t ps.toList = parts t' ps.toList := parts_congr fun x hx => H x.2 (by simp [Op.operands]; exact ⟨x.1, by simpa using hx⟩); show evBuildSlice ty len ps I O t h nm n K = evBuildSlice ty len ps I O t' h nm n K; simp only [evBuildSlice, h1]
  | insert ty m k x => have h1 := H m (by simp [Op.operands]); have h2 := H k (by simp [Op.operands]); have h3 := H x (by simp [Op.operands]); show evInsert ty m k x I O t h nm n K = evInsert ty m k x I O t' h nm n K; simp only [evInsert, h1, h2, h3]
  | load ty x => have h1 := H x (by simp [Op.operands]); show evLoad ty x I O t h nm n K = evLoad ty x I O t' h nm n K; simp only [evLoad, h1]
  | store ty x y => have h1 := H x (by simp [Op.operands]); have h2 := H y (by simp [Op.operands]); show evStore ty x y I O t h nm n K = evStore ty x y I O t' h nm n K; simp only [evStore, h1, h2]
  | nilCheck x => have h1 := H x (by simp [Op.operands]); show evNilCheck x I O t h nm n K = evNilCheck x I O t' h nm n K; simp only [evNilCheck, h1]
  | binOp op xt x y yt => have h1 := H x (by simp [Op.operands]); have h2 := H y (by simp [Op.operands]); show evBinOp op xt x y yt I O t h nm n K = evBinOp op xt x y yt I O t' h nm n K; simp only [evBinOp, h1, h2]
  | unOp op ty x => have h1 := H x (by simp [Op.operands]); show evUnOp op ty x I O t h nm n K = evUnOp op ty x I O t' h nm n K; simp only [evUnOp, h1]
  | convert src dst x => have h1 := H x (by simp [Op.operands]); show evConvert src dst x I O t h nm n K = evConvert src dst x I O t' h nm n K; simp only [evConvert, h1]
  | makeInterface ty x => have h1 := H x (by simp [Op.operands]); show evMakeInterface ty x I O t h nm n K = evMakeInterface ty x I O t' h nm n K; simp only [evMakeInterface, h1]
  | makeFunc f first cap =>
    have h1 : opds t cap.toList = opds t' cap.toList := opds_congr fun x hx => H x (by simp [Op.operands] at hx ⊢; exact .inr hx)
    show evMakeFunc f first cap I O t h nm n K = evMakeFunc f first cap I O t' h nm n K; simp only [evMakeFunc, h1]
  | makeMap ty x => rfl
  | makeSlice ty l c => have h1 := H l (by simp [Op.operands]); have h2 := H c (by simp [Op.operands]); show evMakeSlice ty l c I O t h nm n K = evMakeSlice ty l c I O t' h nm n K; simp only [evMakeSlice, h1, h2]
  | slice ty x lo hi mx =>
    have h1 := H x (by simp [Op.operands])
    have h2 : optOpd t lo = optOpd t' lo := optOpd_congr fun y hy => H y (by simp [Op.operands, hy])
    have h3 : optOpd t hi = optOpd t' hi := optOpd_congr fun y hy => H y (by simp [Op.operands, hy])
    show evSliceOp ty x lo hi mx I O t h nm n K = evSliceOp ty x lo hi mx I O t' h nm n K; simp only [evSliceOp, h1, h2, h3]
  | fieldAddr ty x f => have h1 := H x (by simp [Op.operands]); show evFieldAddr ty x f I O t h nm n K = evFieldAddr ty x f I O t' h nm n K; simp only [evFieldAddr, h1]
  | field ty x f => have h1 := H x (by simp [Op.operands]); show evField ty x f I O t h nm n K = evField ty x f I O t' h nm n K; simp only [evField, h1]
  | indexAddr ty x i => have h1 := H x (by simp [Op.operands]); have h2 := H i (by simp [Op.operands]); show evIndexAddr ty x i I O t h nm n K = evIndexAddr ty x i I O t' h nm n K; simp only [evIndexAddr, h1, h2]
  | index ty x i => have h1 := H x (by simp [Op.operands]); have h2 := H i (by simp [Op.operands]); show evIndex ty x i I O t h nm n K = evIndex ty x i I O t' h nm n K; simp only [evIndex, h1, h2]
  | lookup ty m k ok => have h1 := H m (by simp [Op.operands]); have h2 := H k (by simp [Op.operands]); show evLookup ty m k ok I O t h nm n K = evLookup ty m k ok I O t' h nm n K; simp only [evLookup, h1, h2]
  | range ty x => have h1 := H x (by simp [Op.operands]); show evRange ty x I O t h nm n K = evRange ty x I O t' h nm n K; simp only [evRange, h1]
  | next x s => have h1 := H x (by simp [Op.operands]); show evNext x s I O t h nm n K = evNext x s I O t' h nm n K; simp only [evNext, h1]
  | extract x i => have h1 := H x (by simp [Op.operands]); show evExtract x i I O t h nm n K = evExtract x i I O t' h nm n K; simp only [evExtract, h1]
  | call c =>
    have h1 : opds t c.args.toList = opds t' c.args.toList := opds_congr fun x hx => H x (by simp [Op.operands, Call.operands]; exact .inr (by simpa using hx))
    show evCall c I O t h nm n K = evCall c I O t' h nm n K
    cases hc : c.callee with
    | builtin b => simp only [evCall, hc, evCallB, h1]
    | value f =>
      have h2 := H f (by simp [Op.operands, Call.operands, hc])
      simp only [evCall, hc, evCallF, h1, h2]
    | _ => simp only [evCall, hc]; rfl
  | _ => rfl

/-! ### One answer, or none -/
def Det {β : Type} (F : (β → Option R) → Option R) : Prop := ∃ o : Option β, ∀ K, F K = onSome o K
variable {α β γ : Type}
theorem det_none : Det (fun _ : β → Option R => none) := ⟨none, fun _ => rfl⟩
theorem det_ret (d : β) : Det (fun K => K d) := ⟨some d, fun _ => rfl⟩
theorem det_req {c : Bool} {F : (β → Option R) → Option R} (h : Det F) : Det fun K => req c (F K) := by
  cases c
  · exact det_none
  · exact h
theorem det_onSome {o : Option α} {F : α → (β → Option R) → Option R} (h : ∀ a, Det (F a)) : Det fun K => onSome o fun a => F a K := by
  cases o
  · exact det_none
  · exact h _
/-- What is itself so, and something behind. -/
theorem det_bind {G : (α → Option R) → Option R} {F : α → (β → Option R) → Option R} (hg : Det G) (h : ∀ a, Det (F a)) : Det fun K => G fun a => F a K := by
  obtain ⟨o, ho⟩ := hg
  simp only [ho]
  exact det_onSome h
theorem det_opd (x : Operand) : Det (opd t x) := by
  cases x with
  | tmp k => exact det_ret _
  | const v => exact ⟨_, fun _ => rfl⟩
  | global _ => exact det_none
  | func f => exact det_ret _
theorem det_optOpd (x : Option Operand) (d : D) : Det (optOpd t x d) := by
  cases x with
  | none => exact det_ret _
  | some x => exact det_opd x
theorem det_opds : ∀ l : List Operand, Det (opds t l)
  | [] => det_ret _
  | x :: l => by
    show Det fun K => opd t x fun d => opds t l fun ds => K (d :: ds)
    exact det_bind (det_opd x) fun d => det_bind (det_opds l) fun ds => det_ret _
theorem det_parts : ∀ l : List (Nat × Operand), Det (parts t l)
  | [] => det_ret _
  | x :: l => by
    show Det fun K => opd t x.2 fun d => parts t l fun ds => K ((x.1, d) :: ds)
    exact det_bind (det_opd x.2) fun d => det_bind (det_parts l) fun ds => det_ret _
theorem det_asInt {d : D} {F : IntKind → Int → (β → Option R) → Option R} (h : ∀ k n, Det (F k n)) : Det fun K => asInt d fun k n => F k n K := by
  cases d <;> first | exact h _ _ | exact det_none
theorem det_asBool {d : D} {F : Bool → (β → Option R) → Option R} (h : ∀ b, Det (F b)) : Det fun K => asBool d fun b => F b K := by
  cases d <;> first | exact h _ | exact det_none
theorem det_asStr {d : D} {F : List Nat → (β → Option R) → Option R} (h : ∀ b, Det (F b)) : Det fun K => asStr d fun b => F b K := by
  cases d <;> first | exact h _ | exact det_none
theorem det_asPtr {d : D} {F : Nat → Nat → (β → Option R) → Option R} (h : ∀ a b, Det (F a b)) : Det fun K => asPtr d fun a b => F a b K := by
  cases d <;> first | exact h _ _ | exact det_none
theorem det_asMap {d : D} {F : Nat → (β → Option R) → Option R} (h : ∀ b, Det (F b)) : Det fun K => asMap d fun b => F b K := by
  cases d <;> first | exact h _ | exact det_none
theorem det_asTup {d : D} {F : List D → (β → Option R) → Option R} (h : ∀ b, Det (F b)) : Det fun K => asTup d fun b => F b K := by
  cases d <;> first | exact h _ | exact det_none
theorem det_asAgg {d : D} {F : List D → (β → Option R) → Option R} (h : ∀ b, Det (F b)) : Det fun K => asAgg d fun b => F b K := by
  cases d <;> first | exact h _ | exact det_none
theorem det_ifBool {T : T} {F : (β → Option R) → Option R} (h : Det F) : Det fun K => ifBool T (F K) := by
  unfold ifBool; cases T.kind <;> first | exact h | exact det_none
theorem det_ifStr {T : T} {F : (β → Option R) → Option R} (h : Det F) : Det fun K => ifStr T (F K) := by
  unfold ifStr; cases T.kind <;> first | exact h | exact det_none
theorem det_ifPtr {T : T} {F : (β → Option R) → Option R} (h : Det F) : Det fun K => ifPtr T (F K) := by
  unfold ifPtr; cases T.kind <;> first | exact h | exact det_none
theorem det_ifSlice {T : T} {F : (β → Option R) → Option R} (h : Det F) : Det fun K => ifSlice T (F K) := by
  unfold ifSlice; cases T.kind <;> first | exact h | exact det_none
theorem det_ifStruct {T : T} {F : (β → Option R) → Option R} (h : Det F) : Det fun K => ifStruct T (F K) := by
  unfold ifStruct; cases T.kind <;> first | exact h | exact det_none
theorem det_ifIface {T : T} {F : (β → Option R) → Option R} (h : Det F) : Det fun K => ifIface T (F K) := by
  unfold ifIface; cases T.kind <;> first | exact h | exact det_none
theorem det_ifMap {T : T} {F : (β → Option R) → Option R} (h : Det F) : Det fun K => ifMap T (F K) := by
  unfold ifMap; cases T.kind <;> first | exact h | exact det_none
theorem det_ifArr {T : T} {F : Nat → (β → Option R) → Option R} (h : ∀ n, Det (F n)) : Det fun K => ifArr T fun n => F n K := by
  unfold ifArr; cases T.kind <;> first | exact h _ | exact det_none
theorem det_one {l : List D} {F : D → (β → Option R) → Option R} (h : ∀ d, Det (F d)) : Det fun K => one l fun d => F d K := by
  match l with
  | [] => exact det_none
  | [d] => exact h d
  | _ :: _ :: _ => exact det_none
theorem det_two {l : List D} {F : D → D → (β → Option R) → Option R} (h : ∀ d d', Det (F d d')) : Det fun K => two l fun d d' => F d d' K := by
  cases l with
  | nil => exact det_none
  | cons a l => exact det_one fun d => h a d
theorem det_cellsK {d : D} : Det (cellsK d) := by
  cases d <;> first | exact det_ret _ | exact det_none
theorem det_aggK {T : T} {l : List D} : Det (aggK T l) := by
  unfold aggK; cases T.kind <;> first | exact det_one fun d => det_ret d | exact det_ret _
theorem det_cellsOk {F : (β → Option R) → Option R} (h : Det F) : ∀ l : List D, Det fun K => cellsOk l (F K)
  | [] => h
  | d :: l => by
    show Det fun K => Bool.rec (motive := fun _ => Option R) none (cellsOk l (F K)) (cellOk d)
    cases cellOk d
    · exact det_none
    · exact det_cellsOk h l
theorem det_dropL : ∀ (n : Nat) (l : List α), Det (dropL n l)
  | 0, l => det_ret _
  | n + 1, [] => det_none
  | n + 1, a :: l => det_dropL n l
theorem det_takeL : ∀ (n : Nat) (l : List α), Det (takeL n l)
  | 0, l => det_ret _
  | n + 1, [] => det_none
  | n + 1, a :: l => by
    show Det fun K => takeL n l fun r => K (a :: r)
    exact det_bind (det_takeL n l) fun r => det_ret _
theorem det_cut (l : List D) (a n : Nat) : Det (cut l a n) := by
  show Det fun K => dropL a l fun l => takeL n l K
  exact det_bind (det_dropL a l) fun l => det_takeL n l
theorem det_splice0 : ∀ (ds l : List D), Det (splice0 l ds)
  | [], l => det_ret _
  | d :: ds, [] => det_none
  | d :: ds, a :: l => by
    show Det fun K => splice0 l ds fun r => K (d :: r)
    exact det_bind (det_splice0 ds l) fun r => det_ret _
theorem det_splice : ∀ (n : Nat) (l ds : List D), Det (splice n l ds)
  | 0, l, ds => det_splice0 ds l
  | n + 1, [], ds => det_none
  | n + 1, a :: l, ds => by
    show Det fun K => splice n l ds fun r => K (a :: r)
    exact det_bind (det_splice n l ds) fun r => det_ret _
theorem det_catL (x y : List α) : Det (catL x y) := ⟨some (x ++ y), fun K => catL_eq x y K⟩
theorem det_mapL (f : α → γ) (l : List α) : Det (mapL f l) := ⟨some (l.map f), fun K => mapL_eq f l K⟩
theorem det_repL (l : List α) (n : Nat) : Det (repL l n) := ⟨some _, fun K => repL_eq l n K⟩
theorem det_optL (f : α → Option γ) : ∀ l : List α, Det (optL f l)
  | [] => det_ret _
  | a :: l => by
    show Det fun K => match f a with | some b => optL f l fun r => K (b :: r) | none => none
    cases f a with
    | none => exact det_none
    | some b => exact det_bind (det_optL f l) fun r => det_ret _
theorem det_placeParts (offs : List (Nat × Nat × Bool)) : ∀ (l : List (Nat × D)) (cells : List D), Det (placeParts offs l cells)
  | [], cells => det_ret _
  | x :: l, cells => by
    show Det fun K => onSome offs[x.1]? fun p => cellsK x.2 fun c => req (Nat.beq c.length p.2.1) (splice p.1 cells c fun cells => placeParts offs l cells K)
    exact det_onSome fun p => det_bind det_cellsK fun c => det_req (det_bind (det_splice _ _ _) fun cells => det_placeParts offs l cells)
theorem det_placeElems (st : Nat) : ∀ (l : List (Nat × D)) (cells : List D), Det (placeElems st l cells)
  | [], cells => det_ret _
  | x :: l, cells => by
    show Det fun K => cellsK x.2 fun c => req (Nat.beq c.length st) (splice (Nat.mul x.1 st) cells c fun cells => placeElems st l cells K)
    exact det_bind det_cellsK fun c => det_req (det_bind (det_splice _ _ _) fun cells => det_placeElems st l cells)
theorem det_arithI (op : BinOp) (k : IntKind) (a b : Int) : Det (arithI op k a b) := by
  cases op <;> first | exact det_none | exact det_ret _ | exact det_req (det_ret _)
theorem det_intInt (op : BinOp) (k k' : IntKind) (a b : Int) : Det (intInt op k k' a b) := by
  show Det fun K => intInt op k k' a b K
  unfold intInt
  cases op <;> first | exact det_req (det_arithI _ _ _ _) | exact det_req (det_ret _)
theorem det_boolK (b : Option Bool) : Det (boolK b) := by
  cases b with
  | none => exact det_none
  | some b => exact det_ret _
theorem det_nilCmp (op : BinOp) (b : Bool) : Det (nilCmp op b) := by
  cases op <;> first | exact det_none | exact det_ret _
theorem det_orSame (a b : List Nat) : Det (orSame a b) := by
  show Det fun K => orSame a b K
  unfold orSame
  cases lessS a b with
  | none => exact det_none
  | some v =>
    cases v with
    | true => exact det_ret _
    | false =>
      cases sameS a b with
      | none => exact det_none
      | some v => exact det_ret _
theorem det_arithS (op : BinOp) (a b : List Nat) : Det (arithS op a b) := by
  show Det fun K => arithS op a b K
  unfold arithS
  cases op <;> dsimp only <;> first | exact det_none | exact det_req (det_bind (det_catL _ _) fun s => det_ret _) | exact det_boolK _ | exact det_onSome fun b => det_ret _ | exact det_bind (det_orSame _ _) fun b => det_ret _
theorem det_arith (x : D) (ti : Nat → Option T) (op : BinOp) (xt : Nat) (y : D) : Det (arith x ti op xt y) := by
  cases x with
  | int k a =>
    show Det (bInt k a ti op xt y)
    cases y <;> first | exact det_intInt _ _ _ _ _ | exact det_req (det_boolK _) | exact det_none
  | sym k c => exact det_asInt fun k' b => det_req (det_boolK _)
  | bool a => exact det_asBool fun b => det_onSome fun T => det_ifBool (det_nilCmp _ _)
  | str a => exact det_asStr fun b => det_arithS _ _ _
  | agg a => exact det_asAgg fun b => det_onSome fun T => det_onSome fun ks => det_onSome fun r => det_nilCmp _ _
  | nilp => exact det_onSome fun T => det_ifPtr (by cases y <;> first | exact det_nilCmp _ _ | exact det_none)
  | ptr o off => exact det_onSome fun T => det_ifPtr (by cases y <;> first | exact det_nilCmp _ _ | exact det_none)
  | nils => exact det_onSome fun T => det_ifSlice (by cases y <;> first | exact det_nilCmp _ _ | exact det_none)
  | sl st o off len => exact det_onSome fun T => det_ifSlice (by cases y <;> first | exact det_nilCmp _ _ | exact det_none)
  | nili => exact det_onSome fun T => det_ifIface (by cases y <;> first | exact det_nilCmp _ _ | exact det_none)
  | ifc t d => exact det_onSome fun T => det_ifIface (by cases y <;> first | exact det_nilCmp _ _ | exact det_none)
  | _ => exact det_none
theorem det_bin (ti : Nat → Option T) (op : BinOp) (xt : Nat) (ox oy : Operand) (x y : D) : Det (bin ti op xt ox oy x y) := by
  show Det fun K => Bool.rec (motive := fun _ => Option R) (arith x ti op xt y K) (req (isNilConst ox || isNilConst oy) (onSome (ti xt) fun T => ifIface T (nilCmp op true K))) (bothNil x y)
  cases bothNil x y with
  | false => exact det_arith _ _ _ _ _
  | true => exact det_req (det_onSome fun T => det_ifIface (det_nilCmp _ _))
theorem det_lenK (T : T) (d : D) : Det (lenK T d) := by
  show Det fun K => lenK T d K
  unfold lenK
  cases T.kind with
  | str => exact det_asStr fun s => det_ret _
  | slice => cases d <;> first | exact det_ret _ | exact det_none
  | _ => exact det_none
theorem det_sliceD (T : T) (d : D) (l r : Nat) : Det (sliceD T d l r) := by
  cases d with
  | str c => exact det_ifStr (det_bind (det_dropL _ _) fun c => det_bind (det_takeL _ _) fun c => det_ret _)
  | nils => exact det_ifSlice (det_req (det_ret _))
  | sl st o off len => exact det_ifSlice (det_req (det_ret _))
  | _ => exact det_none
theorem det_isBytes {T : T} {F : (β → Option R) → Option R} (h : Det F) : Det fun K => isBytes T (F K) := by
  unfold isBytes
  refine det_ifSlice ?_
  unfold byteZero
  split
  · exact h
  · exact det_none
theorem det_ty1 (ti : Nat → Option T) (tys : List Nat) {F : T → (β → Option R) → Option R} (h : ∀ T, Det (F T)) : Det fun K => ty1 ti tys fun T => F T K := by
  cases tys with
  | nil => exact det_none
  | cons _ _ => exact det_onSome h
end
end Go.Gh
