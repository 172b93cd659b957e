import Derived.Test.YtidododdhnbpkaaGreatDoorGhD1
/- Operations that do nothing: what they give, whatever else is in the heap. -/
set_option linter.unusedVariables false
set_option linter.unusedSimpArgs false
namespace Go.Gh
section
variable {I : Info} {O : Oracle} {t : Env} {h : Heap} {nm n : Nat} {r : R} {K : D → Heap → Nat → Option R} {o : Op}
theorem plain_of (G : (D → Option R) → Option R) (hG : Det G) (hE : ∀ h nm n K, evOp o I O t h nm n K = G fun d => K d h n) (e : evOp o I O t h nm n K = some r) : ∃ d, K d h n = some r ∧ ∀ h' nm' n' K', evOp o I O t h' nm' n' K' = K' d h' n' := by
  obtain ⟨v, hv⟩ := hG
  rw [hE, hv] at e
  obtain ⟨d, rfl, e⟩ := onSome_some e
  exact ⟨d, e, fun h' nm' n' K' => by rw [hE, hv]; rfl⟩
theorem plain_at (e : evOp o I O t h nm n K = some r) (hG : Det fun K => evOp o I O t .nil 0 0 fun d _ _ => K d) (hE : ∀ h nm n K, evOp o I O t h nm n K = evOp o I O t .nil 0 0 fun d _ _ => K d h n) :
    ∃ d, K d h n = some r ∧ ∀ h' nm' n' K', evOp o I O t h' nm' n' K' = K' d h' n' := plain_of (fun K => evOp o I O t .nil 0 0 fun d _ _ => K d) hG hE e
theorem float_plain (hc : classOf o = .plain) (e : evOp o I O t h nm n K = some r) : ∃ d, K d h n = some r ∧ ∀ h' nm' n' K', evOp o I O t h' nm' n' K' = K' d h' n' := by
  cases o with
  | move x => exact plain_at e (det_opd x) (fun _ _ _ _ => rfl)
  | pick c x y =>
    refine plain_at e ?_ (fun _ _ _ _ => rfl)
    show Det fun K => evPick c x y I O t .nil 0 0 fun d _ _ => K d
    unfold evPick
    refine det_bind (det_opd c) fun d => det_asBool fun v => ?_
    cases v
    · exact det_opd _
    · exact det_opd _
  | nilCheck x =>
    refine plain_at e ?_ (fun h nm n K => ?_)
    · show Det fun K => evNilCheck x I O t .nil 0 0 fun d _ _ => K d
      unfold evNilCheck
      refine det_bind (det_opd x) fun d => ?_
      cases d <;> first | exact det_ret _ | exact det_none
    · show (opd t x _) = (opd t x _)
      congr 1
  | binOp op xt x y yt =>
    refine plain_at e ?_ (fun _ _ _ _ => rfl)
    show Det fun K => evBinOp op xt x y yt I O t .nil 0 0 fun d _ _ => K d
    unfold evBinOp
    exact det_bind (det_opd x) fun a => det_bind (det_opd y) fun b => det_bin _ _ _ _ _ _ _
  | unOp op ty x =>
    refine plain_at e ?_ (fun h nm n K => ?_)
    · show Det fun K => evUnOp op ty x I O t .nil 0 0 fun d _ _ => K d
      unfold evUnOp
      cases op <;> dsimp only <;> first | exact det_none | exact det_bind (det_opd x) fun d => det_asBool fun b => det_ret _ | exact det_bind (det_opd x) fun d => det_asInt fun k m => det_ret _
    · cases op <;> rfl
  | fieldAddr ty x f =>
    refine plain_at e ?_ (fun _ _ _ _ => rfl)
    show Det fun K => evFieldAddr ty x f I O t .nil 0 0 fun d _ _ => K d
    unfold evFieldAddr
    refine det_onSome fun T => det_onSome fun p => det_bind (det_opd x) fun d => det_asPtr fun ob k => ?_
    cases p.2.1
    · exact det_none
    · exact det_ret _
  | field ty x f =>
    refine plain_at e ?_ (fun _ _ _ _ => rfl)
    show Det fun K => evField ty x f I O t .nil 0 0 fun d _ _ => K d
    unfold evField
    refine det_onSome fun T => det_onSome fun p => det_bind (det_opd x) fun d => det_asAgg fun c => det_bind (det_cut _ _ _) fun l => ?_
    cases p.2.2
    · exact det_one fun d => det_ret d
    · exact det_ret _
  | indexAddr ty x i =>
    refine plain_at e ?_ (fun h nm n K => ?_)
    · show Det fun K => evIndexAddr ty x i I O t .nil 0 0 fun d _ _ => K d
      unfold evIndexAddr
      refine det_onSome fun T => det_bind (det_opd x) fun dx => det_bind (det_opd i) fun di => det_asInt fun _ k => ?_
      cases dx <;> first | exact det_ifArr fun len => det_req (det_ret _) | exact det_ifSlice (det_req (det_ret _)) | exact det_none
    · rfl
  | index ty x i =>
    refine plain_at e ?_ (fun h nm n K => ?_)
    · show Det fun K => evIndex ty x i I O t .nil 0 0 fun d _ _ => K d
      unfold evIndex
      refine det_onSome fun T => det_bind (det_opd x) fun dx => det_bind (det_opd i) fun di => det_asInt fun _ k => ?_
      cases dx with
      | str c =>
        refine det_ifStr (det_req (det_bind (det_dropL _ _) fun l => ?_))
        cases l
        · exact det_none
        · exact det_ret _
      | agg l =>
        refine det_ifArr fun len => det_one fun _ => det_req (det_bind (det_dropL _ _) fun l => ?_)
        cases l
        · exact det_none
        · exact det_ret _
      | _ => exact det_none
    · rfl
  | slice ty x lo hi mx =>
    cases mx with
    | none =>
      refine plain_at e ?_ (fun _ _ _ _ => rfl)
      show Det fun K => evSliceOp ty x lo hi none I O t .nil 0 0 fun d _ _ => K d
      unfold evSliceOp
      exact det_onSome fun T => det_bind (det_opd x) fun d => det_onSome fun m => det_bind (det_optOpd _ _) fun dl => det_bind (det_optOpd _ _) fun dr => det_asInt fun _ l => det_asInt fun _ r => det_req (det_sliceD _ _ _ _)
    | some mx => cases e
  | extract x i =>
    refine plain_at e ?_ (fun _ _ _ _ => rfl)
    show Det fun K => evExtract x i I O t .nil 0 0 fun d _ _ => K d
    unfold evExtract
    exact det_bind (det_opd x) fun d => det_asTup fun l => det_onSome fun d => det_ret _
  | makeFunc f first cap =>
    cases f with
    | func f =>
      refine plain_at e ?_ (fun _ _ _ _ => rfl)
      show Det fun K => evMakeFunc (.func f) first cap I O t .nil 0 0 fun d _ _ => K d
      unfold evMakeFunc
      exact det_req (det_bind (det_opds _) fun ds => det_ret _)
    | _ => cases e
  | build ty ps =>
    refine plain_at e ?_ (fun _ _ _ _ => rfl)
    show Det fun K => evBuild ty ps I O t .nil 0 0 fun d _ _ => K d
    unfold evBuild
    exact det_onSome fun T => det_ifStruct (det_bind (det_parts _) fun l => det_bind (det_placeParts _ _ _) fun c => det_ret _)
  | makeInterface ty x =>
    refine plain_at e ?_ (fun h nm n K => ?_)
    · show Det fun K => evMakeInterface ty x I O t .nil 0 0 fun d _ _ => K d
      unfold evMakeInterface
      refine det_onSome fun T => ?_
      cases T.kind <;> dsimp only <;> first | exact det_none | exact det_bind (det_opd x) fun d => det_ret _
    · show onSome _ _ = onSome _ _
      congr 1
  | call c =>
    cases hcal : c.callee with
    | builtin b =>
      have hop : ∀ h nm n K, evOp (.call c) I O t h nm n K = evCallB b c I O t h nm n K := fun h nm n K => by show evCall c I O t h nm n K = _; simp only [evCall, hcal]
      simp only [classOf, hcal] at hc
      cases b with
      | len =>
        refine plain_of (fun K => opds t c.args.toList fun ds => one ds fun d => ty1 I.ti c.argTypes.toList fun T => lenK T d K) ?_ (fun h nm n K => hop h nm n K) e
        exact det_bind (det_opds _) fun ds => det_one fun d => det_ty1 _ _ fun T => det_lenK _ _
      | min =>
        refine plain_of (fun K => opds t c.args.toList fun ds => two ds fun x y => asInt x fun k a => asInt y fun k' b => req (ikEq k k') (K (.int k (Bool.rec (motive := fun _ => Int) a b (ltI b a))))) ?_ (fun h nm n K => hop h nm n K) e
        exact det_bind (det_opds _) fun ds => det_two fun x y => det_asInt fun k a => det_asInt fun k' b => det_req (det_ret _)
      | max =>
        refine plain_of (fun K => opds t c.args.toList fun ds => two ds fun x y => asInt x fun k a => asInt y fun k' b => req (ikEq k k') (K (.int k (Bool.rec (motive := fun _ => Int) a b (ltI a b))))) ?_ (fun h nm n K => hop h nm n K) e
        exact det_bind (det_opds _) fun ds => det_two fun x y => det_asInt fun k a => det_asInt fun k' b => det_req (det_ret _)
      | _ => cases hc
    | _ => simp only [classOf, hcal] at hc; cases hc
  | _ => cases hc

theorem makes_of (G : (D × Obj → Option R) → Option R) (hG : Det G) (hE : ∀ h n K, evOp o I O t h nm n K = G fun p => K p.1 (h.put nm (some p.2)) n) (e : evOp o I O t h nm n K = some r) :
    ∃ d c, K d (h.put nm (some c)) n = some r ∧ ∀ h' n' K', evOp o I O t h' nm n' K' = K' d (h'.put nm (some c)) n' := by
  obtain ⟨v, hv⟩ := hG
  rw [hE, hv] at e
  obtain ⟨d, rfl, e⟩ := onSome_some e
  exact ⟨d.1, d.2, e, fun h' n' K' => by rw [hE, hv]; rfl⟩
theorem float_makes (hc : classOf o = .makes) (e : evOp o I O t h nm n K = some r) : ∃ d c, K d (h.put nm (some c)) n = some r ∧ ∀ h' n' K', evOp o I O t h' nm n' K' = K' d (h'.put nm (some c)) n' := by
  cases o with
  | alloc ty =>
    refine makes_of (fun K => onSome (I.ti ty) fun T => K (.ptr nm 0, .cells T.zero)) (det_onSome fun T => det_ret _) (fun h n K => ?_) e
    show evAlloc ty I O t h nm n K = _
    simp only [evAlloc, hput_eq]
  | box ty x =>
    refine makes_of (fun K => onSome (I.ti ty) fun T => opd t x fun d => cellsK d fun c => req (Nat.beq c.length T.size) (cellsOk c (K (.ptr nm 0, .cells c)))) (det_onSome fun T => det_bind (det_opd x) fun d => det_bind det_cellsK fun c => det_req (det_cellsOk (det_ret _) _)) (fun h n K => ?_) e
    show evBox ty x I O t h nm n K = _
    simp only [evBox, hput_eq]
  | buildSlice ty len ps =>
    refine makes_of (fun K => onSome (I.ti ty) fun T => ifSlice T (req (Nat.ble (Nat.mul len T.elem) 16777216) (parts t ps.toList fun l => repL T.ezero len fun c => placeElems T.elem l c fun c => K (.sl T.elem nm 0 len, .cells c))))
      (det_onSome fun T => det_ifSlice (det_req (det_bind (det_parts _) fun l => det_bind (det_repL _ _) fun c => det_bind (det_placeElems _ _ _) fun c => det_ret _))) (fun h n K => ?_) e
    show evBuildSlice ty len ps I O t h nm n K = _
    simp only [evBuildSlice, hput_eq]
  | makeSlice ty l c =>
    refine makes_of (fun K => onSome (I.ti ty) fun T => opd t l fun dl => opd t c fun dc => asInt dl fun _ a => asInt dc fun _ b => ifSlice T (req (leI 0 a && (leI a b && leI b 1048576)) (repL T.ezero a.toNat fun c => K (.sl T.elem nm 0 a.toNat, .cells c))))
      (det_onSome fun T => det_bind (det_opd l) fun dl => det_bind (det_opd c) fun dc => det_asInt fun _ a => det_asInt fun _ b => det_ifSlice (det_req (det_bind (det_repL _ _) fun c => det_ret _))) (fun h n K => ?_) e
    show evMakeSlice ty l c I O t h nm n K = _
    simp only [evMakeSlice, hput_eq]
  | makeMap ty x =>
    cases x with
    | none =>
      refine makes_of (fun K => K (.map nm, .map [])) (det_ret _) (fun h n K => ?_) e
      show evMakeMap ty none I O t h nm n K = _
      simp only [evMakeMap, hput_eq]
    | some x => cases e
  | call c =>
    cases hcal : c.callee with
    | builtin b => cases b <;> simp only [classOf, hcal] at hc <;> cases hc
    | _ => simp only [classOf, hcal] at hc; cases hc
  | _ => cases hc

/-- It finds one object, or none. -/
def Finds (o : Op) (I : Info) (O : Oracle) (t : Env) (h : Heap) (d : D) : Prop :=
  ∃ q : Option Nat, (∀ x, q = some x → h.get x ≠ none) ∧ ∀ h' nm' n' K', (∀ x, q = some x → h'.get x = h.get x) → evOp o I O t h' nm' n' K' = K' d h' n'
theorem reads_of {α : Type} (G : (α × Nat → Option R) → Option R) (F : α → Obj → (D → Option R) → Option R) (hG : Det G) (hF : ∀ a c, Det (F a c)) (hE : ∀ h nm n K, evOp o I O t h nm n K = G fun p => hget h p.2 fun c => F p.1 c fun d => K d h n)
    (e : evOp o I O t h nm n K = some r) : ∃ d, K d h n = some r ∧ Finds o I O t h d := by
  obtain ⟨v, hv⟩ := hG
  rw [hE, hv] at e
  obtain ⟨p, rfl, e⟩ := onSome_some e
  obtain ⟨c, hc, e⟩ := hget_some e
  obtain ⟨u, hu⟩ := hF p.1 c
  rw [hu] at e
  obtain ⟨d, rfl, e⟩ := onSome_some e
  refine ⟨d, e, some p.2, fun x hx => by cases hx; rw [hc]; simp, fun h' nm' n' K' H => ?_⟩
  rw [hE, hv]
  have hc' := H p.2 rfl
  rw [hc] at hc'
  show (hget h' p.2 fun c => F p.1 c fun d => K' d h' n') = K' d h' n'
  unfold hget
  rw [hc']
  show (F p.1 c fun d => K' d h' n') = _
  rw [hu]; rfl
theorem plain_finds (x : ∃ d, K d h n = some r ∧ ∀ h' nm' n' K', evOp o I O t h' nm' n' K' = K' d h' n') : ∃ d, K d h n = some r ∧ Finds o I O t h d := by
  obtain ⟨d, e, H⟩ := x
  exact ⟨d, e, none, fun x hx => by (cases hx), fun h' nm' n' K' _ => H h' nm' n' K'⟩
theorem float_reads (hc : classOf o = .reads) {k : Option R} (hok : readsOnly I o k = some r) (e : evOp o I O t h nm n K = some r) : ∃ d, K d h n = some r ∧ Finds o I O t h d := by
  cases o with
  | load ty x =>
    refine reads_of (α := T × Nat) (fun K => onSome (I.ti ty) fun T => opd t x fun d => asPtr d fun o off => K ((T, off), o)) (fun a c K => asCells c fun l => cut l a.2 a.1.size fun l => aggK a.1 l K) (det_onSome fun T => det_bind (det_opd x) fun d => det_asPtr fun o off => det_ret _) (fun a c => ?_) (fun _ _ _ _ => rfl) e
    cases c with
    | cells l => exact det_bind (G := cut l a.2 a.1.size) (det_cut _ _ _) fun l => det_aggK
    | _ => exact det_none
  | lookup ty m k ok =>
    refine reads_of (α := T × List Nat) (fun K => onSome (I.ti ty) fun T => ifMap T (opd t m fun d => asMap d fun o => opd t k fun d => asStr d fun s => K ((T, s), o))) (fun a c K => asEntries c fun es => onSome (findM a.2 es) fun r => match ok, r with
      | true, some d => K (.tup [d, .bool true])
      | false, some d => K d
      | true, none => one a.1.ezero fun z => K (.tup [z, .bool false])
      | false, none => one a.1.ezero fun z => K z) (det_onSome fun T => det_ifMap (det_bind (det_opd m) fun d => det_asMap fun o => det_bind (det_opd k) fun d => det_asStr fun s => det_ret _)) (fun a c => ?_) (fun h nm n K => ?_) e
    · cases c with
      | map es =>
        refine det_onSome fun r => ?_
        cases ok <;> cases r <;> first | exact det_ret _ | exact det_one fun z => det_ret _
      | _ => exact det_none
    · show evLookup ty m k ok I O t h nm n K = _
      unfold evLookup
      congr 1; funext T; congr 1; congr 1; funext d; congr 1; funext o; congr 1; funext d; congr 1; funext s; congr 1; funext c; congr 1; funext es; congr 1; funext r
      cases ok <;> cases r <;> rfl
  | convert src dst x =>
    obtain ⟨B, hB, hok⟩ := onSome_some hok
    obtain ⟨oa, hoa⟩ := det_opd (t := t) x
    have hE : ∀ h nm n K, evOp (.convert src dst x) I O t h nm n K = onSome (I.ti src) fun A => onSome oa fun d => convK A B h nm d fun d h => K d h n := fun h nm n K => by
      show evConvert src dst x I O t h nm n K = _
      simp only [evConvert, hB, hoa]; rfl
    have e0 := e
    rw [hE] at e
    obtain ⟨A, hA, e⟩ := onSome_some e
    obtain ⟨d, hd, e⟩ := onSome_some e
    have hE' : ∀ h nm n K, evOp (.convert src dst x) I O t h nm n K = convK A B h nm d fun d h => K d h n := fun h nm n K => by rw [hE, hA, hd]; rfl
    have hkind : ∀ h nm K, convK A B h nm d K = Kind.rec (motive := fun _ => Option R) (fun k' => convInt k' d fun d => K d h) none (convStr A h d fun d => K d h) none (convBytes A B h nm d K) (fun _ => none) none none none none B.kind := fun _ _ _ => rfl
    cases hk : B.kind with
    | int k' =>
      refine plain_finds (plain_of (fun K => convInt k' d K) ?_ (fun h nm n K => by rw [hE', hkind, hk]) e0)
      cases d <;> first | exact det_ret _ | exact det_none
    | slice => unfold noSlice at hok; rw [hk] at hok; cases hok
    | str =>
      have hE2 : ∀ h nm n K, evOp (.convert src dst x) I O t h nm n K = convStr A h d fun d => K d h n := fun h nm n K => by rw [hE', hkind, hk]
      cases d with
      | sl st ob off len =>
        refine reads_of (α := Unit) (fun K => isBytes A (req (Nat.beq st 1) (K ((), ob)))) (fun _ c K => asCells c fun l => cut l off (Nat.mul len 1) fun l => optL codeOfCell l fun s => K (.str s)) (det_isBytes (det_req (det_ret _))) (fun a c => ?_) (fun h nm n K => by rw [hE2]; rfl) e0
        cases c with
        | cells l => exact det_bind (G := cut l off (Nat.mul len 1)) (det_cut _ _ _) fun l => det_bind (det_optL _ _) fun s => det_ret _
        | _ => exact det_none
      | int k a => exact plain_finds (plain_of (fun K => req (leI 0 a && ltI a 128) (K (.str [a.toNat]))) (det_req (det_ret _)) (fun h nm n K => by rw [hE2]; rfl) e0)
      | sym k c =>
        refine plain_finds (plain_of (fun K => symEnc k c K) ?_ (fun h nm n K => by rw [hE2]; rfl) e0)
        cases k <;> first | exact det_ret _ | exact det_none
      | str s => exact plain_finds (plain_of (fun K => K (.str s)) (det_ret _) (fun h nm n K => by rw [hE2]; rfl) e0)
      | nils => exact plain_finds (plain_of (fun K => isBytes A (K (.str []))) (det_isBytes (det_ret _)) (fun h nm n K => by rw [hE2]; rfl) e0)
      | _ =>
        refine plain_finds (plain_of (fun K => isBytes A none) (det_isBytes det_none) (fun h nm n K => by rw [hE2]; rfl) e0)
    | _ => rw [hkind, hk] at e; cases e
  | call c =>
    cases hcal : c.callee with
    | builtin b => cases b <;> simp only [classOf, hcal] at hc <;> cases hc
    | _ => simp only [classOf, hcal] at hc; cases hc
  | _ => cases hc
end
end Go.Gh
