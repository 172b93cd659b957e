import Derived.Test.YtidododdhnbpkaaGreatDoorGhO2
set_option linter.unusedVariables false
set_option linter.unnecessarySimpa false
set_option linter.unusedSimpArgs false
namespace Go.Gh
open Go.RowKit
section
variable {P : Program} {I : Info} {O : Oracle} {val : Nat → UInt8} {a : Act} {o : Oper} {M : Mp} {w : World} {h : Heap} {t : Env} {nm n : Nat} {r : R} {K : D → Heap → Nat → Option R}

theorem nilCmp_some {op : BinOp} {b : Bool} {K : D → Option R} (e : nilCmp op b K = some r) : (op = .eql ∧ K (.bool b) = some r) ∨ (op = .neq ∧ K (.bool (!b)) = some r) := by
  cases op <;> first
    | exact .inl ⟨rfl, e⟩
    | exact .inr ⟨rfl, e⟩
    | (change none = some r at e; cases e)
theorem nil_pp {t el : TypeId} (hd : P.underlying t = some (.pointer el)) (d : Nat) (b : Option Addr) : (Op.equalIn (d + 1) t (.pointer none) (.pointer b)).run P w = .ok b.isNone w := by simp [Op.equalIn, run_underlying hd]
theorem nil_pn {t el : TypeId} (hd : P.underlying t = some (.pointer el)) (d : Nat) (b : Addr) : (Op.equalIn (d + 1) t (.pointer (some b)) (.pointer none)).run P w = .ok false w := by simp [Op.equalIn, run_underlying hd]
theorem nil_ss {t el : TypeId} (hd : P.underlying t = some (.slice el)) (d : Nat) (b : Option Addr) (l c l' c' : Nat) : (Op.equalIn (d + 1) t (.slice none l c) (.slice b l' c')).run P w = .ok b.isNone w := by simp [Op.equalIn, run_underlying hd]
theorem nil_sn {t el : TypeId} (hd : P.underlying t = some (.slice el)) (d : Nat) (b : Addr) (l c l' c' : Nat) : (Op.equalIn (d + 1) t (.slice (some b) l c) (.slice none l' c')).run P w = .ok false w := by simp [Op.equalIn, run_underlying hd]
theorem nil_ii {t : TypeId} {ms : Array (String × TypeId)} (hd : P.underlying t = some (.interface ms)) (d : Nat) : (Op.equalIn (d + 1) t .nilIface .nilIface).run P w = .ok true w := by simp [Op.equalIn, run_underlying hd]
theorem nil_if {t u : TypeId} {x : Value} {ms : Array (String × TypeId)} (hd : P.underlying t = some (.interface ms)) (d : Nat) : (Op.equalIn (d + 1) t .nilIface (.iface u x)).run P w = .ok false w := by simp [Op.equalIn, run_underlying hd]
theorem nil_fi {t u : TypeId} {x : Value} {ms : Array (String × TypeId)} (hd : P.underlying t = some (.interface ms)) (d : Nat) : (Op.equalIn (d + 1) t (.iface u x) .nilIface).run P w = .ok false w := by simp [Op.equalIn, run_underlying hd]
def nilish : Value → Bool
  | .pointer _ | .slice .. | .iface .. | .nilIface => true
  | _ => false
theorem nil_eql {t : TypeId} {x y : Value} {b : Bool} (hx : nilish x = true) (hy : nilish y = true) (h : (Op.equalIn (9999 + 1) t x y).run P w = .ok b w) : (binOp .eql t x y).run P w = .ok (.bool b) w ∧ (binOp .neq t x y).run P w = .ok (.bool (!b)) w := by
  have h' : (Op.equal t x y).run P w = .ok b w := h
  cases x <;> simp only [nilish] at hx <;> first | (cases hx; done) | skip
  all_goals (cases y <;> simp only [nilish] at hy <;> first | (cases hy; done) | skip)
  all_goals (constructor <;> simp [binOp, h'])
theorem op_bin {op : BinOp} {xt yt : Nat} {x y : Operand} (hv : Digits val) (hI : TOk P I) (H : HR val w M h n) (E : ER val M t a.tmps) (ho : o.op = .binOp op xt x y yt) (e : evBinOp op xt x y yt I O t h nm n K = some r) :
    ∃ d h', K d h' n = some r ∧ Goes P val a o M w h nm n d h' n := by
  replace e := opd_some hv E e
  obtain ⟨dx, e, hx⟩ := e
  replace e := opd_some hv E e
  obtain ⟨dy, e, hy⟩ := e
  have fin : ∀ {v : Value} {d : D}, K d h n = some r → VRel val M d v → (eqGuard op xt x y (a.eval x) (a.eval y)).run P w = .ok () w → (binOp op xt (a.eval x) (a.eval y)).run P w = .ok v w → ∃ d h', K d h' n = some r ∧ Goes P val a o M w h nm n d h' n := fun hk hr h1 h2 =>
    ⟨_, h, hk, Goes_val H (by simp only [execOp, ho, Sem.run_bind, h1, h2, Result.andThen_ok, Sem.run_pure]) hr⟩
  unfold bin at e
  cases hb : bothNil dx dy with
  | true =>
    rw [hb] at e
    replace e := req_some e
    obtain ⟨hc, e⟩ := e
    replace e := onSome_some e
    obtain ⟨T, hT, e⟩ := e
    replace e := ifIface_some e
    obtain ⟨hk, e⟩ := e
    obtain ⟨ms, hd⟩ := kind_iface (hI xt T hT) hk
    have hn : dx = .nili ∧ dy = .nili := by
      unfold bothNil at hb
      split at hb
      · split at hb
        · exact ⟨rfl, rfl⟩
        · cases hb
      · cases hb
    obtain ⟨rfl, rfl⟩ := hn
    simp only [VRel] at hx hy
    have hg : (eqGuard op xt x y (a.eval x) (a.eval y)).run P w = .ok () w := by
      rw [hx, hy]
      simp only [Bool.or_eq_true] at hc
      rcases hc with hc | hc
      · cases x <;> simp only [isNilConst] at hc <;> first | (cases hc; done) | skip
        cases op <;> simp [eqGuard]
      · cases y <;> simp only [isNilConst] at hc <;> first | (cases hc; done) | skip
        cases op <;> simp [eqGuard]
    rcases nilCmp_some e with ⟨rfl, e⟩ | ⟨rfl, e⟩
    · exact fin e (v := .bool true) (by simp [VRel]) hg (by rw [hx, hy]; exact (nil_eql (P := P) (w := w) rfl rfl (nil_ii hd 9999)).1)
    · exact fin e (v := .bool false) (by simp [VRel]) hg (by rw [hx, hy]; exact (nil_eql (P := P) (w := w) rfl rfl (nil_ii hd 9999)).2)
  | false =>
    rw [hb] at e
    replace e : arith dx I.ti op xt dy (fun d => K d h n) = some r := e
    cases dx
    case int k p =>
      simp only [VRel] at hx
      cases dy
      case int k' q =>
        simp only [VRel] at hy
        replace e : intInt op k k' p q (fun d => K d h n) = some r := e
        obtain ⟨d, v, e, h1, h2⟩ := intInt_run (P := P) (w := w) (t := xt) (val := val) (M := M) e
        exact fin e h2 (by rw [hx, hy]; exact run_guard_int) (by rw [hx, hy]; exact h1)
      case sym k' c =>
        simp only [VRel] at hy
        replace e : req (ikEq k k') (boolK (symCmp (flipOp op) p) fun d => K d h n) = some r := e
        replace e := req_some e
        obtain ⟨hk, e⟩ := e
        have := ikEq_true hk
        subst this
        unfold boolK at e
        split at e
        · rename_i b hb2
          have hd := hv.dig c hy.1
          exact fin e (v := .bool b) (by simp [VRel]) (by rw [hx, hy.2]; exact run_guard_int) (by rw [hx, hy.2]; exact symCmp_flip (by omega) (by omega) hb2)
        · cases e
      all_goals (change none = some r at e; cases e)
    case sym k c =>
      simp only [VRel] at hx
      replace e := asInt_some (d := dy) e
      obtain ⟨k', q, rfl, e⟩ := e
      simp only [VRel] at hy
      replace e := req_some e
      obtain ⟨hk, e⟩ := e
      have := ikEq_true hk
      subst this
      unfold boolK at e
      split at e
      · rename_i b hb2
        have hd := hv.dig c hx.1
        exact fin e (v := .bool b) (by simp [VRel]) (by rw [hx.2, hy]; exact run_guard_int) (by rw [hx.2, hy]; exact symCmp_run (by omega) (by omega) hb2)
      · cases e
    case bool p =>
      replace e := asBool_some (d := dy) e
      obtain ⟨q, rfl, e⟩ := e
      replace e := onSome_some e
      obtain ⟨T, hT, e⟩ := e
      replace e := ifBool_some e
      obtain ⟨hk, e⟩ := e
      simp only [VRel] at hx hy
      have hu := kind_bool (hI xt T hT) hk
      rw [eqB_eq] at e
      rcases nilCmp_some e with ⟨rfl, e⟩ | ⟨rfl, e⟩
      · exact fin e (v := .bool (p == q)) (by simp [VRel]) (by rw [hx, hy]; exact run_guard_bool) (by rw [hx, hy]; simp [binOp, Op.equal, Op.maxDepth, run_equalIn_bool' w 9999 xt p q hu])
      · exact fin e (v := .bool (!(p == q))) (by simp [VRel]) (by rw [hx, hy]; exact run_guard_bool) (by rw [hx, hy]; simp [binOp, Op.equal, Op.maxDepth, run_equalIn_bool' w 9999 xt p q hu])
    case str p =>
      replace e := asStr_some (d := dy) e
      obtain ⟨q, rfl, e⟩ := e
      simp only [VRel] at hx hy
      obtain ⟨d, v, e, h1, h2⟩ := arithS_run (P := P) (w := w) (t := xt) (M := M) hv e
      exact fin e h2 (by rw [hx, hy]; exact run_guard_str) (by rw [hx, hy]; exact h1)
    case agg p =>
      replace e := asAgg_some (d := dy) e
      obtain ⟨q, rfl, e⟩ := e
      replace e := onSome_some e
      obtain ⟨T, hT, e⟩ := e
      replace e := onSome_some e
      obtain ⟨ks, hks, e⟩ := e
      replace e := onSome_some e
      obtain ⟨b, hb2, e⟩ := e
      simp only [VRel] at hx hy
      obtain ⟨vx, ex, hx⟩ := hx
      obtain ⟨vy, ey, hy⟩ := hy
      obtain ⟨fs, hu, hst, hg, hkk⟩ := cmp_struct (hI xt T hT) hks
      have hfs : P.fieldsOf xt = fs := by simp [Program.fieldsOf, hu]
      have run := run_equalIn_struct (P := P) w 9999 xt vx vy (by rw [hfs]; exact hu) hst
      rw [hfs, eqFields_run (P := P) (M := M) (w := w) hv 9998 fs.toList 0 ks p q vx vy b hkk (by simpa using hx) (by simpa using hy) hb2] at run
      have gd : (eqGuard op xt x y (a.eval x) (a.eval y)).run P w = .ok () w := by rw [ex, ey]; exact run_eqGuard_agg w op xt x y vx vy hg
      rcases nilCmp_some e with ⟨rfl, e⟩ | ⟨rfl, e⟩
      · exact fin e (v := .bool b) (by simp [VRel]) gd (by rw [ex, ey, run_eql_struct, run]; rfl)
      · exact fin e (v := .bool (!b)) (by simp [VRel]) gd (by rw [ex, ey, run_neq_struct, run]; rfl)
    case nilp =>
      replace e := onSome_some e
      obtain ⟨T, hT, e⟩ := e
      replace e := ifPtr_some e
      obtain ⟨hk, e⟩ := e
      obtain ⟨el, hd⟩ := kind_ptr (hI xt T hT) hk
      simp only [VRel] at hx
      cases dy <;> simp only at e
      case nilp =>
        simp only [VRel] at hy
        have gd : (eqGuard op xt x y (a.eval x) (a.eval y)).run P w = .ok () w := by rw [hx, hy]; cases op <;> simp [eqGuard]
        rcases nilCmp_some e with ⟨rfl, e⟩ | ⟨rfl, e⟩
        · exact fin e (v := .bool true) (by simp [VRel]) gd (by rw [hx, hy]; exact (nil_eql (P := P) (w := w) rfl rfl (nil_pp hd 9999 none)).1)
        · exact fin e (v := .bool false) (by simp [VRel]) gd (by rw [hx, hy]; exact (nil_eql (P := P) (w := w) rfl rfl (nil_pp hd 9999 none)).2)
      case ptr ob off =>
        simp only [VRel] at hy
        obtain ⟨l, _, hy⟩ := hy
        have gd : (eqGuard op xt x y (a.eval x) (a.eval y)).run P w = .ok () w := by rw [hx, hy]; cases op <;> simp [eqGuard]
        rcases nilCmp_some e with ⟨rfl, e⟩ | ⟨rfl, e⟩
        · exact fin e (v := .bool false) (by simp [VRel]) gd (by rw [hx, hy]; exact (nil_eql (P := P) (w := w) rfl rfl (nil_pp hd 9999 _)).1)
        · exact fin e (v := .bool true) (by simp [VRel]) gd (by rw [hx, hy]; exact (nil_eql (P := P) (w := w) rfl rfl (nil_pp hd 9999 _)).2)
      all_goals cases e
    case ptr ob off =>
      replace e := onSome_some e
      obtain ⟨T, hT, e⟩ := e
      replace e := ifPtr_some e
      obtain ⟨hk, e⟩ := e
      obtain ⟨el, hd⟩ := kind_ptr (hI xt T hT) hk
      simp only [VRel] at hx
      obtain ⟨l, _, hx⟩ := hx
      cases dy <;> simp only at e
      case nilp =>
        simp only [VRel] at hy
        have gd : (eqGuard op xt x y (a.eval x) (a.eval y)).run P w = .ok () w := by rw [hx, hy]; cases op <;> simp [eqGuard]
        rcases nilCmp_some e with ⟨rfl, e⟩ | ⟨rfl, e⟩
        · exact fin e (v := .bool false) (by simp [VRel]) gd (by rw [hx, hy]; exact (nil_eql (P := P) (w := w) rfl rfl (nil_pn hd 9999 _)).1)
        · exact fin e (v := .bool true) (by simp [VRel]) gd (by rw [hx, hy]; exact (nil_eql (P := P) (w := w) rfl rfl (nil_pn hd 9999 _)).2)
      all_goals cases e
    case nils =>
      replace e := onSome_some e
      obtain ⟨T, hT, e⟩ := e
      replace e := ifSlice_some e
      obtain ⟨hk, e⟩ := e
      obtain ⟨el, hd⟩ := kind_slice (hI xt T hT) hk
      simp only [VRel] at hx
      cases dy <;> simp only at e
      case nils =>
        simp only [VRel] at hy
        have gd : (eqGuard op xt x y (a.eval x) (a.eval y)).run P w = .ok () w := by rw [hx, hy]; cases op <;> simp [eqGuard]
        rcases nilCmp_some e with ⟨rfl, e⟩ | ⟨rfl, e⟩
        · exact fin e (v := .bool true) (by simp [VRel]) gd (by rw [hx, hy]; exact (nil_eql (P := P) (w := w) rfl rfl (nil_ss hd 9999 none 0 0 0 0)).1)
        · exact fin e (v := .bool false) (by simp [VRel]) gd (by rw [hx, hy]; exact (nil_eql (P := P) (w := w) rfl rfl (nil_ss hd 9999 none 0 0 0 0)).2)
      case sl st ob off len =>
        simp only [VRel] at hy
        obtain ⟨l, aa, c, _, hy, _⟩ := hy
        have gd : (eqGuard op xt x y (a.eval x) (a.eval y)).run P w = .ok () w := by rw [hx, hy]; cases op <;> simp [eqGuard]
        rcases nilCmp_some e with ⟨rfl, e⟩ | ⟨rfl, e⟩
        · exact fin e (v := .bool false) (by simp [VRel]) gd (by rw [hx, hy]; exact (nil_eql (P := P) (w := w) rfl rfl (nil_ss hd 9999 _ 0 0 _ _)).1)
        · exact fin e (v := .bool true) (by simp [VRel]) gd (by rw [hx, hy]; exact (nil_eql (P := P) (w := w) rfl rfl (nil_ss hd 9999 _ 0 0 _ _)).2)
      all_goals cases e
    case sl st ob off len =>
      replace e := onSome_some e
      obtain ⟨T, hT, e⟩ := e
      replace e := ifSlice_some e
      obtain ⟨hk, e⟩ := e
      obtain ⟨el, hd⟩ := kind_slice (hI xt T hT) hk
      simp only [VRel] at hx
      obtain ⟨l, aa, c, _, hx, _⟩ := hx
      cases dy <;> simp only at e
      case nils =>
        simp only [VRel] at hy
        have gd : (eqGuard op xt x y (a.eval x) (a.eval y)).run P w = .ok () w := by rw [hx, hy]; cases op <;> simp [eqGuard]
        rcases nilCmp_some e with ⟨rfl, e⟩ | ⟨rfl, e⟩
        · exact fin e (v := .bool false) (by simp [VRel]) gd (by rw [hx, hy]; exact (nil_eql (P := P) (w := w) rfl rfl (nil_sn hd 9999 _ _ _ 0 0)).1)
        · exact fin e (v := .bool true) (by simp [VRel]) gd (by rw [hx, hy]; exact (nil_eql (P := P) (w := w) rfl rfl (nil_sn hd 9999 _ _ _ 0 0)).2)
      all_goals cases e
    case nili =>
      replace e := onSome_some e
      obtain ⟨T, hT, e⟩ := e
      replace e := ifIface_some e
      obtain ⟨hk, e⟩ := e
      obtain ⟨ms, hd⟩ := kind_iface (hI xt T hT) hk
      simp only [VRel] at hx
      cases dy <;> simp only at e
      case ifc ty d =>
        simp only [VRel] at hy
        obtain ⟨x', hy, _⟩ := hy
        have gd : (eqGuard op xt x y (a.eval x) (a.eval y)).run P w = .ok () w := by rw [hx, hy]; cases op <;> simp [eqGuard]
        rcases nilCmp_some e with ⟨rfl, e⟩ | ⟨rfl, e⟩
        · exact fin e (v := .bool false) (by simp [VRel]) gd (by rw [hx, hy]; exact (nil_eql (P := P) (w := w) rfl rfl (nil_if hd 9999)).1)
        · exact fin e (v := .bool true) (by simp [VRel]) gd (by rw [hx, hy]; exact (nil_eql (P := P) (w := w) rfl rfl (nil_if hd 9999)).2)
      all_goals cases e
    case ifc ty d =>
      replace e := onSome_some e
      obtain ⟨T, hT, e⟩ := e
      replace e := ifIface_some e
      obtain ⟨hk, e⟩ := e
      obtain ⟨ms, hd⟩ := kind_iface (hI xt T hT) hk
      simp only [VRel] at hx
      obtain ⟨x', hx, _⟩ := hx
      cases dy <;> simp only at e
      case nili =>
        simp only [VRel] at hy
        have gd : (eqGuard op xt x y (a.eval x) (a.eval y)).run P w = .ok () w := by rw [hx, hy]; cases op <;> simp [eqGuard]
        rcases nilCmp_some e with ⟨rfl, e⟩ | ⟨rfl, e⟩
        · exact fin e (v := .bool false) (by simp [VRel]) gd (by rw [hx, hy]; exact (nil_eql (P := P) (w := w) rfl rfl (nil_fi hd 9999)).1)
        · exact fin e (v := .bool true) (by simp [VRel]) gd (by rw [hx, hy]; exact (nil_eql (P := P) (w := w) rfl rfl (nil_fi hd 9999)).2)
      all_goals cases e
    all_goals (change none = some r at e; cases e)
theorem op_unOp {op : UnOp} {ty : Nat} {x : Operand} (hv : Digits val) (H : HR val w M h n) (E : ER val M t a.tmps) (ho : o.op = .unOp op ty x) (e : evUnOp op ty x I O t h nm n K = some r) : ∃ d h', K d h' n = some r ∧ Goes P val a o M w h nm n d h' n := by
  cases op <;> simp only [evUnOp] at e
  case not =>
    obtain ⟨d, e, hr⟩ := opd_some hv E e
    replace e := asBool_some e
    obtain ⟨b, rfl, e⟩ := e
    simp only [VRel] at hr
    exact ⟨_, h, e, Goes_val H (v := .bool !b) (by simp [execOp, ho, hr, Op.unary]) (by simp [VRel])⟩
  case neg =>
    obtain ⟨d, e, hr⟩ := opd_some hv E e
    replace e := asInt_some e
    obtain ⟨k, m, rfl, e⟩ := e
    simp only [VRel] at hr
    rw [wrapF_eq, subI_eq] at e
    exact ⟨_, h, e, Goes_val H (v := .int k (k.wrap (0 - m))) (by simp [execOp, ho, hr, Op.unary, Op.intArith]) (by simp [VRel])⟩
  case xor =>
    obtain ⟨d, e, hr⟩ := opd_some hv E e
    replace e := asInt_some e
    obtain ⟨k, m, rfl, e⟩ := e
    simp only [VRel] at hr
    exact ⟨_, h, e, Goes_val H (by simp [execOp, ho, hr, Op.unary, Op.intBits]; rfl) (by simp [VRel])⟩
  all_goals cases e

theorem aggK_run {T : T} {ty : Nat} (hT : tOf P ty = some T) {b lo : Nat} {l : List D} {vs : List Value} (hvs : VRelL val M l vs) (hlen : vs.length = T.size) (hc : ∀ (j : Nat) (v : Value), vs[j]? = some v → w.cell? (ad b (lo + j)) = some v)
    {K : D → Option R} (e : aggK T l K = some r) : ∃ d x, K d = some r ∧ VRel val M d x ∧ (loadVar ty (ad b lo)).run P w = .ok x w := by
  obtain ⟨i, ds, z, hi, hd, hz, hsz, h1, h2, hk⟩ := tOf_base hT
  have hl := run_loadCells_list (P := P) w (ad b lo) vs (fun j x hj => by rw [ad_add]; exact hc j x hj)
  rw [hlen, h1] at hl
  have agg : ((∃ f, ds = .struct f) ∨ ∃ n e, ds = .array n e) → (loadVar ty (ad b lo)).run P w = .ok (.agg vs.toArray) w := fun q => by
    rcases q with ⟨f, q⟩ | ⟨n, e, q⟩ <;> rw [q] at hd <;> simp [loadVar, isAgg, run_underlying hd, sizeOf, typeInfo, hi, hl]
  have one : (∀ f, ds ≠ .struct f) ∧ (∀ n e, ds ≠ .array n e) → one l K = some r → ∃ d x, K d = some r ∧ VRel val M d x ∧ (loadVar ty (ad b lo)).run P w = .ok x w := fun ⟨hs, ha⟩ e1 => by
    have hagg : (isAgg ty).run P w = .ok false w := by
      unfold isAgg
      cases ds <;> first
        | exact absurd rfl (hs _)
        | exact absurd rfl (ha _ _)
        | simp [run_underlying hd]
    replace e1 := one_some e1
    obtain ⟨d, rfl, e1⟩ := e1
    simp only [VRelL] at hvs
    obtain ⟨x, _, rfl, hx, rfl⟩ := hvs
    refine ⟨d, x, e1, hx, ?_⟩
    have hc0 := hc 0 x rfl
    rw [Nat.add_zero] at hc0
    simp [loadVar, hagg, hc0]
  unfold aggK at e
  cases ds <;> simp only at hk
  case struct fs => rw [hk.1] at e; exact ⟨_, _, e, by simp only [VRel]; exact ⟨_, rfl, by simpa using hvs⟩, agg (.inl ⟨_, rfl⟩)⟩
  case array k el => rw [hk.1] at e; exact ⟨_, _, e, by simp only [VRel]; exact ⟨_, rfl, by simpa using hvs⟩, agg (.inr ⟨_, _, rfl⟩)⟩
  all_goals (rw [hk.1] at e; exact one ⟨by simp, by simp⟩ e)
/-- Cells that are known, and what they hold. -/
theorem cells_read {l : Loc} {ds : List D} (ho : OR val w M (.cells ds) l) {A B C : List D} (e : ds = A ++ B ++ C) : ∃ vs, VRelL val M B vs ∧ vs.length = B.length ∧ ∀ (j : Nat) (v : Value), vs[j]? = some v → w.cell? (ad l.b (l.base + A.length + j)) = some v := by
  obtain ⟨_, _, h3⟩ := ho
  have g : ∀ j d, B[j]? = some d → ∃ v, w.cell? (ad l.b (l.base + A.length + j)) = some v ∧ VRel val M d v := fun j d hj => by
    have := h3 (A.length + j) d (by rw [e, List.append_assoc, List.getElem?_append_right (by omega), Nat.add_sub_cancel_left, List.getElem?_append_left (List.getElem?_eq_some_iff.1 hj).1]; exact hj)
    rwa [← Nat.add_assoc] at this
  clear e h3
  have key : ∀ (B : List D) (s : Nat), (∀ j d, B[j]? = some d → ∃ v, w.cell? (ad l.b (s + j)) = some v ∧ VRel val M d v) → ∃ vs, VRelL val M B vs ∧ vs.length = B.length ∧ ∀ (j : Nat) (v : Value), vs[j]? = some v → w.cell? (ad l.b (s + j)) = some v := by
    intro B
    induction B with
    | nil => intro s _; exact ⟨[], by simp [VRelL], rfl, by simp⟩
    | cons d B ih =>
      intro s g
      obtain ⟨v, h1, h2⟩ := g 0 d rfl
      obtain ⟨vs, k1, k2, k3⟩ := ih (s + 1) (fun j d' hj => by have := g (j + 1) d' (by simpa using hj); rwa [show s + (j + 1) = s + 1 + j by omega] at this)
      refine ⟨v :: vs, by simp only [VRelL]; exact ⟨v, vs, rfl, h2, k1⟩, by simp [k2], fun j x hj => ?_⟩
      cases j with
      | zero => simp at hj; subst hj; exact h1
      | succ j => rw [show s + (j + 1) = s + 1 + j by omega]; exact k3 j x (by simpa using hj)
  exact key B _ g
theorem op_load {ty : Nat} {x : Operand} (hv : Digits val) (hI : TOk P I) (H : HR val w M h n) (E : ER val M t a.tmps) (ho : o.op = .load ty x) (e : evLoad ty x I O t h nm n K = some r) : ∃ d h', K d h' n = some r ∧ Goes P val a o M w h nm n d h' n := by
  replace e := onSome_some e
  obtain ⟨T, hT, e⟩ := e
  obtain ⟨d, e, hr⟩ := opd_some hv E e
  replace e := asPtr_some e
  obtain ⟨ob, off, rfl, e⟩ := e
  replace e := hget_some e
  obtain ⟨c, hc, e⟩ := e
  replace e := asCells_some e
  obtain ⟨ds, rfl, e⟩ := e
  replace e := cut_some e
  obtain ⟨A, B, C, hABC, hA, hB, e⟩ := e
  simp only [VRel] at hr
  obtain ⟨l, hl, q⟩ := hr
  obtain ⟨vs, k1, k2, k3⟩ := cells_read (H.obj _ _ _ hc hl) hABC
  obtain ⟨d, x', e, hd, run⟩ := aggK_run (P := P) (w := w) (val := val) (M := M) (b := l.b) (lo := l.base + off) (hI ty T hT) k1 (by rw [k2, hB]) (by rw [hA] at k3; exact k3) e
  exact ⟨d, h, e, Goes_val H (v := x') (by simp [execOp, ho, Instr.loadAt, Instr.sureAddr, q, run]) hd⟩

theorem setCells_facts (b : Nat) : ∀ (vs : List Value) (o : Nat) (w : World), (w.setCells b o vs).os = w.os ∧ (w.setCells b o vs).tape = w.tape ∧ (w.setCells b o vs).output = w.output ∧ (w.setCells b o vs).heap.size = w.heap.size ∧ (∀ b', b' ≠ b → (w.setCells b o vs).heap[b']? = w.heap[b']?) ∧ ∀ x, (w.setCells b o vs).frozen? x = w.frozen? x
  | [], o, w => ⟨rfl, rfl, rfl, rfl, fun _ _ => rfl, fun _ => rfl⟩
  | v :: vs, o, w => by
    obtain ⟨h1, h2, h3, h4, h5, h6⟩ := setCells_facts b vs (o + 1) (w.setCell ⟨b, o, none⟩ v)
    refine ⟨h1, h2, h3, h4.trans ?_, fun b' hb => (h5 b' hb).trans ?_, fun x => (h6 x).trans (World.frozen?_setCell ..)⟩
    · simp [World.setCell]
    · simp only [World.setCell]; rw [Array.getElem?_modify, if_neg (fun q => hb q.symm)]
/-- Cells are written. -/
theorem store_cells (H : HR val w M h n) {ob off : Nat} {c : List D} {vs : List Value} {K : Heap → Option R} {l : Loc} (hl : M ob = some l) (hc : VRelL val M c vs) (h1 : ∀ v ∈ vs, v.oneCell' = true) (e : storeK h ob off c K = some r) :
    ∃ h', K h' = some r ∧ HR val (w.setCells l.b (l.base + off) vs) M h' n ∧ Step M w h M (w.setCells l.b (l.base + off) vs) h' (fun _ => False) ∧ (storeCells (ad l.b (l.base + off)) vs).run P w = .ok () (w.setCells l.b (l.base + off) vs) := by
  replace e := hget_some e
  obtain ⟨cc, hcc, e⟩ := e
  replace e := asCells_some e
  obtain ⟨ds, rfl, e⟩ := e
  obtain ⟨A, B, C, rfl, hA, hB, e⟩ := splice_some _ _ _ _ e
  rw [hput_eq] at e
  have hlen := VRelL_length hc
  obtain ⟨o1, o2, o3⟩ := H.obj _ _ _ hcc hl
  have hsz : A.length + B.length + C.length ≤ l.size := by simpa [Nat.add_assoc] using o1
  obtain ⟨f1, f2, f3, f4, f5, f6⟩ := setCells_facts l.b vs (l.base + off) w
  have hmine : ∀ j, j < vs.length → ∃ v, Mine w l.b (l.base + off + j) v := fun j hj => by
    have := o2 (off + j) (by omega)
    rwa [← Nat.add_assoc] at this
  have hin := World.cell?_setCells_in l.b vs (l.base + off) w (fun j hj => by obtain ⟨v, hv⟩ := hmine j hj; exact Option.isSome_iff_exists.2 ⟨v, hv.1⟩)
  obtain ⟨H', S⟩ := HR_upd H (w' := w.setCells l.b (l.base + off) vs) hcc hl ⟨f1, f2, f3⟩ f4 f5 (c' := .cells (A ++ c ++ C)) (by
    refine ⟨by simp; omega, fun i hi => ?_, fun i d hd => ?_⟩
    · obtain ⟨v, hv⟩ := o2 i hi
      by_cases q : off ≤ i ∧ i < off + vs.length
      · have := hin (i - off) (by omega)
        rw [show l.base + off + (i - off) = l.base + i by omega] at this
        exact ⟨_, this, (f6 _).trans hv.2⟩
      · exact ⟨v, (World.cell?_setCells_out l.b vs (l.base + off) w _ (fun _ _ => by show l.base + i < l.base + off ∨ _ ≤ l.base + i; omega)).trans hv.1, (f6 _).trans hv.2⟩
    · by_cases q : off ≤ i ∧ i < off + vs.length
      · have g := hin (i - off) (by omega)
        rw [show l.base + off + (i - off) = l.base + i by omega] at g
        refine ⟨_, g, ?_⟩
        have hd' : c[i - off]? = some d := by
          rw [List.append_assoc, List.getElem?_append_right (by omega), hA, List.getElem?_append_left (by omega)] at hd; exact hd
        obtain ⟨v, k1, k2⟩ := VRelL_get hc hd'
        rw [List.getElem?_eq_getElem (by omega)] at k1
        cases k1
        exact k2
      · have hd' : (A ++ B ++ C)[i]? = some d := by
          rw [← hd]
          by_cases q2 : i < off
          · rw [List.append_assoc, List.append_assoc, List.getElem?_append_left (by omega), List.getElem?_append_left (by omega)]
          · rw [List.append_assoc, List.append_assoc, List.getElem?_append_right (by omega), List.getElem?_append_right (by omega), List.getElem?_append_right (by omega), List.getElem?_append_right (by omega), hB]
        obtain ⟨v, k1, k2⟩ := o3 i d hd'
        exact ⟨v, (World.cell?_setCells_out l.b vs (l.base + off) w _ (fun _ _ => by show l.base + i < l.base + off ∨ _ ≤ l.base + i; omega)).trans k1, k2⟩)
  refine ⟨_, e, H', S, ?_⟩
  have st := run_storeCells_cells (P := P) l.b (l.base + off) vs 0 w (fun j hj => by obtain ⟨v, hv⟩ := hmine j hj; rw [Nat.add_zero]; exact Option.isSome_iff_exists.2 ⟨v, hv.1⟩) (fun j hj => by obtain ⟨v, hv⟩ := hmine j hj; rw [Nat.add_zero]; exact hv.2) h1
  exact st
theorem op_store {ty : Nat} {x y : Operand} (hv : Digits val) (hI : TOk P I) (H : HR val w M h n) (E : ER val M t a.tmps) (ho : o.op = .store ty x y) (e : evStore ty x y I O t h nm n K = some r) : ∃ d h', K d h' n = some r ∧ Goes P val a o M w h nm n d h' n := by
  replace e := onSome_some e
  obtain ⟨T, hT, e⟩ := e
  obtain ⟨d, e, hr⟩ := opd_some hv E e
  replace e := asPtr_some e
  obtain ⟨ob, off, rfl, e⟩ := e
  obtain ⟨d, e, hr2⟩ := opd_some hv E e
  obtain ⟨c, e, hc, hl, _⟩ := cellsK_some hr2 e
  replace e := req_some e
  obtain ⟨hlen, e⟩ := e
  replace e := cellsOk_some e
  obtain ⟨hok, e⟩ := e
  simp only [VRel] at hr
  obtain ⟨l, hM, q⟩ := hr
  obtain ⟨i, ds, z, hi, hd, hz, hsz, h1, h2, _⟩ := tOf_base (hI ty T hT)
  obtain ⟨h', e, H', S, run⟩ := store_cells (P := P) H hM hc (fun v hv => by obtain ⟨d, hd, hrd⟩ := VRelL_mem hc hv; exact cellOk_one (hok d hd) hrd) e
  refine ⟨_, h', e, fun next Q k => ?_⟩
  have hsz' : (a.eval y).cells.size = i.size := by rw [← hl, beq_true hlen, h1]
  have run' : (execOp a.eval o).run P w = .ok .skip (w.setCells l.b (l.base + off) (a.eval y).cells.toList) := by
    simp [execOp, ho, Instr.storeAt, Instr.sureAddr, q, storeVar, sizeOf, typeInfo, hi, hsz', run]
  unfold Oper.wp
  rw [run']
  exact k undef _ M H' (by simp only [VRel]; exact ⟨#[], rfl, by simp [VRelL]⟩) (S.weaken fun _ q => q.elim)
end
end Go.Gh
