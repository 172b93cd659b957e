import Derived.Test.YtidododdhnbpkaaGreatDoorGhR2
import Derived.Laws.Sem
import Derived.Laws.Entries
import Derived.Laws.Cells
set_option linter.unusedVariables false
set_option linter.unnecessarySimpa false
set_option linter.unusedSimpArgs false
namespace Go.Gh
open Go.RowKit

theorem codes_val {val : Nat → UInt8} (hv : Digits val) (l : List UInt8) : (l.map codeOf).map val = l := by
  rw [List.map_map]
  conv => rhs; rw [← List.map_id l]
  apply List.map_congr_left
  intro b _
  show val b.toNat = b
  rw [hv.lit _ b.toNat_lt]; simp
theorem VRel_dOf {val : Nat → UInt8} (hv : Digits val) (M : Mp) (v : Value) : VRel val M (dOf v) v := by
  unfold dOf
  split <;> simp only [VRel]
  rw [codes_val hv]
theorem VRelL_dOf {val : Nat → UInt8} (hv : Digits val) (M : Mp) : ∀ vs : List Value, VRelL val M (vs.map dOf) vs
  | [] => by simp [VRelL]
  | v :: vs => by simp only [VRelL, List.map_cons]; exact ⟨v, vs, rfl, VRel_dOf hv M v, VRelL_dOf hv M vs⟩

def TOk (P : Program) (I : Info) : Prop := ∀ t T, I.ti t = some T → tOf P t = some T

theorem mk_some {k : Kind} {n : Nat} {z : Value} {T : T} (h : mk k n z = some T) : n = 1 ∧ T = ⟨k, n, [], none, 0, [], z.cells.toList.map dOf⟩ := by
  unfold mk at h
  split at h
  · cases h; exact ⟨‹_›, rfl⟩
  · cases h
theorem tOf_base {P : Program} {t : Nat} {T : T} (h : tOf P t = some T) : ∃ i d z, P.info? t = some i ∧ P.underlying t = some d ∧ i.zero = some z ∧ z.cells.size = i.size ∧ T.size = i.size ∧ T.zero = z.cells.toList.map dOf ∧
    (match d with
    | .int k => T.kind = .int k ∧ T.size = 1 ∧ T.offs = [] ∧ T.cmp = none
    | .bool => T.kind = .bool ∧ T.size = 1 ∧ T.offs = [] ∧ T.cmp = none
    | .string => T.kind = .str ∧ T.size = 1 ∧ T.offs = [] ∧ T.cmp = none
    | .pointer _ => T.kind = .ptr ∧ T.size = 1 ∧ T.offs = [] ∧ T.cmp = none
    | .func .. => T.kind = .func ∧ T.size = 1 ∧ T.offs = [] ∧ T.cmp = none
    | .interface _ => T.kind = .iface ∧ T.size = 1 ∧ T.offs = [] ∧ T.cmp = none
    | .map k e => T.kind = .map ∧ T.size = 1 ∧ T.offs = [] ∧ T.cmp = none ∧ P.underlying k = some .string ∧ ∃ j y, P.info? e = some j ∧ j.zero = some y ∧ (∀ c, y ≠ .agg c) ∧ (∀ c, y ≠ .tuple c) ∧ T.ezero = [dOf y]
    | .slice e => T.kind = .slice ∧ T.size = 1 ∧ T.offs = [] ∧ T.cmp = none ∧ ∃ j y, P.info? e = some j ∧ j.zero = some y ∧ y.cells.size = j.size ∧ 0 < j.size ∧ j.size ≤ 64 ∧ j.bytes ≤ 2048 ∧ (0 < j.bytes ∧ byteOk P e y.cells.toList = true) ∧ T.elem = j.size ∧ T.ezero = y.cells.toList.map dOf
    | .array n e => T.kind = .arr n ∧ T.offs = [] ∧ T.cmp = none ∧ (∃ c, z = .agg c) ∧ ∃ j, P.info? e = some j ∧ 0 < j.size ∧ T.elem = j.size ∧ T.ezero = if aggOrNone P e then [] else [.nilp]
    | .struct fs => T.kind = .struct ∧ (∃ c, z = .agg c) ∧ T.offs = offsOf P fs.toList ∧ T.cmp = cmpOf P t fs.toList ∧ fs.toList.all (fun f => (P.info? f.type).isSome) = true ∧ fs.toList.all (fun f => (P.underlying f.type).isSome) = true
    | _ => False) := by
  unfold tOf at h
  split at h
  · rename_i i d hi hd
    split at h
    · rename_i z hz
      split at h
      · rename_i hsz
        refine ⟨i, d, z, hi, hd, hz, hsz, ?_⟩
        cases d <;> simp only at h ⊢
        case int => obtain ⟨h1, rfl⟩ := mk_some h; exact ⟨rfl, rfl, rfl, h1, rfl, rfl⟩
        case bool => obtain ⟨h1, rfl⟩ := mk_some h; exact ⟨rfl, rfl, rfl, h1, rfl, rfl⟩
        case string => obtain ⟨h1, rfl⟩ := mk_some h; exact ⟨rfl, rfl, rfl, h1, rfl, rfl⟩
        case pointer => obtain ⟨h1, rfl⟩ := mk_some h; exact ⟨rfl, rfl, rfl, h1, rfl, rfl⟩
        case func => obtain ⟨h1, rfl⟩ := mk_some h; exact ⟨rfl, rfl, rfl, h1, rfl, rfl⟩
        case interface => obtain ⟨h1, rfl⟩ := mk_some h; exact ⟨rfl, rfl, rfl, h1, rfl, rfl⟩
        case map k e =>
          split at h
          · rename_i j hk hj
            split at h
            · cases h
            · cases h
            · cases h
            · rename_i y ha ht hy
              split at h
              · rename_i h1; cases h; exact ⟨rfl, rfl, rfl, h1, rfl, rfl, hk, j, y, hj, hy, fun c q => ha c q, fun c q => ht c q, rfl⟩
              · cases h
          · cases h
        case slice e =>
          split at h
          · rename_i j hj
            split at h
            · rename_i y hy
              split at h
              · rename_i hc
                cases h
                exact ⟨rfl, rfl, rfl, hc.1, rfl, rfl, j, y, hj, hy, hc.2.1, hc.2.2.1, hc.2.2.2.1, hc.2.2.2.2.1, hc.2.2.2.2.2, rfl, rfl⟩
              · cases h
            · cases h
          · cases h
        case array n e =>
          split at h
          · rename_i j hj
            split at h
            · split at h
              · rename_i hc; cases h; exact ⟨rfl, rfl, rfl, rfl, rfl, ⟨_, rfl⟩, j, hj, hc, rfl, rfl⟩
              · cases h
            · cases h
          · cases h
        case struct fs =>
          split at h
          · split at h
            · rename_i hc; cases h; exact ⟨rfl, rfl, rfl, ⟨_, rfl⟩, rfl, rfl, hc⟩
            · cases h
          · cases h
        all_goals cases h
      · cases h
    · cases h
  · cases h
section
variable {P : Program} {T : T} {ty : Nat}
theorem slice_T (h : tOf P ty = some T) {el : TypeId} (hd : P.underlying ty = some (.slice el)) : ∃ j y, P.info? el = some j ∧ j.zero = some y ∧ y.cells.size = j.size ∧ 0 < j.size ∧ j.size ≤ 64 ∧ j.bytes ≤ 2048 ∧ (0 < j.bytes ∧ byteOk P el y.cells.toList = true) ∧ T.elem = j.size ∧ T.ezero = y.cells.toList.map dOf := by
  obtain ⟨i, d, z, _, hd', _, _, _, _, hm⟩ := tOf_base h
  rw [hd] at hd'; cases hd'
  exact hm.2.2.2.2
theorem kind_slice (h : tOf P ty = some T) (hk : T.kind = .slice) : ∃ el, P.underlying ty = some (.slice el) := by
  obtain ⟨i, d, z, _, hd, _, _, _, _, hm⟩ := tOf_base h
  cases d <;> simp only at hm <;> first | (exact ⟨_, hd⟩) | (rw [hk] at hm; cases hm.1) | exact hm.elim
theorem kind_str (h : tOf P ty = some T) (hk : T.kind = .str) : P.underlying ty = some .string := by
  obtain ⟨i, d, z, _, hd, _, _, _, _, hm⟩ := tOf_base h
  cases d <;> simp only at hm <;> first | exact hd | (rw [hk] at hm; cases hm.1) | exact hm.elim
theorem kind_bool (h : tOf P ty = some T) (hk : T.kind = .bool) : P.underlying ty = some .bool := by
  obtain ⟨i, d, z, _, hd, _, _, _, _, hm⟩ := tOf_base h
  cases d <;> simp only at hm <;> first | exact hd | (rw [hk] at hm; cases hm.1) | exact hm.elim
theorem kind_ptr (h : tOf P ty = some T) (hk : T.kind = .ptr) : ∃ el, P.underlying ty = some (.pointer el) := by
  obtain ⟨i, d, z, _, hd, _, _, _, _, hm⟩ := tOf_base h
  cases d <;> simp only at hm <;> first | exact ⟨_, hd⟩ | (rw [hk] at hm; cases hm.1) | exact hm.elim
theorem kind_iface (h : tOf P ty = some T) (hk : T.kind = .iface) : ∃ ms, P.underlying ty = some (.interface ms) := by
  obtain ⟨i, d, z, _, hd, _, _, _, _, hm⟩ := tOf_base h
  cases d <;> simp only at hm <;> first | exact ⟨_, hd⟩ | (rw [hk] at hm; cases hm.1) | exact hm.elim
theorem kind_struct (h : tOf P ty = some T) (hk : T.kind = .struct) : ∃ fs, P.underlying ty = some (.struct fs) := by
  obtain ⟨i, d, z, _, hd, _, _, _, _, hm⟩ := tOf_base h
  cases d <;> simp only at hm <;> first | exact ⟨_, hd⟩ | (rw [hk] at hm; cases hm.1) | exact hm.elim
theorem kind_int {k : IntKind} (h : tOf P ty = some T) (hk : T.kind = .int k) : P.underlying ty = some (.int k) := by
  obtain ⟨i, d, z, _, hd, _, _, _, _, hm⟩ := tOf_base h
  cases d <;> simp only at hm <;> first | (rw [hk] at hm; cases hm.1; done) | (rw [hk] at hm; cases hm.1; exact hd) | exact hm.elim
theorem kind_arr {len : Nat} (h : tOf P ty = some T) (hk : T.kind = .arr len) : ∃ el j, P.underlying ty = some (.array len el) ∧ P.info? el = some j ∧ 0 < j.size ∧ T.elem = j.size ∧ T.ezero = if aggOrNone P el then [] else [.nilp] := by
  obtain ⟨i, d, z, _, hd, _, _, _, _, hm⟩ := tOf_base h
  cases d <;> simp only at hm
  case array n e =>
    obtain ⟨h1, _, _, _, j, h2, h3, h4⟩ := hm
    rw [hk] at h1; cases h1
    exact ⟨e, j, hd, h2, h3, h4⟩
  all_goals first | (rw [hk] at hm; cases hm.1; done) | exact hm.elim
theorem kind_map (h : tOf P ty = some T) (hk : T.kind = .map) : ∃ k e j y, P.underlying ty = some (.map k e) ∧ P.underlying k = some .string ∧ P.info? e = some j ∧ j.zero = some y ∧ (∀ c, y ≠ .agg c) ∧ (∀ c, y ≠ .tuple c) ∧ T.ezero = [dOf y] := by
  obtain ⟨i, d, z, _, hd, _, _, _, _, hm⟩ := tOf_base h
  cases d <;> simp only at hm
  case map k e =>
    obtain ⟨_, _, _, _, h1, j, y, h2⟩ := hm
    exact ⟨k, e, j, y, hd, h1, h2⟩
  all_goals first | (rw [hk] at hm; cases hm.1; done) | exact hm.elim
theorem field_facts {f : Nat} (h : tOf P ty = some T) {p : Nat × Nat × Bool} (hp : T.offs[f]? = some p) : ∃ fs g j, P.underlying ty = some (.struct fs) ∧ fs[f]? = some g ∧ P.info? g.type = some j ∧ p = (g.offset, j.size, isAggT P g.type) ∧ (∃ u, P.underlying g.type = some u) := by
  obtain ⟨i, d, z, _, hd, _, _, _, _, hm⟩ := tOf_base h
  cases d <;> simp only at hm
  case struct fs =>
    obtain ⟨_, _, h1, _, h2, h3⟩ := hm
    rw [h1, offsOf, List.getElem?_map] at hp
    cases hg : fs.toList[f]? with
    | none => rw [hg] at hp; cases hp
    | some g =>
      rw [hg] at hp
      simp only [Option.map_some, Option.some.injEq] at hp
      have hmem := List.mem_of_getElem? hg
      have k2 := List.all_eq_true.1 h2 g hmem
      have k3 := List.all_eq_true.1 h3 g hmem
      obtain ⟨j, hj⟩ := Option.isSome_iff_exists.1 k2
      obtain ⟨u, hu⟩ := Option.isSome_iff_exists.1 k3
      refine ⟨fs, g, j, hd, by simpa using hg, hj, ?_, u, hu⟩
      rw [← hp, hj]; rfl
  all_goals first
    | exact hm.elim
    | (have q : T.offs = [] := by first | exact hm.2.2.1 | exact hm.2.1
       rw [q] at hp; simp at hp)
end
end Go.Gh
