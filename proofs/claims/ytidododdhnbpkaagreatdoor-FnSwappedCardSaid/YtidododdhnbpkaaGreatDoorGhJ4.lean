import Derived.Test.YtidododdhnbpkaaGreatDoorGhJ2
import Derived.Test.YtidododdhnbpkaaGreatDoorGhJ3
set_option maxRecDepth 100000
namespace Go.Proofs.YtidododdhnbpkaaGreatDoor.swapped
theorem k_inPlace : (Rows.fnSwappedRow.inPlace == Tryz.prog.inPlace 3) = true := by rw [j_inPlace]; kernel_rfl
theorem k_unfollowed : (Rows.fnSwappedRow.unfollowed == Tryz.prog.unfollowed 3) = true := by rw [j_unfollowed]; rfl
theorem k_recurses : (Rows.fnSwappedRow.recurses == Tryz.prog.recurses 3) = true := by rw [j_recurses]; rfl
theorem k_named : (Rows.fnSwappedRow.named == Tryz.prog.varsNamed 3) = true := by rw [j_named]; kernel_rfl
theorem facts : joinedFacts Tryz.prog 3 Tryz.f3 Rows.fnSwappedSpec Rows.fnSwappedRow = true := by
  unfold joinedFacts
  repeat' (with_reducible refine Bool.and_eq_true_iff.2 ⟨?_, ?_⟩)
  all_goals first
    | with_reducible exact j_laidOut
    | with_reducible exact j_mapsRowed
    | with_reducible exact j_mayEnter
    | with_reducible exact j_stopsHeard
    | with_reducible exact j_plainKeys
    | with_reducible exact j_lifted
    | with_reducible exact k_inPlace
    | with_reducible exact k_unfollowed
    | with_reducible exact k_recurses
    | with_reducible exact k_named
    | (as_aux_lemma => kernel_rfl)
theorem j_goes : Tryz.prog.goes 3 = false := by unfold Program.goes; rw [closure3, j_unfollowed]; kernel_rfl
theorem j_name : Tryz.prog.funcNamed Rows.fnSwappedRow.func = some 3 := by kernel_rfl
theorem k_goes : false = Rows.fnSwappedRow.goesBy Tryz.prog := by
  unfold OpenClaim.goesBy Program.goesAt Program.goesFrom
  rw [j_name]
  simp only [Option.any_some, j_goes]
  rfl
end Go.Proofs.YtidododdhnbpkaaGreatDoor.swapped
