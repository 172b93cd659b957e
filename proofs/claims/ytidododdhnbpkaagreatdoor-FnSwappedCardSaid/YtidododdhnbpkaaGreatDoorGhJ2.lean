import Derived.Test.YtidododdhnbpkaaGreatDoorGhJ
import Derived.KernelRfl
set_option maxRecDepth 100000
namespace Go.Proofs.YtidododdhnbpkaaGreatDoor.swapped
theorem j_inPlace : Tryz.prog.inPlace 3 = Rows.fnSwappedRow.inPlace := by unfold Program.inPlace; rw [closure3]; kernel_rfl
theorem j_unfollowed : Tryz.prog.unfollowed 3 = true := by unfold Program.unfollowed; rw [closure3]; kernel_rfl
theorem j_recurses : Tryz.prog.recurses 3 = true := by unfold Program.recurses; rw [j_unfollowed]; rfl
theorem j_named : Tryz.prog.varsNamed 3 = Rows.fnSwappedRow.named := by unfold Program.varsNamed; rw [closure3]; kernel_rfl
end Go.Proofs.YtidododdhnbpkaaGreatDoor.swapped
