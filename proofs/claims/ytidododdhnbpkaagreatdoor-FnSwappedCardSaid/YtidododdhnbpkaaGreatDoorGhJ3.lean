import Derived.Test.YtidododdhnbpkaaGreatDoorCards
import Derived.JoinedCond
import Derived.KernelRfl
set_option maxRecDepth 100000
namespace Go.Proofs.YtidododdhnbpkaaGreatDoor.swapped
theorem j_laidOut : laidOutB Tryz.prog = true := by kernel_rfl
theorem j_mapsRowed : mapsRowed Tryz.prog = true := by kernel_rfl
theorem j_mayEnter : Tryz.prog.mayEnter = true := by kernel_rfl
theorem j_stopsHeard : Tryz.prog.stopsHeard = true := by kernel_rfl
theorem j_plainKeys : (Rows.fnSwappedRow.plainKeys == Tryz.prog.plainKeys) = true := by kernel_rfl
theorem j_lifted : (Rows.fnSwappedRow.lifted == Tryz.prog.liftsFinal) = true := by kernel_rfl
end Go.Proofs.YtidododdhnbpkaaGreatDoor.swapped
