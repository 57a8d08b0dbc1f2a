/- Part F1 of the proof: see the last text of the claim. No condition of its own. -/
import Derived.Test.YtddagflhafkbnaaGreatDoorCards
import Derived.JoinedCond
import Derived.KernelRfl
set_option linter.all false
namespace Go.Proofs.YtddagflhafkbnaaGreatDoor.HostFixpoint
theorem f_inPlace : Tryz.prog.inPlace 8 = Rows.hostFixpointUptoRow.inPlace := by kernel_rfl
theorem f_unfollowed : Tryz.prog.unfollowed 8 = Rows.hostFixpointUptoRow.unfollowed := by kernel_rfl
theorem f_recurses : Tryz.prog.recurses 8 = Rows.hostFixpointUptoRow.recurses := by kernel_rfl
theorem f_named : Tryz.prog.varsNamed 8 = Rows.hostFixpointUptoRow.named := by kernel_rfl
theorem closed : joinedFacts Tryz.pinned.checked.prog 8 Tryz.f8 (Rows.OpenSpec.upto Rows.hostFixpointSpec).bare Rows.hostFixpointUptoRow = true := by
  unfold joinedFacts
  rw [show Program.inPlace Tryz.pinned.checked.prog 8 = Rows.hostFixpointUptoRow.inPlace from f_inPlace, show Program.unfollowed Tryz.pinned.checked.prog 8 = Rows.hostFixpointUptoRow.unfollowed from f_unfollowed,
    show Program.recurses Tryz.pinned.checked.prog 8 = Rows.hostFixpointUptoRow.recurses from f_recurses, show Program.varsNamed Tryz.pinned.checked.prog 8 = Rows.hostFixpointUptoRow.named from f_named]
  kernel_rfl
end Go.Proofs.YtddagflhafkbnaaGreatDoor.HostFixpoint
