/- Part F1 of the proof: see the last text of the claim. No condition of its own. -/
import Derived.Test.YtddagflhafkbnaaGreatDoorCards
import Derived.JoinedCond
import Derived.KernelRfl
set_option linter.all false
/- HostAddresses: closed facts of the row, one by one. -/
namespace Go.Proofs.YtddagflhafkbnaaGreatDoor.HostAddresses
theorem f_inPlace : Tryz.prog.inPlace 9 = Rows.hostAddressesUptoRow.inPlace := by kernel_rfl
theorem f_unfollowed : Tryz.prog.unfollowed 9 = Rows.hostAddressesUptoRow.unfollowed := by kernel_rfl
theorem f_recurses : Tryz.prog.recurses 9 = Rows.hostAddressesUptoRow.recurses := by kernel_rfl
theorem f_named : Tryz.prog.varsNamed 9 = Rows.hostAddressesUptoRow.named := by kernel_rfl
theorem closed : joinedFacts Tryz.pinned.checked.prog 9 Tryz.f9 (Rows.OpenSpec.upto Rows.hostAddressesSpec).bare Rows.hostAddressesUptoRow = true := by
  unfold joinedFacts
  rw [show Program.inPlace Tryz.pinned.checked.prog 9 = Rows.hostAddressesUptoRow.inPlace from f_inPlace, show Program.unfollowed Tryz.pinned.checked.prog 9 = Rows.hostAddressesUptoRow.unfollowed from f_unfollowed,
    show Program.recurses Tryz.pinned.checked.prog 9 = Rows.hostAddressesUptoRow.recurses from f_recurses, show Program.varsNamed Tryz.pinned.checked.prog 9 = Rows.hostAddressesUptoRow.named from f_named]
  kernel_rfl
end Go.Proofs.YtddagflhafkbnaaGreatDoor.HostAddresses
