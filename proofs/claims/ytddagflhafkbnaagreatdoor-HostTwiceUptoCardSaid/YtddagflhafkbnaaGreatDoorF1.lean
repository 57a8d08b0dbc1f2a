/- Part F1 of the proof: see the last text of the claim. No condition of its own. -/
import Derived.Test.YtddagflhafkbnaaGreatDoorCards
import Derived.JoinedCond
import Derived.KernelRfl
set_option linter.all false
/- HostTwice: closed facts of the row, one by one. -/
namespace Go.Proofs.YtddagflhafkbnaaGreatDoor.HostTwice
theorem f_inPlace : Tryz.prog.inPlace 12 = Rows.hostTwiceUptoRow.inPlace := by kernel_rfl
theorem f_unfollowed : Tryz.prog.unfollowed 12 = Rows.hostTwiceUptoRow.unfollowed := by kernel_rfl
theorem f_recurses : Tryz.prog.recurses 12 = Rows.hostTwiceUptoRow.recurses := by kernel_rfl
theorem f_named : Tryz.prog.varsNamed 12 = Rows.hostTwiceUptoRow.named := by kernel_rfl
theorem closed : joinedFacts Tryz.pinned.checked.prog 12 Tryz.f12 (Rows.OpenSpec.upto Rows.hostTwiceSpec).bare Rows.hostTwiceUptoRow = true := by
  unfold joinedFacts
  rw [show Program.inPlace Tryz.pinned.checked.prog 12 = Rows.hostTwiceUptoRow.inPlace from f_inPlace, show Program.unfollowed Tryz.pinned.checked.prog 12 = Rows.hostTwiceUptoRow.unfollowed from f_unfollowed,
    show Program.recurses Tryz.pinned.checked.prog 12 = Rows.hostTwiceUptoRow.recurses from f_recurses, show Program.varsNamed Tryz.pinned.checked.prog 12 = Rows.hostTwiceUptoRow.named from f_named]
  kernel_rfl
end Go.Proofs.YtddagflhafkbnaaGreatDoor.HostTwice
