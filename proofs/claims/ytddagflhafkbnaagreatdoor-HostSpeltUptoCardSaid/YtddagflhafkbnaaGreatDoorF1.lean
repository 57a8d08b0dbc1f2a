/- Part F1 of the proof: see the last text of the claim. No condition of its own. -/
import Derived.Test.YtddagflhafkbnaaGreatDoorCards
import Derived.JoinedCond
import Derived.KernelRfl
set_option linter.all false
namespace Go.Proofs.YtddagflhafkbnaaGreatDoor.HostSpelt
theorem f_inPlace : Tryz.prog.inPlace 10 = Rows.hostSpeltUptoRow.inPlace := by kernel_rfl
theorem f_unfollowed : Tryz.prog.unfollowed 10 = Rows.hostSpeltUptoRow.unfollowed := by kernel_rfl
theorem f_recurses : Tryz.prog.recurses 10 = Rows.hostSpeltUptoRow.recurses := by kernel_rfl
theorem f_named : Tryz.prog.varsNamed 10 = Rows.hostSpeltUptoRow.named := by kernel_rfl
theorem closed : joinedFacts Tryz.pinned.checked.prog 10 Tryz.f10 (Rows.OpenSpec.upto Rows.hostSpeltSpec).bare Rows.hostSpeltUptoRow = true := by
  unfold joinedFacts
  rw [show Program.inPlace Tryz.pinned.checked.prog 10 = Rows.hostSpeltUptoRow.inPlace from f_inPlace, show Program.unfollowed Tryz.pinned.checked.prog 10 = Rows.hostSpeltUptoRow.unfollowed from f_unfollowed,
    show Program.recurses Tryz.pinned.checked.prog 10 = Rows.hostSpeltUptoRow.recurses from f_recurses, show Program.varsNamed Tryz.pinned.checked.prog 10 = Rows.hostSpeltUptoRow.named from f_named]
  kernel_rfl
end Go.Proofs.YtddagflhafkbnaaGreatDoor.HostSpelt
