/- Part F1 of the proof: see the last text of the claim. No condition of its own. -/
import Derived.Test.YtddagflhafkbnaaGreatDoorCards
import Derived.JoinedCond
import Derived.KernelRfl
set_option linter.all false
/- Closed facts of the row, one by one. -/
namespace Go.Proofs.YtddagflhafkbnaaGreatDoor.HostNumbers
theorem f_inPlace : Tryz.prog.inPlace 7 = Rows.hostNumbersUptoRow.inPlace := by kernel_rfl
theorem f_unfollowed : Tryz.prog.unfollowed 7 = true := by kernel_rfl
theorem f_recurses : Tryz.prog.recurses 7 = true := by kernel_rfl
theorem f_named : Tryz.prog.varsNamed 7 = Rows.hostNumbersUptoRow.named := by kernel_rfl
theorem closed : joinedFacts Tryz.pinned.checked.prog 7 Tryz.f7 (Rows.OpenSpec.upto Rows.hostNumbersSpec).bare Rows.hostNumbersUptoRow = true := by
  unfold joinedFacts
  rw [show Program.inPlace Tryz.pinned.checked.prog 7 = Rows.hostNumbersUptoRow.inPlace from f_inPlace, show Program.unfollowed Tryz.pinned.checked.prog 7 = true from f_unfollowed,
    show Program.recurses Tryz.pinned.checked.prog 7 = true from f_recurses, show Program.varsNamed Tryz.pinned.checked.prog 7 = Rows.hostNumbersUptoRow.named from f_named]
  kernel_rfl
end Go.Proofs.YtddagflhafkbnaaGreatDoor.HostNumbers
