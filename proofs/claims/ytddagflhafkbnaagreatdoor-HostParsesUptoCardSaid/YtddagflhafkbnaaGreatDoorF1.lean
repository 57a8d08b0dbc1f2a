/- Part F1 of the proof: see the last text of the claim. No condition of its own. -/
import Derived.Test.YtddagflhafkbnaaGreatDoorCards
import Derived.JoinedCond
import Derived.KernelRfl
set_option linter.all false
namespace Go.Proofs.YtddagflhafkbnaaGreatDoor.HostParses
theorem f_inPlace:Tryz.prog.inPlace 11=Rows.hostParsesUptoRow.inPlace:=by kernel_rfl
theorem f_unfollowed:Tryz.prog.unfollowed 11=Rows.hostParsesUptoRow.unfollowed:=by kernel_rfl
theorem f_recurses:Tryz.prog.recurses 11=Rows.hostParsesUptoRow.recurses:=by kernel_rfl
theorem f_named:Tryz.prog.varsNamed 11=Rows.hostParsesUptoRow.named:=by kernel_rfl
theorem closed:joinedFacts Tryz.pinned.checked.prog 11 Tryz.f11 (Rows.OpenSpec.upto Rows.hostParsesSpec).bare Rows.hostParsesUptoRow=true:=by
  unfold joinedFacts
  rw [show Program.inPlace Tryz.pinned.checked.prog 11=Rows.hostParsesUptoRow.inPlace from f_inPlace,show Program.unfollowed Tryz.pinned.checked.prog 11=Rows.hostParsesUptoRow.unfollowed from f_unfollowed,
    show Program.recurses Tryz.pinned.checked.prog 11=Rows.hostParsesUptoRow.recurses from f_recurses,show Program.varsNamed Tryz.pinned.checked.prog 11=Rows.hostParsesUptoRow.named from f_named]
  kernel_rfl
end Go.Proofs.YtddagflhafkbnaaGreatDoor.HostParses
