/- Part F1 of the proof: see the last text of the claim. No condition of its own. -/
import Derived.Test.YtddagflhafkbnaaGreatDoorCards
import Derived.JoinedCond
import Derived.KernelRfl
set_option linter.all false
set_option autoImplicit false
namespace Go.Proofs.YtddagflhafkbnaaGreatDoor.HostPrints
theorem f_inPlace:Tryz.prog.inPlace 13=Rows.hostPrintsUptoRow.inPlace:=by kernel_rfl
theorem f_unfollowed:Tryz.prog.unfollowed 13=Rows.hostPrintsUptoRow.unfollowed:=by kernel_rfl
theorem f_recurses:Tryz.prog.recurses 13=Rows.hostPrintsUptoRow.recurses:=by kernel_rfl
theorem f_named:Tryz.prog.varsNamed 13=Rows.hostPrintsUptoRow.named:=by kernel_rfl
theorem closed:joinedFacts Tryz.pinned.checked.prog 13 Tryz.f13 (Rows.OpenSpec.upto Rows.hostPrintsSpec).bare Rows.hostPrintsUptoRow=true:=by
 unfold joinedFacts
 rw [show Program.inPlace Tryz.pinned.checked.prog 13=Rows.hostPrintsUptoRow.inPlace from f_inPlace,show Program.unfollowed Tryz.pinned.checked.prog 13=Rows.hostPrintsUptoRow.unfollowed from f_unfollowed,
  show Program.recurses Tryz.pinned.checked.prog 13=Rows.hostPrintsUptoRow.recurses from f_recurses,show Program.varsNamed Tryz.pinned.checked.prog 13=Rows.hostPrintsUptoRow.named from f_named]
 kernel_rfl
end Go.Proofs.YtddagflhafkbnaaGreatDoor.HostPrints
