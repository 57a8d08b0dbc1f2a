/- Part F1 of the proof: see the last text of the claim. No condition of its own. -/
import Derived.Test.YtddagflhafkbnaaGreatDoorCards
import Derived.JoinedCond
import Derived.KernelRfl
set_option linter.all false
set_option autoImplicit false
namespace Go.Proofs.YtddagflhafkbnaaGreatDoor.CacheBounds
theorem f_inPlace:Tryz.prog.inPlace 3=Rows.cacheBoundsUptoRow.inPlace:=by kernel_rfl
theorem f_unfollowed:Tryz.prog.unfollowed 3=Rows.cacheBoundsUptoRow.unfollowed:=by kernel_rfl
theorem f_recurses:Tryz.prog.recurses 3=Rows.cacheBoundsUptoRow.recurses:=by kernel_rfl
theorem f_named:Tryz.prog.varsNamed 3=Rows.cacheBoundsUptoRow.named:=by kernel_rfl
theorem closed:joinedFacts Tryz.pinned.checked.prog 3 Tryz.f3 (Rows.OpenSpec.upto Rows.cacheBoundsSpec).bare Rows.cacheBoundsUptoRow=true:=by
 unfold joinedFacts
 rw [show Program.inPlace Tryz.pinned.checked.prog 3=Rows.cacheBoundsUptoRow.inPlace from f_inPlace,show Program.unfollowed Tryz.pinned.checked.prog 3=Rows.cacheBoundsUptoRow.unfollowed from f_unfollowed,
  show Program.recurses Tryz.pinned.checked.prog 3=Rows.cacheBoundsUptoRow.recurses from f_recurses,show Program.varsNamed Tryz.pinned.checked.prog 3=Rows.cacheBoundsUptoRow.named from f_named]
 kernel_rfl
end Go.Proofs.YtddagflhafkbnaaGreatDoor.CacheBounds
