/- Part F1 of the proof: see the last text of the claim. No condition of its own. -/
import Derived.Test.YtddagflhafkbnaaGreatDoorCards
import Derived.JoinedCond
import Derived.KernelRfl
set_option linter.all false
set_option autoImplicit false
namespace Go.Proofs.YtddagflhafkbnaaGreatDoor.CacheNever
theorem f_inPlace:Tryz.prog.inPlace 4=Rows.cacheNeverUptoRow.inPlace:=by kernel_rfl
theorem f_unfollowed:Tryz.prog.unfollowed 4=Rows.cacheNeverUptoRow.unfollowed:=by kernel_rfl
theorem f_recurses:Tryz.prog.recurses 4=Rows.cacheNeverUptoRow.recurses:=by kernel_rfl
theorem f_named:Tryz.prog.varsNamed 4=Rows.cacheNeverUptoRow.named:=by kernel_rfl
theorem closed:joinedFacts Tryz.pinned.checked.prog 4 Tryz.f4 (Rows.OpenSpec.upto Rows.cacheNeverSpec).bare Rows.cacheNeverUptoRow=true:=by
 unfold joinedFacts
 rw [show Program.inPlace Tryz.pinned.checked.prog 4=Rows.cacheNeverUptoRow.inPlace from f_inPlace,show Program.unfollowed Tryz.pinned.checked.prog 4=Rows.cacheNeverUptoRow.unfollowed from f_unfollowed,
  show Program.recurses Tryz.pinned.checked.prog 4=Rows.cacheNeverUptoRow.recurses from f_recurses,show Program.varsNamed Tryz.pinned.checked.prog 4=Rows.cacheNeverUptoRow.named from f_named]
 kernel_rfl
end Go.Proofs.YtddagflhafkbnaaGreatDoor.CacheNever
