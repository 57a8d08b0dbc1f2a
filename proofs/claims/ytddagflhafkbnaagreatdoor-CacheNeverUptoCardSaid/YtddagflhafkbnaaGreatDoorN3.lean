/- Part N3 of the proof: see the last text of the claim. No condition of its own. -/
import Derived.Test.YtddagflhafkbnaaGreatDoorN1
import Derived.Test.YtddagflhafkbnaaGreatDoorN2
set_option linter.all false
set_option autoImplicit false
namespace Go.Proofs.YtddagflhafkbnaaGreatDoor.CacheNever
open cache Go.ChangeShapes Go.WideShapes Go.ChangeAt Go.RowKit
set_option maxRecDepth 100000 in
theorem liftedUpto (os:Os) (started:os.Started) (H:Type) (enc:TypeId×Value->H) (F:Stop.Interp):
  ReturnsInHanded {} Tryz.checked os 4 .any ((Rows.OpenSpec.upto Rows.cacheNeverSpec).preRow enc Tryz.prog Tryz.f4 Rows.cacheNeverUptoRow.domain false Rows.cacheNeverUptoRow.laid) (((Rows.OpenSpec.upto Rows.cacheNeverSpec).at F).post enc Tryz.prog Tryz.f4 false true false false):=by
 obtain ⟨places,hx⟩:=reads os enc
 refine returnsInHanded_of_row (C:=Tryz.checked) (s:=Rows.OpenSpec.upto Rows.cacheNeverSpec) own started (by kernel_rfl) Tryz.func4
  (witness_row_at (enc:=enc) (C:=Tryz.checked) false (laidWorld os) #[.slice none 0 0] rfl (by kernel_rfl) (by kernel_rfl) (by kernel_rfl)
   (OpenSpec.preRow_of_cond 12 hx (by kernel_rfl) (fun k hk=> by cases hk; kernel_rfl) (by kernel_rfl) (laid_met os))) ?_
 intro W base args ds gs before hval hW _ hk _ hL hsh _
 exact contract H enc W base args ds gs before hval hW hL hsh (hk _ rfl)
end Go.Proofs.YtddagflhafkbnaaGreatDoor.CacheNever
