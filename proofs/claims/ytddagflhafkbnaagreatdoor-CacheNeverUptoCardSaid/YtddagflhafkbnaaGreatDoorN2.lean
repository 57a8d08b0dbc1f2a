/- Part N2 of the proof: see the last text of the claim. No condition of its own. -/
import Derived.Test.YtddagflhafkbnaaGreatDoorN1
set_option linter.all false
set_option autoImplicit false
namespace Go.Proofs.YtddagflhafkbnaaGreatDoor.CacheNever
open cache Go.ChangeShapes Go.WideShapes Go.ChangeAt Go.RowKit
noncomputable def theWorld (os:Os):World:=((laidWorld os).forCall (fun _ _=> 0) ⟨#[],#[.slice none 0 0],[]⟩).memory
theorem reads (os:Os) {H:Type} (enc:TypeId×Value->H):∃ places,DataW.whole enc Tryz.prog ((laidWorld os).forCall (fun _ _=> 0) ⟨#[],#[.slice none 0 0],[]⟩).memory Tryz.f4.params.toList Rows.cacheNeverSpec.vars false (#[.slice none 0 0]:Array Value).toList 12=some ([.nil],[],places):=
 ⟨[],by kernel_rfl⟩
theorem run1 (os:Os):(DataW.laidRun Tryz.prog (theWorld os) 8 (Rows.cacheNeverUptoRow.laid.map (·.1))).map (·.1)=some Rows.cacheNeverUptoRow.laid:=by kernel_rfl
theorem run2 (os:Os):(DataW.laidRun Tryz.prog (theWorld os) 8 (Rows.cacheNeverUptoRow.laid.map (·.1))).map (fun x=> risingB 0 (x.2.map key))=some true:=by kernel_rfl
theorem run3 (os:Os):(DataW.laidRun Tryz.prog (theWorld os) 8 (Rows.cacheNeverUptoRow.laid.map (·.1))).map (fun x=> laidRowsB Tryz.prog (theWorld os) x.2)=some true:=by kernel_rfl
theorem laid_met (os:Os):laidMet Tryz.prog Rows.cacheNeverUptoRow.laid ((laidWorld os).forCall (fun _ _=> 0) ⟨#[],#[.slice none 0 0],[]⟩).memory:=
 laidMet_of_keys 8 (run1 os) (run2 os) (run3 os)
end Go.Proofs.YtddagflhafkbnaaGreatDoor.CacheNever
