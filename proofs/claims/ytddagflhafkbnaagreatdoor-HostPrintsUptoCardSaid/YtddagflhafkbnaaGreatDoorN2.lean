/- Part N2 of the proof: see the last text of the claim. No condition of its own. -/
import Derived.Test.YtddagflhafkbnaaGreatDoorN1
set_option linter.all false
set_option autoImplicit false
namespace Go.Proofs.YtddagflhafkbnaaGreatDoor.HostPrints
open host Go.ChangeShapes Go.WideShapes Go.ChangeAt Go.RowKit
noncomputable def theWorld (os:Os):World:=((laidWorld os).forCall (fun _ _=> 0) ⟨#[],#[.agg #[.int .i64 0,.string ⟨#[]⟩,.int .u32 0,.int .u16 0,.int .u16 0,.int .u16 0,.int .u16 0,.int .u16 0,.int .u16 0,.int .u16 0,.int .u16 0],.string ⟨#[]⟩],[]⟩).memory
theorem reads (os:Os) {H:Type} (enc:TypeId×Value->H):∃ places,DataW.whole enc Tryz.prog ((laidWorld os).forCall (fun _ _=> 0) ⟨#[],#[.agg #[.int .i64 0,.string ⟨#[]⟩,.int .u32 0,.int .u16 0,.int .u16 0,.int .u16 0,.int .u16 0,.int .u16 0,.int .u16 0,.int .u16 0,.int .u16 0],.string ⟨#[]⟩],[]⟩).memory Tryz.f13.params.toList Rows.hostPrintsSpec.vars false (#[.agg #[.int .i64 0,.string ⟨#[]⟩,.int .u32 0,.int .u16 0,.int .u16 0,.int .u16 0,.int .u16 0,.int .u16 0,.int .u16 0,.int .u16 0,.int .u16 0],.string ⟨#[]⟩]:Array Value).toList 12=some ([.agg [.lit (.int .i64 0),.lit (.string []),.lit (.int .u32 0),.agg [.lit (.int .u16 0),.lit (.int .u16 0),.lit (.int .u16 0),.lit (.int .u16 0),.lit (.int .u16 0),.lit (.int .u16 0),.lit (.int .u16 0),.lit (.int .u16 0)]],.lit (.string [])],[],places):=
 ⟨[],by kernel_rfl⟩
theorem run1 (os:Os):(DataW.laidRun Tryz.prog (theWorld os) 8 (Rows.hostPrintsUptoRow.laid.map (·.1))).map (·.1)=some Rows.hostPrintsUptoRow.laid:=by kernel_rfl
theorem run2 (os:Os):(DataW.laidRun Tryz.prog (theWorld os) 8 (Rows.hostPrintsUptoRow.laid.map (·.1))).map (fun x=> risingB 0 (x.2.map key))=some true:=by kernel_rfl
theorem run3 (os:Os):(DataW.laidRun Tryz.prog (theWorld os) 8 (Rows.hostPrintsUptoRow.laid.map (·.1))).map (fun x=> laidRowsB Tryz.prog (theWorld os) x.2)=some true:=by kernel_rfl
theorem laid_met (os:Os):laidMet Tryz.prog Rows.hostPrintsUptoRow.laid ((laidWorld os).forCall (fun _ _=> 0) ⟨#[],#[.agg #[.int .i64 0,.string ⟨#[]⟩,.int .u32 0,.int .u16 0,.int .u16 0,.int .u16 0,.int .u16 0,.int .u16 0,.int .u16 0,.int .u16 0,.int .u16 0],.string ⟨#[]⟩],[]⟩).memory:=
 laidMet_of_keys 8 (run1 os) (run2 os) (run3 os)
end Go.Proofs.YtddagflhafkbnaaGreatDoor.HostPrints
