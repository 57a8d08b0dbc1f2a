/- Part N2 of the proof: see the last text of the claim. No condition of its own. -/
import Derived.Test.YtddagflhafkbnaaGreatDoorN1
set_option linter.all false
/- HostAddresses: a world for the witness. -/
namespace Go.Proofs.YtddagflhafkbnaaGreatDoor.HostAddresses
open host Go.ChangeShapes Go.WideShapes Go.ChangeAt Go.RowKit
noncomputable def theWorld (os : Os) : World := ((laidWorld os).forCall (fun _ _ => 0) ⟨#[], #[.int .u32 0, .agg #[.int .u16 0, .int .u16 0, .int .u16 0, .int .u16 0, .int .u16 0, .int .u16 0, .int .u16 0, .int .u16 0]], []⟩).memory
theorem reads (os : Os) {H : Type} (enc : TypeId × Value → H) : ∃ places, DataW.whole enc Tryz.prog ((laidWorld os).forCall (fun _ _ => 0) ⟨#[], #[.int .u32 0, .agg #[.int .u16 0, .int .u16 0, .int .u16 0, .int .u16 0, .int .u16 0, .int .u16 0, .int .u16 0, .int .u16 0]], []⟩).memory Tryz.f9.params.toList Rows.hostAddressesSpec.vars false (#[.int .u32 0, .agg #[.int .u16 0, .int .u16 0, .int .u16 0, .int .u16 0, .int .u16 0, .int .u16 0, .int .u16 0, .int .u16 0]] : Array Value).toList 12 = some ([.lit (.int .u32 0), .agg [.lit (.int .u16 0), .lit (.int .u16 0), .lit (.int .u16 0), .lit (.int .u16 0), .lit (.int .u16 0), .lit (.int .u16 0), .lit (.int .u16 0), .lit (.int .u16 0)]], [], places) :=
  ⟨[], by kernel_rfl⟩
theorem run1 (os : Os) : (DataW.laidRun Tryz.prog (theWorld os) 8 (Rows.hostAddressesUptoRow.laid.map (·.1))).map (·.1) = some Rows.hostAddressesUptoRow.laid := by kernel_rfl
theorem run2 (os : Os) : (DataW.laidRun Tryz.prog (theWorld os) 8 (Rows.hostAddressesUptoRow.laid.map (·.1))).map (fun x => risingB 0 (x.2.map key)) = some true := by kernel_rfl
theorem run3 (os : Os) : (DataW.laidRun Tryz.prog (theWorld os) 8 (Rows.hostAddressesUptoRow.laid.map (·.1))).map (fun x => laidRowsB Tryz.prog (theWorld os) x.2) = some true := by kernel_rfl
theorem laid_met (os : Os) : laidMet Tryz.prog Rows.hostAddressesUptoRow.laid ((laidWorld os).forCall (fun _ _ => 0) ⟨#[], #[.int .u32 0, .agg #[.int .u16 0, .int .u16 0, .int .u16 0, .int .u16 0, .int .u16 0, .int .u16 0, .int .u16 0, .int .u16 0]], []⟩).memory :=
  laidMet_of_keys 8 (run1 os) (run2 os) (run3 os)
end Go.Proofs.YtddagflhafkbnaaGreatDoor.HostAddresses
