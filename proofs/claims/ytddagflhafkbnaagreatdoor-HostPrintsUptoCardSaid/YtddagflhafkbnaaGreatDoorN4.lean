/- What is proved: the second form's card of HostPrints: for every host and every name: host.Check, host.Print and host.Labels answer as the reference does, the page's examples hold, the call returns true and the input reads as it did.
   Conditions: those of the given row alone: the five tables of Go's library that the row lists hold what its text lays (laid); the bound on the input's bulk. The repository is a pruned copy, as the seat's page says. The other texts: K1 to K8 an interpreter of the kit's code over plain values and its soundness; E1 its tables at this program; S1 and P1 the library's contracts; Q1 to Q3 the program's functions as equations; L1 to L8 and M1 to M3 plain laws of them; N1 to N4 and F1 the row. -/
import Derived.Test.YtddagflhafkbnaaGreatDoorN3
import Derived.Test.YtddagflhafkbnaaGreatDoorF1
set_option linter.all false
set_option autoImplicit false
namespace Go.Proofs.YtddagflhafkbnaaGreatDoor.HostPrints
open host Go.ChangeShapes Go.WideShapes Go.ChangeAt Go.RowKit
theorem saidUpto:Rows.HostPrintsUptoSaid:=
 OpenClaim.holds_of_cond 13 Tryz.f13 rfl rfl rfl rfl rfl rfl rfl ⟨rfl,rfl,rfl,rfl,rfl⟩ rfl rfl rfl rfl rfl (by kernel_rfl) Tryz.func13 closed
  (of_decide_eq_true (by kernel_rfl)) (by unfold Func.isWrapper; first | (rw [if_pos (by decide+kernel)]; kernel_rfl) | (rw [if_neg (by decide+kernel)]; exact ⟨rfl,rfl⟩))
  (fun os started H enc _ F=> by rw [OpenClaim.pre_eq_preRow]; exact liftedUpto os started H enc F)
theorem plain (f : FuncId) (fn : Func) (hf : Tryz.pinned.checked.prog.funcNamed "pergola/pergolalaw05.HostPrints" = some f) (hfn : Tryz.pinned.checked.prog.funcs[f]? = some fn) :
  false=Tryz.pinned.checked.prog.looks []/\∀ (j:Nat) t,fn.params[j]? =some t->Tryz.pinned.checked.prog.wantsStandIn t=false:=by
 obtain rfl : f = 13 := Option.some.inj ((show Tryz.prog.funcNamed "pergola/pergolalaw05.HostPrints" = some 13 by kernel_rfl).symm.trans hf) |>.symm
 obtain rfl:fn=Tryz.f13:=(Option.some.inj (Tryz.func13.symm.trans hfn)).symm
 refine ⟨by kernel_rfl,fun j t ht=> ?_⟩
 rw [Tryz.params13] at ht
 have hm:t=36\/t=9:=by simpa using Array.mem_of_getElem? ht
 rcases hm with rfl | rfl
 ·exact (show Tryz.prog.wantsStandIn 36=false by kernel_rfl)
 ·exact (show Tryz.prog.wantsStandIn 9=false by kernel_rfl)
theorem cardUpto:Rows.HostPrintsUptoCardSaid:=
 Claim7.holds_tied_plain_at .later [] _ _ _ _ saidUpto (fun _ h=> by cases h) (by kernel_rfl) (fun _ h=> by cases h) hostPrintsUpto_row_tie rfl ⟨rfl,rfl⟩ (by kernel_rfl) rfl plain (by kernel_rfl)
end Go.Proofs.YtddagflhafkbnaaGreatDoor.HostPrints
namespace Go.Proofs.YtddagflhafkbnaaGreatDoor
theorem hostPrintsUpto:Rows.HostPrintsUptoCardSaid:=HostPrints.cardUpto
end Go.Proofs.YtddagflhafkbnaaGreatDoor
