/- What is proved: the second form's card of CacheNever: for every script: the page's example holds; behind all its Puts every origin that is in the cache is of a tuple and the reference's Trustworthy says yes of it; the call returns true and the input reads as it did.
   Conditions: those of the given row alone: the two tables of Go's library that the row lists hold what its text lays (laid); the bound on the input's bulk. The repository is a pruned copy, as the seat's page says. The other texts: K1 to K8 an interpreter of the kit's code over plain values and its soundness; E1 its tables at this program; S1 and P1 the library's contracts; Q1 to Q3 the program's functions as equations; L1 to L8 and M1 to M4 plain laws of them; N1 to N4 and F1 the row. -/
import Derived.Test.YtddagflhafkbnaaGreatDoorN3
import Derived.Test.YtddagflhafkbnaaGreatDoorF1
set_option linter.all false
set_option autoImplicit false
namespace Go.Proofs.YtddagflhafkbnaaGreatDoor.CacheNever
open cache Go.ChangeShapes Go.WideShapes Go.ChangeAt Go.RowKit
theorem saidUpto:Rows.CacheNeverUptoSaid:=
 OpenClaim.holds_of_cond 4 Tryz.f4 rfl rfl rfl rfl rfl rfl rfl ⟨rfl,rfl,rfl,rfl,rfl⟩ rfl rfl rfl rfl rfl (by kernel_rfl) Tryz.func4 closed
  (of_decide_eq_true (by kernel_rfl)) (by unfold Func.isWrapper; first | (rw [if_pos (by decide+kernel)]; kernel_rfl) | (rw [if_neg (by decide+kernel)]; exact ⟨rfl,rfl⟩))
  (fun os started H enc _ F=> by rw [OpenClaim.pre_eq_preRow]; exact liftedUpto os started H enc F)
theorem plain (f : FuncId) (fn : Func) (hf : Tryz.pinned.checked.prog.funcNamed "pergola/pergolalaw21.CacheNever" = some f) (hfn : Tryz.pinned.checked.prog.funcs[f]? = some fn) :
  false=Tryz.pinned.checked.prog.looks []/\∀ (j:Nat) t,fn.params[j]? =some t->Tryz.pinned.checked.prog.wantsStandIn t=false:=by
 obtain rfl : f = 4 := Option.some.inj ((show Tryz.prog.funcNamed "pergola/pergolalaw21.CacheNever" = some 4 by kernel_rfl).symm.trans hf) |>.symm
 obtain rfl:fn=Tryz.f4:=(Option.some.inj (Tryz.func4.symm.trans hfn)).symm
 refine ⟨by kernel_rfl,fun j t ht=> ?_⟩
 rw [Tryz.params4] at ht
 have hm:t=22:=by simpa using Array.mem_of_getElem? ht
 rcases hm with rfl
 ·exact (show Tryz.prog.wantsStandIn 22=false by kernel_rfl)
theorem cardUpto:Rows.CacheNeverUptoCardSaid:=
 Claim7.holds_tied_plain_at .later [] _ _ _ _ saidUpto (fun _ h=> by cases h) (by kernel_rfl) (fun _ h=> by cases h) cacheNeverUpto_row_tie rfl ⟨rfl,rfl⟩ (by kernel_rfl) rfl plain (by kernel_rfl)
end Go.Proofs.YtddagflhafkbnaaGreatDoor.CacheNever
namespace Go.Proofs.YtddagflhafkbnaaGreatDoor
theorem cacheNeverUpto:Rows.CacheNeverUptoCardSaid:=CacheNever.cardUpto
end Go.Proofs.YtddagflhafkbnaaGreatDoor
