/- Part N1 of the proof: see the last text of the claim. No condition of its own. -/
import Derived.Test.YtddagflhafkbnaaGreatDoorQ1
import Derived.Test.YtddagflhafkbnaaGreatDoorK8
import Derived.Test.YtddagflhafkbnaaGreatDoorCards
import Derived.Test.YtddagflhafkbnaaGreatDoorTie
import Derived.Test.YtddagflhafkbnaaGreatDoorL2
import Derived.Test.YtddagflhafkbnaaGreatDoorP1
import Derived.WalkKit
import Derived.ProofKit
import Derived.OpenShut
import Derived.Deep.DeepHandedRow
set_option linter.all false
/- The page's examples: a closed run. -/
namespace Go.Abs
set_option autoImplicit false
theorem law05_alive_true : c_law05_alive () = some true := Call_of E (k := 100000) (by kernel_rfl)
end Go.Abs
/- HostNumbers: the contract. -/
namespace Go.Proofs.YtddagflhafkbnaaGreatDoor.HostNumbers
open Go.ChangeShapes Go.WideShapes Go.ChangeAt Go.RowKit

theorem own : ownKnob Tryz.prog.godebug = none := by kernel_rfl
theorem laidOut : Go.laidOutB Tryz.prog = true := by kernel_rfl
theorem htys : Tryz.f7.params.toList.all (fun t => Tryz.prog.readableRec t && decide (t < Tryz.prog.types.size)) = true := by kernel_rfl

/-- It holds an integer. -/
theorem maxLen_some {W : World} (h : W.ShapedOpen Tryz.prog) : ∃ n, W.cell? ⟨0, 0, none⟩ = some (.int .i64 n) :=
  cell_of_shapedOpen_int (zero := #[.int .i64 0]) (t := 3) h (of_decide_eq_true (by kernel_rfl)) (by kernel_rfl) rfl (by kernel_rfl) (by kernel_rfl) (by kernel_rfl)

theorem tyOK (t : TypeId) (u : Abs.Ty) (h : (Abs.tyB Tryz.prog u).1 t = true) : Abs.TyOK Tryz.prog u t := (Abs.tyB_ok u).1 t h

theorem globs {W : World} (hL : laidMetH Tryz.prog Rows.hostNumbersUptoRow.laid W) (hsh : W.ShapedOpen Tryz.prog) : Abs.Glob Abs.E W (fun b => b < W.heap.size) := by
  have h' : laidMet Tryz.prog Rows.hostNumbersUptoRow.laid W := hL
  refine ⟨fun g t x hg => ?_, fun g k hg => ?_⟩
  · have hg' : (g, (⟨t, x⟩ : Σ t : Abs.Ty, t.den)) ∈ [(2, (⟨(.arr 256 (.int .u8)), Abs.utf8First⟩ : Σ t : Abs.Ty, t.den)), (3, ⟨(.arr 16 (.st (.pair (.int .u8) (.int .u8)))), Abs.utf8Accept⟩), (1, ⟨(.arr 20 (.int .u64)), Abs.pow10s⟩), (4, ⟨(.arr 32 (.int .u8)), Abs.bruijn32⟩), (5, ⟨(.arr 64 (.int .u8)), Abs.bruijn64⟩)] := hg
    simp only [List.mem_cons, List.not_mem_nil, or_false] at hg'
    rcases hg' with e | e | e | e | e
    · cases e
      exact Abs.tab_of_laid h' (name := "unicode/utf8.first") (d := Rows.laid_unicode_utf8_first) (.tail _ (.tail _ (.tail _ (.tail _ (.head _))))) (by kernel_rfl) (tid := 341) (by kernel_rfl) (tyOK 341 _ (by kernel_rfl)) (by kernel_rfl) (by kernel_rfl) (by kernel_rfl) (fun _ h => h)
    · cases e
      exact Abs.tab_of_laid h' (name := "unicode/utf8.acceptRanges") (d := Rows.laid_unicode_utf8_acceptRanges) (.tail _ (.tail _ (.tail _ (.head _)))) (by kernel_rfl) (tid := 344) (by kernel_rfl) (tyOK 344 _ (by kernel_rfl)) (by kernel_rfl) (by kernel_rfl) (by kernel_rfl) (fun _ h => h)
    · cases e
      exact Abs.tab_of_laid h' (name := "internal/strconv.uint64pow10") (d := Rows.laid_internal_strconv_uint64pow10) (.tail _ (.tail _ (.head _))) (by kernel_rfl) (tid := 337) (by kernel_rfl) (tyOK 337 _ (by kernel_rfl)) (by kernel_rfl) (by kernel_rfl) (by kernel_rfl) (fun _ h => h)
    · cases e
      exact Abs.tab_of_laid h' (name := "math/bits.deBruijn32tab") (d := Rows.laid_math_bits_deBruijn32tab) (.head _) (by kernel_rfl) (tid := 348) (by kernel_rfl) (tyOK 348 _ (by kernel_rfl)) (by kernel_rfl) (by kernel_rfl) (by kernel_rfl) (fun _ h => h)
    · cases e
      exact Abs.tab_of_laid h' (name := "math/bits.deBruijn64tab") (d := Rows.laid_math_bits_deBruijn64tab) (.tail _ (.head _)) (by kernel_rfl) (tid := 349) (by kernel_rfl) (tyOK 349 _ (by kernel_rfl)) (by kernel_rfl) (by kernel_rfl) (by kernel_rfl) (fun _ h => h)
  · have hg' : (g, k) ∈ [((0 : Nat), IntKind.i64)] := hg
    simp only [List.mem_cons, List.not_mem_nil, or_false] at hg'
    cases hg'
    obtain ⟨n, hn⟩ := maxLen_some hsh
    refine ⟨?_, n, hn⟩
    show 0 < W.heap.size
    rcases Nat.eq_zero_or_pos W.heap.size with e | e
    · simp [World.cell?, e] at hn
    · exact e

set_option maxRecDepth 100000 in
/-- FOR EVERY ARGUMENT AND EVERY WORLD THAT HOLDS THE TABLES. -/
theorem contract (H : Type) (enc : TypeId × Value → H) (W : World) (base : Nat) (args : Array Value) (ds gs : List (DataW H)) (before : List MemPlace)
    (hval : ∀ (j : Nat) t v, Tryz.f7.params[j]? = some t → args[j]? = some v → Value.okWide Tryz.prog W .any base t v)
    (hW : DataW.Whole enc Tryz.prog Tryz.f7.params.toList Rows.hostNumbersSpec.vars false W args.toList ds gs before) (hL : laidMetH Tryz.prog Rows.hostNumbersUptoRow.laid W) (hsh : W.ShapedOpen Tryz.prog)
    (hk : Rows.uptoSmall H (ds ++ gs) = true) :
    Calls Tryz.prog 7 args W fun e W' => ∃ v, e = .returned v ∧ Rows.hostNumbersSpec.post enc Tryz.prog Tryz.f7 false true false false W args v W' := by
  have hW' := hW
  obtain ⟨p, q, hA0, hV, rfl, hfz, hnd⟩ := hW
  have hA : DataW.TrodAll enc Tryz.prog W 0 (fun _ => true) true Tryz.f7.params.toList args.toList ds p := hA0
  rw [Tryz.params7] at hA hval
  obtain ⟨v0, vs0, d0, ds0, p0, q0, hargs, rfl, rfl, h0, r0⟩ := trodAll_cons hA
  obtain ⟨rfl, rfl, rfl⟩ := trodAll_nil r0
  obtain rfl : args = #[v0] := by cases args; simp_all
  obtain ⟨rfl, rfl⟩ := trodVars_none hV
  obtain ⟨x, cs, rfl, hx, hr⟩ := Abs.arg_open (sp := fun _ => true) (fun _ => rfl) (fz := fun b => b < W.heap.size) (fun _ h => h) (tyOK 9 .str (by kernel_rfl)) rfl (hval 0 9 v0 rfl rfl) h0
  have hd : d0 = .lit (.string x) := by
    cases d0 <;> first
      | (rename_i l; cases l <;> first | (obtain rfl := Option.some.inj hx; rfl) | cases hx)
      | cases hx
  have hlen : x.length ≤ 1073741823 := by
    subst hd
    have := of_decide_eq_true hk
    simp only [List.cons_append, List.nil_append, Rows.uptoBulkAll, Rows.uptoBulk] at this
    omega
  have hcall := Abs.callOK_of (show Abs.Call Abs.E 7 x = some true from Abs.c_law05_HostNumbers_of x hlen Abs.law05_alive_true) W (fun b => b < W.heap.size) [Abs.mkV false cs] [] ⟨cs, rfl, hr⟩ List.nodup_nil (by simp) (fun _ h => h) (globs hL hsh)
  refine hcall.mono fun e W' ⟨hkeep, fz', _, hout⟩ => ?_
  obtain ⟨rs, X', rfl, hres, _⟩ := hout
  obtain ⟨cs', rfl, rfl⟩ : ∃ cs', rs = [Abs.mkV false cs'] ∧ cs' = [.bool true] := by
    obtain ⟨_, cs', h1, h2, _⟩ := hres
    exact ⟨cs', h1, h2⟩
  exact ⟨.bool true, rfl, Abs.post_kept laidOut htys rfl hW' (Abs.keep_to_below hkeep) (tb := 4) (by kernel_rfl) (by kernel_rfl) rfl rfl rfl⟩
end Go.Proofs.YtddagflhafkbnaaGreatDoor.HostNumbers
