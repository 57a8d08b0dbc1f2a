/- Part P1 of the proof: see the last text of the claim. No condition of its own. -/
import Derived.Test.YtddagflhafkbnaaGreatDoorE1
import Derived.Test.YtddagflhafkbnaaGreatDoorK8
import Derived.Test.YtddagflhafkbnaaGreatDoorS1
import Derived.KernelRfl
set_option linter.all false
/- The library's contracts at this program. -/
namespace Go.Abs
set_option autoImplicit false
open Go.Proofs
theorem p126 (x : List UInt8 × Int) (y : Int) (h : primIndexByte x = some y) : CallOK E 126 x y := sigOK_indexByte (E := E) (fun s n w => Tryz.strings_IndexByte s n w) x y h
theorem p213 (x : List UInt8 × List UInt8) (y : Int) (h : primIndex x = some y) : CallOK E 213 x y := sigOK_index (E := E) 0 (by exact List.mem_cons_self ..) (fun s t m w h1 h2 => Tryz.stringslite_Index s t m w h1 h2) x y h
theorem p214 (x : List UInt8 × List UInt8) (y : Int) (h : primIndex x = some y) : CallOK E 214 x y := sigOK_index (E := E) 0 (by exact List.mem_cons_self ..) (fun s t m w h1 h2 => Tryz.strings_Index s t m w h1 h2) x y h
theorem p227 (x : Int) (y : List UInt8) (h : primItoa x = some y) : CallOK E 227 x y := sigOK_itoa (E := E) 1 (name := "internal/strconv.uint64pow10") (by kernel_rfl) (by exact .tail _ (.tail _ (.head _))) (fun n h0 h1 w h => Tryz.internal_strconv_Itoa n h0 h1 w h) x y h
theorem p137 (x : List (List UInt8) × List UInt8) (y : List UInt8) (h : primJoin x = some y) : CallOK E 137 x y := sigOK_join (E := E) (fun a n s w => Tryz.strings_Join_none a n s w) (fun bk o n xs sep w h1 h2 h3 h4 h5 => Tryz.strings_Join bk o n xs sep w h1 h2 h3 h4 h5) x y h
theorem first_eq : utf8First = (List.range 256).map fun c => (Lib.firstT c : Int) := by decide +kernel
theorem accept_eq : utf8Accept = (List.range 16).map fun c => ((Lib.accLo c : Int), (Lib.accHi c : Int)) := by decide +kernel
theorem p215 (x : List UInt8) (y : Int × Int) (h : primDecodeLast x = some y) : CallOK E 215 x y := sigOK_decodeLast (E := E) 2 3 (by exact .head _) (by exact .tail _ (.head _)) first_eq accept_eq (fun s w h1 h2 => Tryz.utf8_DecodeLastRuneInString s w h1 h2) x y h

theorem prim_list (f : FuncId) (h : (E.prim f).isSome = true) : f ∈ [126, 213, 214, 215, 137, 227] := by
  have := lookN_has (f := f) (d := noFn) fnTab rfl h
  exact (show ∀ x ∈ fnTab, x.2.2.isSome = true → x.1 ∈ [126, 213, 214, 215, 137, 227] from by
    have : fnTab.all (fun x => !x.2.2.isSome || [126, 213, 214, 215, 137, 227].any (Nat.beq x.1)) = true := by kernel_rfl
    intro x hx hs
    have := List.all_eq_true.1 this x hx
    rw [hs] at this
    simpa [Nat.beq_eq] using this) _ this.1 this.2

theorem prims_ok (f : FuncId) (g : (E.sig f).arg.den → Option (E.sig f).Out) (x : (E.sig f).arg.den) (y : (E.sig f).Out) (hf : E.prim f = some g) (h : g x = some y) : CallOK E f x y := by
  have := prim_list f (by rw [hf]; rfl)
  simp only [List.mem_cons, List.not_mem_nil, or_false] at this
  rcases this with rfl | rfl | rfl | rfl | rfl | rfl
  · obtain rfl : primIndexByte = g := Option.some.inj hf
    exact p126 x y h
  · obtain rfl : primIndex = g := Option.some.inj hf
    exact p213 x y h
  · obtain rfl : primIndex = g := Option.some.inj hf
    exact p214 x y h
  · obtain rfl : primDecodeLast = g := Option.some.inj hf
    exact p215 x y h
  · obtain rfl : primJoin = g := Option.some.inj hf
    exact p137 x y h
  · obtain rfl : primItoa = g := Option.some.inj hf
    exact p227 x y h

theorem callOK_of {f : FuncId} {x : (E.sig f).arg.den} {y : (E.sig f).Out} (h : Call E f x = some y) : CallOK E f x y := Call_spec E_ok prims_ok h
end Go.Abs
