/- Part Q1 of the proof: see the last text of the claim. No condition of its own. -/
import Derived.Test.YtddagflhafkbnaaGreatDoorK8
import Derived.Test.YtddagflhafkbnaaGreatDoorE1
set_option linter.all false
namespace Go.Abs
noncomputable section
set_option autoImplicit false
set_option linter.all false
def c_law05_alive (x : Unit) : Option Bool := Abs.Call E 47 x
def c_host_IPv4 (x : List UInt8) : Option (Int × Int) := Abs.Call E 40 x
def Z3 (s0 : List UInt8) : Option (Int × Int) := (Abs.Run E 40 (E.at 40 []) ⟨mkSlots [(0, (.val .str s0))], assocB [], assocR []⟩)
def Z4 (s0 : List UInt8) (s1 : Int) (s2 : Int) (r3 : List Int) (r4 : List (List UInt8)) : Option (Int × Int) := (Abs.Run E 40 (E.at 40 [1, 1, 1, 1, 0, 1, 0, 7]) ⟨mkSlots [(0, (.val .str s0)), (5, (.row 0)), (19, (.row 1)), (20, (.val (.int .i64) s1)), (21, (.val (.int .i64) s2))], mkBoxes [], mkRows [.mk (.int .i64) .live r3, .mk .str .live r4]⟩)
def Z5 (s0 : List UInt8) (s1 : Int) (s56lo_2 : Nat) (s56hi_3 : Nat) (s4 : Int) (s5 : Int) (r6 : List Int) : Option (Int × Int) := (Abs.Run E 40 (E.at 40 [1, 1, 1, 1, 1, 1, 1, 1, 0, 1, 0, 7]) ⟨mkSlots [(0, (.val .str s0)), (11, (.val (.int .i64) s1)), (56, (.part 0 s56lo_2 s56hi_3)), (57, (.val (.int .i64) s4)), (58, (.val (.int .i64) s5))], mkBoxes [], mkRows [.mk (.int .i64) .live r6]⟩)
def c_host_IPv6 (x : List UInt8) : Option ((List Int) × Int) := Abs.Call E 42 x
def Z6 (s0 : List UInt8) : Option ((List Int) × Int) := (Abs.Run E 42 (E.at 42 []) ⟨mkSlots [(0, (.val .str s0))], assocB [], assocR []⟩)
def c_law05_num (x : Int) : Option Int := Abs.Call E 44 x
def Z7 (s0 : Int) : Option Int := (Abs.Run E 44 (E.at 44 []) ⟨mkSlots [(0, (.val (.int .i64) s0))], assocB [], assocR []⟩)
def c_host_EndsInNumber (x : List UInt8) : Option Bool := Abs.Call E 45 x
def Z8 (s0 : List UInt8) : Option Bool := (Abs.Run E 45 (E.at 45 []) ⟨mkSlots [(0, (.val .str s0))], assocB [], assocR []⟩)
def c_host_parts (x : List UInt8) : Option (List (List UInt8)) := Abs.Call E 112 x
def Z9 (s0 : List UInt8) : Option (List (List UInt8)) := (Abs.Run E 112 (E.at 112 []) ⟨mkSlots [(0, (.val .str s0))], assocB [], assocR []⟩)
def c_host_number (x : List UInt8) : Option (Int × Bool) := Abs.Call E 113 x
def Za (s0 : List UInt8) : Option (Int × Bool) := (Abs.Run E 113 (E.at 113 []) ⟨mkSlots [(0, (.val .str s0))], assocB [], assocR []⟩)
def Zb (s0 : List UInt8) (s1 : Int) : Option (Int × Bool) := (Abs.Run E 113 (E.at 113 [1, 1, 0, 0, 1, 9]) ⟨mkSlots [(0, (.val .str s0)), (4, (.val (.int .i64) s1))], mkBoxes [], mkRows []⟩)
def Zc (s0 : List UInt8) (s1 : Int) : Option (Int × Bool) := (Abs.Run E 113 (E.at 113 [1, 1, 0, 0, 1, 1, 1, 9]) ⟨mkSlots [(0, (.val .str s0)), (4, (.val (.int .i64) s1))], mkBoxes [], mkRows []⟩)
def Zd (s0 : List UInt8) (s1 : Int) (s2 : Int) (s3 : Int) (s4 : Int) : Option (Int × Bool) := (Abs.Run E 113 (E.at 113 [1, 1, 1, 1, 0, 1, 0, 7]) ⟨mkSlots [(0, (.val .str s0)), (4, (.val (.int .i64) s1)), (5, (.val (.int .i64) s2)), (40, (.val (.int .i64) s3)), (41, (.val (.int .i64) s4))], mkBoxes [], mkRows []⟩)
def c_strings_Cut (x : (List UInt8 × List UInt8)) : Option (List UInt8 × (List UInt8 × Bool)) := Abs.Call E 116 x
def Ze (s0 : List UInt8) (s1 : List UInt8) : Option (List UInt8 × (List UInt8 × Bool)) := (Abs.Run E 116 (E.at 116 []) ⟨mkSlots [(1, (.val .str s1)), (0, (.val .str s0))], assocB [], assocR []⟩)
def c_host_pieces (x : (List UInt8 × Bool)) : Option ((List Int) × Bool) := Abs.Call E 117 x
def Zf (s0 : List UInt8) (s1 : Bool) : Option ((List Int) × Bool) := (Abs.Run E 117 (E.at 117 []) ⟨mkSlots [(1, (.val .bool s1)), (0, (.val .str s0))], assocB [], assocR []⟩)
def Zg (s0 : List UInt8) (s1 : Bool) (s2 : Int) (s3 : Int) (r4 : List Int) (r5 : List (List UInt8)) : Option ((List Int) × Bool) := (Abs.Run E 117 (E.at 117 [1, 1, 1, 1, 0, 1, 0, 7]) ⟨mkSlots [(0, (.val .str s0)), (1, (.val .bool s1)), (6, (.row 0)), (7, (.row 1)), (18, (.row 1)), (19, (.val (.int .i64) s2)), (20, (.val (.int .i64) s3))], mkBoxes [], mkRows [.mk (.int .u16) .live r4, .mk .str .live r5]⟩)
def c_octets_Lower (x : List UInt8) : Option (List UInt8) := Abs.Call E 119 x
def Zh (s0 : List UInt8) : Option (List UInt8) := (Abs.Run E 119 (E.at 119 []) ⟨mkSlots [(0, (.val .str s0))], assocB [], assocR []⟩)
def c_strings_HasPrefix (x : (List UInt8 × List UInt8)) : Option Bool := Abs.Call E 120 x
def Zi (s0 : List UInt8) (s1 : List UInt8) : Option Bool := (Abs.Run E 120 (E.at 120 []) ⟨mkSlots [(1, (.val .str s1)), (0, (.val .str s0))], assocB [], assocR []⟩)
def c_host_all (x : (List UInt8 × List UInt8)) : Option Bool := Abs.Call E 121 x
def Zj (s0 : List UInt8) (s1 : List UInt8) : Option Bool := (Abs.Run E 121 (E.at 121 []) ⟨mkSlots [(1, (.val .str s1)), (0, (.val .str s0))], assocB [], assocR []⟩)
def c_octets_Split (x : (List UInt8 × Int)) : Option (List (List UInt8)) := Abs.Call E 142 x
def Zk (s0 : List UInt8) (s1 : Int) : Option (List (List UInt8)) := (Abs.Run E 142 (E.at 142 []) ⟨mkSlots [(1, (.val (.int .u8) s1)), (0, (.val .str s0))], assocB [], assocR []⟩)
def Zl (s0 : List UInt8) (s1 : Int) (s2 : Int) (s3 : Int) (s4 : Int) (r5 : List (List UInt8)) : Option (List (List UInt8)) := (Abs.Run E 142 (E.at 142 [1, 1, 1, 0, 1, 0, 7]) ⟨mkSlots [(0, (.val .str s0)), (1, (.val (.int .u8) s1)), (5, (.row 0)), (6, (.val (.int .i64) s2)), (9, (.val (.int .i64) s3)), (10, (.val (.int .i64) s4))], mkBoxes [], mkRows [.mk .str .live r5]⟩)
def c_istringslite_Cut (x : (List UInt8 × List UInt8)) : Option (List UInt8 × (List UInt8 × Bool)) := Abs.Call E 169 x
def Zm (s0 : List UInt8) (s1 : List UInt8) : Option (List UInt8 × (List UInt8 × Bool)) := (Abs.Run E 169 (E.at 169 []) ⟨mkSlots [(1, (.val .str s1)), (0, (.val .str s0))], assocB [], assocR []⟩)
def c_strings_Contains (x : (List UInt8 × List UInt8)) : Option Bool := Abs.Call E 170 x
def Zn (s0 : List UInt8) (s1 : List UInt8) : Option Bool := (Abs.Run E 170 (E.at 170 []) ⟨mkSlots [(1, (.val .str s1)), (0, (.val .str s0))], assocB [], assocR []⟩)
def c_host_tail (x : List UInt8) : Option ((List Int) × Bool) := Abs.Call E 171 x
def Zo (s0 : List UInt8) : Option ((List Int) × Bool) := (Abs.Run E 171 (E.at 171 []) ⟨mkSlots [(0, (.val .str s0))], assocB [], assocR []⟩)
def Zp (s0 : List UInt8) (s1 : Int) (s2 : Int) (b3 : (List Int)) (r4 : List (List UInt8)) : Option ((List Int) × Bool) := (Abs.Run E 171 (E.at 171 [1, 1, 1, 1, 0, 1, 0, 7]) ⟨mkSlots [(0, (.val .str s0)), (5, (.addr (.box 0) [])), (14, (.row 0)), (15, (.val (.int .i64) s1)), (16, (.val (.int .i64) s2))], mkBoxes [.cells (.arr 4 (.int .u16)) .live (.val (.arr 4 (.int .u16)) b3)], mkRows [.mk .str .live r4]⟩)
def Zq (s0 : List UInt8) (s1 : Int) (s2 : List UInt8) (s3 : Int) (s4 : Int) (s5 : Int) (s6 : Int) (b7 : (List Int)) (r8 : List (List UInt8)) : Option ((List Int) × Bool) := (Abs.Run E 171 (E.at 171 [1, 1, 1, 1, 0, 1, 0, 0, 1, 1, 0, 0, 1, 1, 0, 1, 0, 7]) ⟨mkSlots [(0, (.val .str s0)), (5, (.addr (.box 0) [])), (6, (.val (.int .i64) s1)), (7, (.val .str s2)), (14, (.row 0)), (15, (.val (.int .i64) s3)), (16, (.val (.int .i64) s4)), (44, (.val (.int .i64) s5)), (45, (.val (.int .i64) s6))], mkBoxes [.cells (.arr 4 (.int .u16)) .live (.val (.arr 4 (.int .u16)) b7)], mkRows [.mk .str .live r8]⟩)
def c_ref01_Has (x : (List UInt8 × Int)) : Option Bool := Abs.Call E 52 x
def Zr (s0 : List UInt8) (s1 : Int) : Option Bool := (Abs.Run E 52 (E.at 52 []) ⟨mkSlots [(1, (.val (.int .u8) s1)), (0, (.val .str s0))], assocB [], assocR []⟩)
def Zs (s0 : List UInt8) (s1 : Int) (s2 : Int) : Option Bool := (Abs.Run E 52 (E.at 52 [1, 0, 1, 0, 7]) ⟨mkSlots [(0, (.val .str s0)), (1, (.val (.int .u8) s1)), (5, (.val (.int .i64) s2))], mkBoxes [], mkRows []⟩)
def c_octets_turned (x : (List UInt8 × (Int × Int))) : Option (List UInt8) := Abs.Call E 129 x
def Zt (s0 : List UInt8) (s1 : Int) (s2 : Int) : Option (List UInt8) := (Abs.Run E 129 (E.at 129 []) ⟨mkSlots [(2, (.val (.int .u8) s2)), (1, (.val (.int .u8) s1)), (0, (.val .str s0))], assocB [], assocR []⟩)
def Zu (s0 : List UInt8) (s1 : Int) (s2 : Int) (s3 : Int) (s4 : Int) (r5 : List Int) : Option (List UInt8) := (Abs.Run E 129 (E.at 129 [1, 1, 0, 1, 0, 7]) ⟨mkSlots [(0, (.val .str s0)), (1, (.val (.int .u8) s1)), (2, (.val (.int .u8) s2)), (7, (.row 0)), (12, (.row 0)), (13, (.val (.int .i64) s3)), (14, (.val (.int .i64) s4))], mkBoxes [], mkRows [.mk (.int .u8) .live r5]⟩)
def c_istringslite_HasPrefix (x : (List UInt8 × List UInt8)) : Option Bool := Abs.Call E 173 x
def Zv (s0 : List UInt8) (s1 : List UInt8) : Option Bool := (Abs.Run E 173 (E.at 173 []) ⟨mkSlots [(1, (.val .str s1)), (0, (.val .str s0))], assocB [], assocR []⟩)
def c_host_cutLeft (x : (List UInt8 × List UInt8)) : Option (List UInt8) := Abs.Call E 175 x
def Zw (s0 : List UInt8) (s1 : List UInt8) : Option (List UInt8) := (Abs.Run E 175 (E.at 175 []) ⟨mkSlots [(1, (.val .str s1)), (0, (.val .str s0))], assocB [], assocR []⟩)
def Zx (s0 : List UInt8) (s1 : List UInt8) (t2 : List UInt8) (n3 : Nat) : Option (List UInt8) := (Abs.Run E 175 (E.at 175 [1, 0, 1, 0, 7]) ⟨mkSlots [(0, (.val .str s0)), (1, (.val .str s1)), (11, (.addr (.box 0) []))], mkBoxes [.iter t2 n3], mkRows []⟩)
def Zy (s0 : List UInt8) (s1 : List UInt8) (s2 : Int) (s3 : Int) (s4 : Bool) (t5 : List UInt8) (n6 : Nat) (t7 : List UInt8) (n8 : Nat) : Option (List UInt8) := (Abs.Run E 175 (E.at 175 [1, 0, 1, 0, 0, 1, 1, 0, 1, 1, 0, 1, 0, 7]) ⟨mkSlots [(0, (.val .str s0)), (1, (.val .str s1)), (5, (.val (.int .i64) s2)), (6, (.val (.int .i32) s3)), (7, (.val .bool s4)), (11, (.addr (.box 0) [])), (17, (.addr (.box 1) []))], mkBoxes [.iter t5 n6, .iter t7 n8], mkRows []⟩)
def c_host_cutRight (x : (List UInt8 × List UInt8)) : Option (List UInt8) := Abs.Call E 174 x
def Zz (s0 : List UInt8) (s1 : List UInt8) : Option (List UInt8) := (Abs.Run E 174 (E.at 174 []) ⟨mkSlots [(1, (.val .str s1)), (0, (.val .str s0))], assocB [], assocR []⟩)
def Z01 (s0 : List UInt8) (s1 : List UInt8) : Option (List UInt8) := (Abs.Run E 174 (E.at 174 [1, 0, 0, 7]) ⟨mkSlots [(0, (.val .str s0)), (1, (.val .str s1))], mkBoxes [], mkRows []⟩)
def Z11 (s0 : List UInt8) (s1 : List UInt8) (s2 : Int) (s3 : Int) (s4 : Bool) (t5 : List UInt8) (n6 : Nat) : Option (List UInt8) := (Abs.Run E 174 (E.at 174 [1, 0, 0, 0, 1, 0, 1, 1, 0, 1, 0, 7]) ⟨mkSlots [(0, (.val .str s0)), (1, (.val .str s1)), (5, (.val (.int .i32) s2)), (6, (.val (.int .i64) s3)), (7, (.val .bool s4)), (19, (.addr (.box 0) []))], mkBoxes [.iter t5 n6], mkRows []⟩)
def c_utf8_DecodeLastRuneInString (x : List UInt8) : Option (Int × Int) := Abs.Call E 215 x
def c_strings_IndexByte (x : (List UInt8 × Int)) : Option Int := Abs.Call E 126 x
def c_istringslite_Index (x : (List UInt8 × List UInt8)) : Option Int := Abs.Call E 213 x
def c_strings_Index (x : (List UInt8 × List UInt8)) : Option Int := Abs.Call E 214 x
theorem c_host_IPv4_eq (x : List UInt8) : c_host_IPv4 x =
 Z3 x := by kernel_rfl
theorem Z3_eq (s0 : List UInt8) : Z3 s0 =
 (c_host_parts s0).bind fun y0 =>
 bif (decide ((((List.length y0) : Nat) : Int) > (4 : Int))) then
 some ((0 : Int), (3 : Int))
 else
 Z4 s0 (((List.length y0) : Nat) : Int) (0 : Int) ([] : List Int) y0 := by unfold Z3; rewrite [Run_unfold]; kernel_rfl
theorem Z4_eq (s0 : List UInt8) (s1 : Int) (s2 : Int) (r3 : List Int) (r4 : List (List UInt8)) : Z4 s0 s1 s2 r3 r4 =
 bif (decide (s2 < s1)) then
 bif (inside s2 (List.length r4)) then
 (c_host_number (List.getD r4 (Int.toNat s2) (Ty.zero .str))).bind fun y0 =>
 bif (!y0.2) then
 some ((0 : Int), (54 : Int))
 else
 bif (decide (((List.length r3) + (List.length ([y0.1] : List Int))) ≤ (lim))) then
 Z4 s0 s1 (IntKind.wrap IntKind.i64 (s2 + (1 : Int))) (r3 ++ ([y0.1] : List Int)) r4
 else
 none
 else
 none
 else
 bif (inside (IntKind.wrap IntKind.i64 ((((List.length r3) : Nat) : Int) - (1 : Int))) (List.length r3)) then
 bif (decide ((0 : Int) ≤ (IntKind.wrap IntKind.i64 ((8 : Int) * (IntKind.wrap IntKind.i64 ((5 : Int) - (((List.length r3) : Nat) : Int))))))) then
 bif (decide ((List.getD r3 (Int.toNat (IntKind.wrap IntKind.i64 ((((List.length r3) : Nat) : Int) - (1 : Int)))) (Ty.zero (.int .i64))) ≥ (shl IntKind.i64 (1 : Int) (IntKind.wrap IntKind.i64 ((8 : Int) * (IntKind.wrap IntKind.i64 ((5 : Int) - (((List.length r3) : Nat) : Int)))))))) then
 some ((0 : Int), (4 : Int))
 else
 bif (inside (IntKind.wrap IntKind.i64 ((((List.length r3) : Nat) : Int) - (1 : Int))) (List.length r3)) then
 bif (cutOk none (some (IntKind.wrap IntKind.i64 ((((List.length r3) : Nat) : Int) - (1 : Int)))) (List.length r3)) then
 Z5 s0 (List.getD r3 (Int.toNat (IntKind.wrap IntKind.i64 ((((List.length r3) : Nat) : Int) - (1 : Int)))) (Ty.zero (.int .i64))) (Option.getD (Option.map (Int.toNat) none) 0) (Option.getD (Option.map (Int.toNat) (some (IntKind.wrap IntKind.i64 ((((List.length r3) : Nat) : Int) - (1 : Int))))) (List.length r3)) ((((Option.getD (Option.map (Int.toNat) (some (IntKind.wrap IntKind.i64 ((((List.length r3) : Nat) : Int) - (1 : Int))))) (List.length r3)) - (Option.getD (Option.map (Int.toNat) none) 0)) : Nat) : Int) (0 : Int) r3
 else
 none
 else
 none
 else
 none
 else
 none := by unfold Z4; rewrite [Run_unfold]; kernel_rfl
theorem Z5_eq (s0 : List UInt8) (s1 : Int) (s56lo_2 : Nat) (s56hi_3 : Nat) (s4 : Int) (s5 : Int) (r6 : List Int) : Z5 s0 s1 s56lo_2 s56hi_3 s4 s5 r6 =
 bif (decide (s5 < s4)) then
 bif (inside s5 (s56hi_3 - s56lo_2)) then
 bif (decide ((List.getD r6 (s56lo_2 + (Int.toNat s5)) (Ty.zero (.int .i64))) > (255 : Int))) then
 some ((0 : Int), (4 : Int))
 else
 bif (decide ((0 : Int) ≤ (IntKind.wrap IntKind.i64 ((8 : Int) * (IntKind.wrap IntKind.i64 ((3 : Int) - s5)))))) then
 Z5 s0 (IntKind.wrap IntKind.i64 (s1 + (shl IntKind.i64 (List.getD r6 (s56lo_2 + (Int.toNat s5)) (Ty.zero (.int .i64))) (IntKind.wrap IntKind.i64 ((8 : Int) * (IntKind.wrap IntKind.i64 ((3 : Int) - s5))))))) s56lo_2 s56hi_3 s4 (IntKind.wrap IntKind.i64 (s5 + (1 : Int))) r6
 else
 none
 else
 none
 else
 some ((IntKind.wrap IntKind.u32 s1), (0 : Int)) := by unfold Z5; rewrite [Run_unfold]; kernel_rfl
theorem c_host_IPv6_eq (x : List UInt8) : c_host_IPv6 x =
 Z6 x := by kernel_rfl
theorem Z6_eq (s0 : List UInt8) : Z6 s0 =
 (c_strings_Cut (s0, ([(58 : UInt8), (58 : UInt8)] : List UInt8))).bind fun y0 =>
 (c_host_pieces (y0.1, (!y0.2.2))).bind fun y1 =>
 (c_host_pieces (y0.2.1, true)).bind fun y2 =>
 bif (!y1.2) then
 some ((Ty.zero (.arr 8 (.int .u16))), (55 : Int))
 else
 bif (!y2.2) then
 some ((Ty.zero (.arr 8 (.int .u16))), (55 : Int))
 else
 bif y0.2.2 then
 bif (decide ((IntKind.wrap IntKind.i64 ((((List.length y1.1) : Nat) : Int) + (((List.length y2.1) : Nat) : Int))) > (7 : Int))) then
 some ((Ty.zero (.arr 8 (.int .u16))), (55 : Int))
 else
 bif (!y0.2.2) then
 bif ((IntKind.wrap IntKind.i64 ((((List.length y1.1) : Nat) : Int) + (((List.length y2.1) : Nat) : Int))) != (8 : Int)) then
 some ((Ty.zero (.arr 8 (.int .u16))), (55 : Int))
 else
 bif (cutOk (some (IntKind.wrap IntKind.i64 ((8 : Int) - (((List.length y2.1) : Nat) : Int)))) none 8) then
 some ((((List.take (Option.getD (Option.map (Int.toNat) (some (IntKind.wrap IntKind.i64 ((8 : Int) - (((List.length y2.1) : Nat) : Int))))) 0) (((List.take (Option.getD (Option.map (Int.toNat) none) 0) (Ty.zero (.arr 8 (.int .u16)))) ++ (List.take ((Option.getD (Option.map (Int.toNat) none) 8) - (Option.getD (Option.map (Int.toNat) none) 0)) y1.1)) ++ (List.drop ((Option.getD (Option.map (Int.toNat) none) 0) + (Min.min (List.length y1.1) ((Option.getD (Option.map (Int.toNat) none) 8) - (Option.getD (Option.map (Int.toNat) none) 0)))) (Ty.zero (.arr 8 (.int .u16)))))) ++ (List.take ((Option.getD (Option.map (Int.toNat) none) 8) - (Option.getD (Option.map (Int.toNat) (some (IntKind.wrap IntKind.i64 ((8 : Int) - (((List.length y2.1) : Nat) : Int))))) 0)) y2.1)) ++ (List.drop ((Option.getD (Option.map (Int.toNat) (some (IntKind.wrap IntKind.i64 ((8 : Int) - (((List.length y2.1) : Nat) : Int))))) 0) + (Min.min (List.length y2.1) ((Option.getD (Option.map (Int.toNat) none) 8) - (Option.getD (Option.map (Int.toNat) (some (IntKind.wrap IntKind.i64 ((8 : Int) - (((List.length y2.1) : Nat) : Int))))) 0)))) (((List.take (Option.getD (Option.map (Int.toNat) none) 0) (Ty.zero (.arr 8 (.int .u16)))) ++ (List.take ((Option.getD (Option.map (Int.toNat) none) 8) - (Option.getD (Option.map (Int.toNat) none) 0)) y1.1)) ++ (List.drop ((Option.getD (Option.map (Int.toNat) none) 0) + (Min.min (List.length y1.1) ((Option.getD (Option.map (Int.toNat) none) 8) - (Option.getD (Option.map (Int.toNat) none) 0)))) (Ty.zero (.arr 8 (.int .u16))))))), (0 : Int))
 else
 none
 else
 bif (cutOk (some (IntKind.wrap IntKind.i64 ((8 : Int) - (((List.length y2.1) : Nat) : Int)))) none 8) then
 some ((((List.take (Option.getD (Option.map (Int.toNat) (some (IntKind.wrap IntKind.i64 ((8 : Int) - (((List.length y2.1) : Nat) : Int))))) 0) (((List.take (Option.getD (Option.map (Int.toNat) none) 0) (Ty.zero (.arr 8 (.int .u16)))) ++ (List.take ((Option.getD (Option.map (Int.toNat) none) 8) - (Option.getD (Option.map (Int.toNat) none) 0)) y1.1)) ++ (List.drop ((Option.getD (Option.map (Int.toNat) none) 0) + (Min.min (List.length y1.1) ((Option.getD (Option.map (Int.toNat) none) 8) - (Option.getD (Option.map (Int.toNat) none) 0)))) (Ty.zero (.arr 8 (.int .u16)))))) ++ (List.take ((Option.getD (Option.map (Int.toNat) none) 8) - (Option.getD (Option.map (Int.toNat) (some (IntKind.wrap IntKind.i64 ((8 : Int) - (((List.length y2.1) : Nat) : Int))))) 0)) y2.1)) ++ (List.drop ((Option.getD (Option.map (Int.toNat) (some (IntKind.wrap IntKind.i64 ((8 : Int) - (((List.length y2.1) : Nat) : Int))))) 0) + (Min.min (List.length y2.1) ((Option.getD (Option.map (Int.toNat) none) 8) - (Option.getD (Option.map (Int.toNat) (some (IntKind.wrap IntKind.i64 ((8 : Int) - (((List.length y2.1) : Nat) : Int))))) 0)))) (((List.take (Option.getD (Option.map (Int.toNat) none) 0) (Ty.zero (.arr 8 (.int .u16)))) ++ (List.take ((Option.getD (Option.map (Int.toNat) none) 8) - (Option.getD (Option.map (Int.toNat) none) 0)) y1.1)) ++ (List.drop ((Option.getD (Option.map (Int.toNat) none) 0) + (Min.min (List.length y1.1) ((Option.getD (Option.map (Int.toNat) none) 8) - (Option.getD (Option.map (Int.toNat) none) 0)))) (Ty.zero (.arr 8 (.int .u16))))))), (0 : Int))
 else
 none
 else
 bif (!y0.2.2) then
 bif ((IntKind.wrap IntKind.i64 ((((List.length y1.1) : Nat) : Int) + (((List.length y2.1) : Nat) : Int))) != (8 : Int)) then
 some ((Ty.zero (.arr 8 (.int .u16))), (55 : Int))
 else
 bif (cutOk (some (IntKind.wrap IntKind.i64 ((8 : Int) - (((List.length y2.1) : Nat) : Int)))) none 8) then
 some ((((List.take (Option.getD (Option.map (Int.toNat) (some (IntKind.wrap IntKind.i64 ((8 : Int) - (((List.length y2.1) : Nat) : Int))))) 0) (((List.take (Option.getD (Option.map (Int.toNat) none) 0) (Ty.zero (.arr 8 (.int .u16)))) ++ (List.take ((Option.getD (Option.map (Int.toNat) none) 8) - (Option.getD (Option.map (Int.toNat) none) 0)) y1.1)) ++ (List.drop ((Option.getD (Option.map (Int.toNat) none) 0) + (Min.min (List.length y1.1) ((Option.getD (Option.map (Int.toNat) none) 8) - (Option.getD (Option.map (Int.toNat) none) 0)))) (Ty.zero (.arr 8 (.int .u16)))))) ++ (List.take ((Option.getD (Option.map (Int.toNat) none) 8) - (Option.getD (Option.map (Int.toNat) (some (IntKind.wrap IntKind.i64 ((8 : Int) - (((List.length y2.1) : Nat) : Int))))) 0)) y2.1)) ++ (List.drop ((Option.getD (Option.map (Int.toNat) (some (IntKind.wrap IntKind.i64 ((8 : Int) - (((List.length y2.1) : Nat) : Int))))) 0) + (Min.min (List.length y2.1) ((Option.getD (Option.map (Int.toNat) none) 8) - (Option.getD (Option.map (Int.toNat) (some (IntKind.wrap IntKind.i64 ((8 : Int) - (((List.length y2.1) : Nat) : Int))))) 0)))) (((List.take (Option.getD (Option.map (Int.toNat) none) 0) (Ty.zero (.arr 8 (.int .u16)))) ++ (List.take ((Option.getD (Option.map (Int.toNat) none) 8) - (Option.getD (Option.map (Int.toNat) none) 0)) y1.1)) ++ (List.drop ((Option.getD (Option.map (Int.toNat) none) 0) + (Min.min (List.length y1.1) ((Option.getD (Option.map (Int.toNat) none) 8) - (Option.getD (Option.map (Int.toNat) none) 0)))) (Ty.zero (.arr 8 (.int .u16))))))), (0 : Int))
 else
 none
 else
 bif (cutOk (some (IntKind.wrap IntKind.i64 ((8 : Int) - (((List.length y2.1) : Nat) : Int)))) none 8) then
 some ((((List.take (Option.getD (Option.map (Int.toNat) (some (IntKind.wrap IntKind.i64 ((8 : Int) - (((List.length y2.1) : Nat) : Int))))) 0) (((List.take (Option.getD (Option.map (Int.toNat) none) 0) (Ty.zero (.arr 8 (.int .u16)))) ++ (List.take ((Option.getD (Option.map (Int.toNat) none) 8) - (Option.getD (Option.map (Int.toNat) none) 0)) y1.1)) ++ (List.drop ((Option.getD (Option.map (Int.toNat) none) 0) + (Min.min (List.length y1.1) ((Option.getD (Option.map (Int.toNat) none) 8) - (Option.getD (Option.map (Int.toNat) none) 0)))) (Ty.zero (.arr 8 (.int .u16)))))) ++ (List.take ((Option.getD (Option.map (Int.toNat) none) 8) - (Option.getD (Option.map (Int.toNat) (some (IntKind.wrap IntKind.i64 ((8 : Int) - (((List.length y2.1) : Nat) : Int))))) 0)) y2.1)) ++ (List.drop ((Option.getD (Option.map (Int.toNat) (some (IntKind.wrap IntKind.i64 ((8 : Int) - (((List.length y2.1) : Nat) : Int))))) 0) + (Min.min (List.length y2.1) ((Option.getD (Option.map (Int.toNat) none) 8) - (Option.getD (Option.map (Int.toNat) (some (IntKind.wrap IntKind.i64 ((8 : Int) - (((List.length y2.1) : Nat) : Int))))) 0)))) (((List.take (Option.getD (Option.map (Int.toNat) none) 0) (Ty.zero (.arr 8 (.int .u16)))) ++ (List.take ((Option.getD (Option.map (Int.toNat) none) 8) - (Option.getD (Option.map (Int.toNat) none) 0)) y1.1)) ++ (List.drop ((Option.getD (Option.map (Int.toNat) none) 0) + (Min.min (List.length y1.1) ((Option.getD (Option.map (Int.toNat) none) 8) - (Option.getD (Option.map (Int.toNat) none) 0)))) (Ty.zero (.arr 8 (.int .u16))))))), (0 : Int))
 else
 none := by unfold Z6; rewrite [Run_unfold]; kernel_rfl
theorem c_law05_num_eq (x : Int) : c_law05_num x =
 Z7 x := by kernel_rfl
theorem Z7_eq (s0 : Int) : Z7 s0 =
 some s0 := by unfold Z7; rewrite [Run_unfold]; kernel_rfl
theorem c_host_EndsInNumber_eq (x : List UInt8) : c_host_EndsInNumber x =
 Z8 x := by kernel_rfl
theorem Z8_eq (s0 : List UInt8) : Z8 s0 =
 bif (s0 == ([] : List UInt8)) then
 some false
 else
 (c_host_parts s0).bind fun y0 =>
 bif (inside (IntKind.wrap IntKind.i64 ((((List.length y0) : Nat) : Int) - (1 : Int))) (List.length y0)) then
 (c_octets_Lower (List.getD y0 (Int.toNat (IntKind.wrap IntKind.i64 ((((List.length y0) : Nat) : Int) - (1 : Int)))) (Ty.zero .str))).bind fun y1 =>
 (c_strings_HasPrefix (y1, ([(48 : UInt8), (120 : UInt8)] : List UInt8))).bind fun y2 =>
 bif y2 then
 bif (cutOk (some (2 : Int)) none (List.length y1)) then
 (c_host_all ((cutList (some (2 : Int)) none y1), ([(48 : UInt8), (49 : UInt8), (50 : UInt8), (51 : UInt8), (52 : UInt8), (53 : UInt8), (54 : UInt8), (55 : UInt8), (56 : UInt8), (57 : UInt8), (97 : UInt8), (98 : UInt8), (99 : UInt8), (100 : UInt8), (101 : UInt8), (102 : UInt8)] : List UInt8))).bind fun y3 =>
 some y3
 else
 none
 else
 bif (!(y1 == ([] : List UInt8))) then
 (c_host_all (y1, ([(48 : UInt8), (49 : UInt8), (50 : UInt8), (51 : UInt8), (52 : UInt8), (53 : UInt8), (54 : UInt8), (55 : UInt8), (56 : UInt8), (57 : UInt8)] : List UInt8))).bind fun y3 =>
 some y3
 else
 some false
 else
 none := by unfold Z8; rewrite [Run_unfold]; kernel_rfl
theorem c_host_parts_eq (x : List UInt8) : c_host_parts x =
 Z9 x := by kernel_rfl
theorem Z9_eq (s0 : List UInt8) : Z9 s0 =
 (c_octets_Split (s0, (46 : Int))).bind fun y0 =>
 bif (decide ((((List.length y0) : Nat) : Int) > (1 : Int))) then
 bif (inside (IntKind.wrap IntKind.i64 ((((List.length y0) : Nat) : Int) - (1 : Int))) (List.length y0)) then
 bif ((List.getD y0 (Int.toNat (IntKind.wrap IntKind.i64 ((((List.length y0) : Nat) : Int) - (1 : Int)))) (Ty.zero .str)) == ([] : List UInt8)) then
 bif (cutOk none (some (IntKind.wrap IntKind.i64 ((((List.length y0) : Nat) : Int) - (1 : Int)))) (List.length y0)) then
 some (List.take (Option.getD (Option.map (Int.toNat) (some (IntKind.wrap IntKind.i64 ((((List.length y0) : Nat) : Int) - (1 : Int))))) (List.length y0)) y0)
 else
 none
 else
 some y0
 else
 none
 else
 some y0 := by unfold Z9; rewrite [Run_unfold]; kernel_rfl
theorem c_host_number_eq (x : List UInt8) : c_host_number x =
 Za x := by kernel_rfl
theorem Za_eq (s0 : List UInt8) : Za s0 =
 bif (decide ((((List.length s0) : Nat) : Int) ≥ (2 : Int))) then
 bif (inside (0 : Int) (List.length s0)) then
 bif ((((UInt8.toNat (List.getD s0 (Int.toNat (0 : Int)) (0 : UInt8))) : Nat) : Int) == (48 : Int)) then
 bif (inside (1 : Int) (List.length s0)) then
 bif ((bits Go.BinOp.or IntKind.u8 (((UInt8.toNat (List.getD s0 (Int.toNat (1 : Int)) (0 : UInt8))) : Nat) : Int) (32 : Int)) == (120 : Int)) then
 bif (cutOk (some (2 : Int)) none (List.length s0)) then
 Zb (cutList (some (2 : Int)) none s0) (16 : Int)
 else
 none
 else
 bif (decide ((((List.length s0) : Nat) : Int) ≥ (2 : Int))) then
 bif (inside (0 : Int) (List.length s0)) then
 bif ((((UInt8.toNat (List.getD s0 (Int.toNat (0 : Int)) (0 : UInt8))) : Nat) : Int) == (48 : Int)) then
 bif (cutOk (some (1 : Int)) none (List.length s0)) then
 Zc (cutList (some (1 : Int)) none s0) (8 : Int)
 else
 none
 else
 bif (s0 == ([] : List UInt8)) then
 some ((0 : Int), false)
 else
 Zc s0 (10 : Int)
 else
 none
 else
 bif (s0 == ([] : List UInt8)) then
 some ((0 : Int), false)
 else
 Zc s0 (10 : Int)
 else
 none
 else
 bif (decide ((((List.length s0) : Nat) : Int) ≥ (2 : Int))) then
 bif (inside (0 : Int) (List.length s0)) then
 bif ((((UInt8.toNat (List.getD s0 (Int.toNat (0 : Int)) (0 : UInt8))) : Nat) : Int) == (48 : Int)) then
 bif (cutOk (some (1 : Int)) none (List.length s0)) then
 Zc (cutList (some (1 : Int)) none s0) (8 : Int)
 else
 none
 else
 bif (s0 == ([] : List UInt8)) then
 some ((0 : Int), false)
 else
 Zc s0 (10 : Int)
 else
 none
 else
 bif (s0 == ([] : List UInt8)) then
 some ((0 : Int), false)
 else
 Zc s0 (10 : Int)
 else
 none
 else
 bif (decide ((((List.length s0) : Nat) : Int) ≥ (2 : Int))) then
 bif (inside (0 : Int) (List.length s0)) then
 bif ((((UInt8.toNat (List.getD s0 (Int.toNat (0 : Int)) (0 : UInt8))) : Nat) : Int) == (48 : Int)) then
 bif (cutOk (some (1 : Int)) none (List.length s0)) then
 Zc (cutList (some (1 : Int)) none s0) (8 : Int)
 else
 none
 else
 bif (s0 == ([] : List UInt8)) then
 some ((0 : Int), false)
 else
 Zc s0 (10 : Int)
 else
 none
 else
 bif (s0 == ([] : List UInt8)) then
 some ((0 : Int), false)
 else
 Zc s0 (10 : Int) := by unfold Za; rewrite [Run_unfold]; kernel_rfl
theorem Zb_eq (s0 : List UInt8) (s1 : Int) : Zb s0 s1 =
 Zd s0 s1 (0 : Int) (((List.length s0) : Nat) : Int) (0 : Int) := by unfold Zb; rewrite [Run_unfold]; kernel_rfl
theorem Zc_eq (s0 : List UInt8) (s1 : Int) : Zc s0 s1 =
 Zb s0 s1 := by unfold Zc; rewrite [Run_unfold]; kernel_rfl
theorem Zd_eq (s0 : List UInt8) (s1 : Int) (s2 : Int) (s3 : Int) (s4 : Int) : Zd s0 s1 s2 s3 s4 =
 bif (decide (s4 < s3)) then
 bif (cutOk (some s4) (some (IntKind.wrap IntKind.i64 (s4 + (1 : Int)))) (List.length s0)) then
 (c_octets_Lower (cutList (some s4) (some (IntKind.wrap IntKind.i64 (s4 + (1 : Int)))) s0)).bind fun y0 =>
 bif (inside (0 : Int) (List.length y0)) then
 (c_strings_IndexByte (([(48 : UInt8), (49 : UInt8), (50 : UInt8), (51 : UInt8), (52 : UInt8), (53 : UInt8), (54 : UInt8), (55 : UInt8), (56 : UInt8), (57 : UInt8), (97 : UInt8), (98 : UInt8), (99 : UInt8), (100 : UInt8), (101 : UInt8), (102 : UInt8)] : List UInt8), (((UInt8.toNat (List.getD y0 (Int.toNat (0 : Int)) (0 : UInt8))) : Nat) : Int))).bind fun y1 =>
 bif (decide (y1 < (0 : Int))) then
 some ((0 : Int), false)
 else
 bif (decide (y1 ≥ s1)) then
 some ((0 : Int), false)
 else
 Zd s0 s1 (if ((IntKind.wrap IntKind.i64 ((IntKind.wrap IntKind.i64 (s2 * s1)) + y1)) < (1099511627776 : Int)) then (IntKind.wrap IntKind.i64 ((IntKind.wrap IntKind.i64 (s2 * s1)) + y1)) else (1099511627776 : Int)) s3 (IntKind.wrap IntKind.i64 (s4 + (1 : Int)))
 else
 none
 else
 none
 else
 some (s2, true) := by unfold Zd; rewrite [Run_unfold]; kernel_rfl
theorem c_strings_Cut_eq (x : (List UInt8 × List UInt8)) : c_strings_Cut x =
 Ze x.1 x.2 := by kernel_rfl
theorem Ze_eq (s0 : List UInt8) (s1 : List UInt8) : Ze s0 s1 =
 (c_istringslite_Cut (s0, s1)).bind fun y0 =>
 some (y0.1, (y0.2.1, y0.2.2)) := by unfold Ze; rewrite [Run_unfold]; kernel_rfl
theorem c_host_pieces_eq (x : (List UInt8 × Bool)) : c_host_pieces x =
 Zf x.1 x.2 := by kernel_rfl
theorem Zf_eq (s0 : List UInt8) (s1 : Bool) : Zf s0 s1 =
 bif (s0 == ([] : List UInt8)) then
 some (([] : List Int), true)
 else
 (c_octets_Split (s0, (58 : Int))).bind fun y0 =>
 Zg s0 s1 (((List.length y0) : Nat) : Int) (0 : Int) ([] : List Int) y0 := by unfold Zf; rewrite [Run_unfold]; kernel_rfl
theorem Zg_eq (s0 : List UInt8) (s1 : Bool) (s2 : Int) (s3 : Int) (r4 : List Int) (r5 : List (List UInt8)) : Zg s0 s1 s2 s3 r4 r5 =
 bif (decide (s3 < s2)) then
 bif (inside s3 (List.length r5)) then
 bif s1 then
 bif (s3 == (IntKind.wrap IntKind.i64 ((((List.length r5) : Nat) : Int) - (1 : Int)))) then
 (c_strings_Contains ((List.getD r5 (Int.toNat s3) (Ty.zero .str)), ([(46 : UInt8)] : List UInt8))).bind fun y0 =>
 bif y0 then
 (c_host_tail (List.getD r5 (Int.toNat s3) (Ty.zero .str))).bind fun y1 =>
 bif (decide (((List.length r4) + (List.length y1.1)) ≤ (lim))) then
 some ((r4 ++ y1.1), y1.2)
 else
 none
 else
 bif ((List.getD r5 (Int.toNat s3) (Ty.zero .str)) == ([] : List UInt8)) then
 some (([] : List Int), false)
 else
 bif (decide ((((List.length (List.getD r5 (Int.toNat s3) (Ty.zero .str))) : Nat) : Int) > (4 : Int))) then
 some (([] : List Int), false)
 else
 bif (decide (((List.length ([(48 : UInt8), (120 : UInt8)] : List UInt8)) + (List.length (List.getD r5 (Int.toNat s3) (Ty.zero .str)))) ≤ (2 ^ 62))) then
 (c_host_number (([(48 : UInt8), (120 : UInt8)] : List UInt8) ++ (List.getD r5 (Int.toNat s3) (Ty.zero .str)))).bind fun y1 =>
 bif (!y1.2) then
 some (([] : List Int), false)
 else
 bif (decide (((List.length r4) + (List.length ([(IntKind.wrap IntKind.u16 y1.1)] : List Int))) ≤ (lim))) then
 Zg s0 s1 s2 (IntKind.wrap IntKind.i64 (s3 + (1 : Int))) (r4 ++ ([(IntKind.wrap IntKind.u16 y1.1)] : List Int)) r5
 else
 none
 else
 none
 else
 bif ((List.getD r5 (Int.toNat s3) (Ty.zero .str)) == ([] : List UInt8)) then
 some (([] : List Int), false)
 else
 bif (decide ((((List.length (List.getD r5 (Int.toNat s3) (Ty.zero .str))) : Nat) : Int) > (4 : Int))) then
 some (([] : List Int), false)
 else
 bif (decide (((List.length ([(48 : UInt8), (120 : UInt8)] : List UInt8)) + (List.length (List.getD r5 (Int.toNat s3) (Ty.zero .str)))) ≤ (2 ^ 62))) then
 (c_host_number (([(48 : UInt8), (120 : UInt8)] : List UInt8) ++ (List.getD r5 (Int.toNat s3) (Ty.zero .str)))).bind fun y0 =>
 bif (!y0.2) then
 some (([] : List Int), false)
 else
 bif (decide (((List.length r4) + (List.length ([(IntKind.wrap IntKind.u16 y0.1)] : List Int))) ≤ (lim))) then
 Zg s0 s1 s2 (IntKind.wrap IntKind.i64 (s3 + (1 : Int))) (r4 ++ ([(IntKind.wrap IntKind.u16 y0.1)] : List Int)) r5
 else
 none
 else
 none
 else
 bif ((List.getD r5 (Int.toNat s3) (Ty.zero .str)) == ([] : List UInt8)) then
 some (([] : List Int), false)
 else
 bif (decide ((((List.length (List.getD r5 (Int.toNat s3) (Ty.zero .str))) : Nat) : Int) > (4 : Int))) then
 some (([] : List Int), false)
 else
 bif (decide (((List.length ([(48 : UInt8), (120 : UInt8)] : List UInt8)) + (List.length (List.getD r5 (Int.toNat s3) (Ty.zero .str)))) ≤ (2 ^ 62))) then
 (c_host_number (([(48 : UInt8), (120 : UInt8)] : List UInt8) ++ (List.getD r5 (Int.toNat s3) (Ty.zero .str)))).bind fun y0 =>
 bif (!y0.2) then
 some (([] : List Int), false)
 else
 bif (decide (((List.length r4) + (List.length ([(IntKind.wrap IntKind.u16 y0.1)] : List Int))) ≤ (lim))) then
 Zg s0 s1 s2 (IntKind.wrap IntKind.i64 (s3 + (1 : Int))) (r4 ++ ([(IntKind.wrap IntKind.u16 y0.1)] : List Int)) r5
 else
 none
 else
 none
 else
 none
 else
 some (r4, true) := by unfold Zg; rewrite [Run_unfold]; kernel_rfl
theorem c_octets_Lower_eq (x : List UInt8) : c_octets_Lower x =
 Zh x := by kernel_rfl
theorem Zh_eq (s0 : List UInt8) : Zh s0 =
 (c_octets_turned (s0, ((65 : Int), (90 : Int)))).bind fun y0 =>
 some y0 := by unfold Zh; rewrite [Run_unfold]; kernel_rfl
theorem c_strings_HasPrefix_eq (x : (List UInt8 × List UInt8)) : c_strings_HasPrefix x =
 Zi x.1 x.2 := by kernel_rfl
theorem Zi_eq (s0 : List UInt8) (s1 : List UInt8) : Zi s0 s1 =
 (c_istringslite_HasPrefix (s0, s1)).bind fun y0 =>
 some y0 := by unfold Zi; rewrite [Run_unfold]; kernel_rfl
theorem c_host_all_eq (x : (List UInt8 × List UInt8)) : c_host_all x =
 Zj x.1 x.2 := by kernel_rfl
theorem Zj_eq (s0 : List UInt8) (s1 : List UInt8) : Zj s0 s1 =
 (c_host_cutLeft (s0, s1)).bind fun y0 =>
 (c_host_cutRight (y0, s1)).bind fun y1 =>
 some (y1 == ([] : List UInt8)) := by unfold Zj; rewrite [Run_unfold]; kernel_rfl
theorem c_octets_Split_eq (x : (List UInt8 × Int)) : c_octets_Split x =
 Zk x.1 x.2 := by kernel_rfl
theorem Zk_eq (s0 : List UInt8) (s1 : Int) : Zk s0 s1 =
 Zl s0 s1 (0 : Int) (((List.length s0) : Nat) : Int) (0 : Int) ([] : List (List UInt8)) := by unfold Zk; rewrite [Run_unfold]; kernel_rfl
theorem Zl_eq (s0 : List UInt8) (s1 : Int) (s2 : Int) (s3 : Int) (s4 : Int) (r5 : List (List UInt8)) : Zl s0 s1 s2 s3 s4 r5 =
 bif (decide (s4 < s3)) then
 bif (inside s4 (List.length s0)) then
 bif ((((UInt8.toNat (List.getD s0 (Int.toNat s4) (0 : UInt8))) : Nat) : Int) == s1) then
 bif (cutOk (some s2) (some s4) (List.length s0)) then
 bif (decide (((List.length r5) + (List.length ([(cutList (some s2) (some s4) s0)] : List (List UInt8)))) ≤ (lim))) then
 Zl s0 s1 (IntKind.wrap IntKind.i64 (s4 + (1 : Int))) s3 (IntKind.wrap IntKind.i64 (s4 + (1 : Int))) (r5 ++ ([(cutList (some s2) (some s4) s0)] : List (List UInt8)))
 else
 none
 else
 none
 else
 Zl s0 s1 s2 s3 (IntKind.wrap IntKind.i64 (s4 + (1 : Int))) r5
 else
 none
 else
 bif (cutOk (some s2) none (List.length s0)) then
 bif (decide (((List.length r5) + (List.length ([(cutList (some s2) none s0)] : List (List UInt8)))) ≤ (lim))) then
 some (r5 ++ ([(cutList (some s2) none s0)] : List (List UInt8)))
 else
 none
 else
 none := by unfold Zl; rewrite [Run_unfold]; kernel_rfl
theorem c_istringslite_Cut_eq (x : (List UInt8 × List UInt8)) : c_istringslite_Cut x =
 Zm x.1 x.2 := by kernel_rfl
theorem Zm_eq (s0 : List UInt8) (s1 : List UInt8) : Zm s0 s1 =
 (c_istringslite_Index (s0, s1)).bind fun y0 =>
 bif (decide (y0 ≥ (0 : Int))) then
 bif (cutOk none (some y0) (List.length s0)) then
 bif (cutOk (some (IntKind.wrap IntKind.i64 (y0 + (((List.length s1) : Nat) : Int)))) none (List.length s0)) then
 some ((cutList none (some y0) s0), ((cutList (some (IntKind.wrap IntKind.i64 (y0 + (((List.length s1) : Nat) : Int)))) none s0), true))
 else
 none
 else
 none
 else
 some (s0, (([] : List UInt8), false)) := by unfold Zm; rewrite [Run_unfold]; kernel_rfl
theorem c_strings_Contains_eq (x : (List UInt8 × List UInt8)) : c_strings_Contains x =
 Zn x.1 x.2 := by kernel_rfl
theorem Zn_eq (s0 : List UInt8) (s1 : List UInt8) : Zn s0 s1 =
 (c_strings_Index (s0, s1)).bind fun y0 =>
 some (decide (y0 ≥ (0 : Int))) := by unfold Zn; rewrite [Run_unfold]; kernel_rfl
theorem c_host_tail_eq (x : List UInt8) : c_host_tail x =
 Zo x := by kernel_rfl
theorem Zo_eq (s0 : List UInt8) : Zo s0 =
 (c_octets_Split (s0, (46 : Int))).bind fun y0 =>
 bif ((((List.length y0) : Nat) : Int) != (4 : Int)) then
 some (([] : List Int), false)
 else
 Zp s0 (((List.length y0) : Nat) : Int) (0 : Int) (Ty.zero (.arr 4 (.int .u16))) y0 := by unfold Zo; rewrite [Run_unfold]; kernel_rfl
theorem Zp_eq (s0 : List UInt8) (s1 : Int) (s2 : Int) (b3 : (List Int)) (r4 : List (List UInt8)) : Zp s0 s1 s2 b3 r4 =
 bif (decide (s2 < s1)) then
 bif (inside s2 (List.length r4)) then
 bif ((List.getD r4 (Int.toNat s2) (Ty.zero .str)) == ([] : List UInt8)) then
 some (([] : List Int), false)
 else
 bif (decide ((((List.length (List.getD r4 (Int.toNat s2) (Ty.zero .str))) : Nat) : Int) > (3 : Int))) then
 some (([] : List Int), false)
 else
 (c_host_all ((List.getD r4 (Int.toNat s2) (Ty.zero .str)), ([(48 : UInt8), (49 : UInt8), (50 : UInt8), (51 : UInt8), (52 : UInt8), (53 : UInt8), (54 : UInt8), (55 : UInt8), (56 : UInt8), (57 : UInt8)] : List UInt8))).bind fun y0 =>
 bif (!y0) then
 some (([] : List Int), false)
 else
 bif (inside (0 : Int) (List.length (List.getD r4 (Int.toNat s2) (Ty.zero .str)))) then
 bif ((((UInt8.toNat (List.getD (List.getD r4 (Int.toNat s2) (Ty.zero .str)) (Int.toNat (0 : Int)) (0 : UInt8))) : Nat) : Int) == (48 : Int)) then
 bif (decide ((((List.length (List.getD r4 (Int.toNat s2) (Ty.zero .str))) : Nat) : Int) > (1 : Int))) then
 some (([] : List Int), false)
 else
 Zq s0 s2 (List.getD r4 (Int.toNat s2) (Ty.zero .str)) s1 s2 (((List.length (List.getD r4 (Int.toNat s2) (Ty.zero .str))) : Nat) : Int) (0 : Int) b3 r4
 else
 Zq s0 s2 (List.getD r4 (Int.toNat s2) (Ty.zero .str)) s1 s2 (((List.length (List.getD r4 (Int.toNat s2) (Ty.zero .str))) : Nat) : Int) (0 : Int) b3 r4
 else
 none
 else
 none
 else
 some (([(bits Go.BinOp.or IntKind.u16 (shl IntKind.u16 (List.getD b3 (Int.toNat (0 : Int)) (Ty.zero (.int .u16))) (8 : Int)) (List.getD b3 (Int.toNat (1 : Int)) (Ty.zero (.int .u16)))), (bits Go.BinOp.or IntKind.u16 (shl IntKind.u16 (List.getD b3 (Int.toNat (2 : Int)) (Ty.zero (.int .u16))) (8 : Int)) (List.getD b3 (Int.toNat (3 : Int)) (Ty.zero (.int .u16))))] : List Int), true) := by unfold Zp; rewrite [Run_unfold]; kernel_rfl
theorem Zq_eq (s0 : List UInt8) (s1 : Int) (s2 : List UInt8) (s3 : Int) (s4 : Int) (s5 : Int) (s6 : Int) (b7 : (List Int)) (r8 : List (List UInt8)) : Zq s0 s1 s2 s3 s4 s5 s6 b7 r8 =
 bif (decide (s6 < s5)) then
 bif (inside s1 4) then
 bif (inside s6 (List.length s2)) then
 bif (inside s1 4) then
 Zq s0 s1 s2 s3 s4 s5 (IntKind.wrap IntKind.i64 (s6 + (1 : Int))) (List.set b7 (Int.toNat s1) (IntKind.wrap IntKind.u16 ((IntKind.wrap IntKind.u16 ((10 : Int) * (List.getD b7 (Int.toNat s1) (Ty.zero (.int .u16))))) + (IntKind.wrap IntKind.u16 (IntKind.wrap IntKind.u8 ((((UInt8.toNat (List.getD s2 (Int.toNat s6) (0 : UInt8))) : Nat) : Int) - (48 : Int))))))) r8
 else
 none
 else
 none
 else
 none
 else
 bif (inside s1 4) then
 bif (decide ((List.getD b7 (Int.toNat s1) (Ty.zero (.int .u16))) > (255 : Int))) then
 some (([] : List Int), false)
 else
 Zp s0 s3 (IntKind.wrap IntKind.i64 (s4 + (1 : Int))) b7 r8
 else
 none := by unfold Zq; rewrite [Run_unfold]; kernel_rfl
theorem c_ref01_Has_eq (x : (List UInt8 × Int)) : c_ref01_Has x =
 Zr x.1 x.2 := by kernel_rfl
theorem Zr_eq (s0 : List UInt8) (s1 : Int) : Zr s0 s1 =
 Zs s0 s1 (0 : Int) := by unfold Zr; rewrite [Run_unfold]; kernel_rfl
theorem Zs_eq (s0 : List UInt8) (s1 : Int) (s2 : Int) : Zs s0 s1 s2 =
 bif (decide (s2 < (((List.length s0) : Nat) : Int))) then
 bif (inside s2 (List.length s0)) then
 bif ((((UInt8.toNat (List.getD s0 (Int.toNat s2) (0 : UInt8))) : Nat) : Int) == s1) then
 some true
 else
 Zs s0 s1 (IntKind.wrap IntKind.i64 (s2 + (1 : Int)))
 else
 none
 else
 some false := by unfold Zs; rewrite [Run_unfold]; kernel_rfl
theorem c_octets_turned_eq (x : (List UInt8 × (Int × Int))) : c_octets_turned x =
 Zt x.1 x.2.1 x.2.2 := by kernel_rfl
theorem Zt_eq (s0 : List UInt8) (s1 : Int) (s2 : Int) : Zt s0 s1 s2 =
 Zu s0 s1 s2 (((List.length (bytesOf s0)) : Nat) : Int) (0 : Int) (bytesOf s0) := by unfold Zt; rewrite [Run_unfold]; kernel_rfl
theorem Zu_eq (s0 : List UInt8) (s1 : Int) (s2 : Int) (s3 : Int) (s4 : Int) (r5 : List Int) : Zu s0 s1 s2 s3 s4 r5 =
 bif (decide (s4 < s3)) then
 bif (inside s4 (List.length r5)) then
 bif (decide ((List.getD r5 (Int.toNat s4) (Ty.zero (.int .u8))) ≥ s1)) then
 bif (decide ((List.getD r5 (Int.toNat s4) (Ty.zero (.int .u8))) ≤ s2)) then
 bif (inside s4 (List.length r5)) then
 Zu s0 s1 s2 s3 (IntKind.wrap IntKind.i64 (s4 + (1 : Int))) (List.set r5 (Int.toNat s4) (bits Go.BinOp.xor IntKind.u8 (List.getD r5 (Int.toNat s4) (Ty.zero (.int .u8))) (32 : Int)))
 else
 none
 else
 Zu s0 s1 s2 s3 (IntKind.wrap IntKind.i64 (s4 + (1 : Int))) r5
 else
 Zu s0 s1 s2 s3 (IntKind.wrap IntKind.i64 (s4 + (1 : Int))) r5
 else
 none
 else
 some (strOf r5) := by unfold Zu; rewrite [Run_unfold]; kernel_rfl
theorem c_istringslite_HasPrefix_eq (x : (List UInt8 × List UInt8)) : c_istringslite_HasPrefix x =
 Zv x.1 x.2 := by kernel_rfl
theorem Zv_eq (s0 : List UInt8) (s1 : List UInt8) : Zv s0 s1 =
 bif (decide ((((List.length s0) : Nat) : Int) ≥ (((List.length s1) : Nat) : Int))) then
 bif (cutOk none (some (((List.length s1) : Nat) : Int)) (List.length s0)) then
 some ((cutList none (some (((List.length s1) : Nat) : Int)) s0) == s1)
 else
 none
 else
 some false := by unfold Zv; rewrite [Run_unfold]; kernel_rfl
theorem c_host_cutLeft_eq (x : (List UInt8 × List UInt8)) : c_host_cutLeft x =
 Zw x.1 x.2 := by kernel_rfl
theorem Zw_eq (s0 : List UInt8) (s1 : List UInt8) : Zw s0 s1 =
 Zx s0 s1 s0 0 := by unfold Zw; rewrite [Run_unfold]; kernel_rfl
theorem Zx_eq (s0 : List UInt8) (s1 : List UInt8) (t2 : List UInt8) (n3 : Nat) : Zx s0 s1 t2 n3 =
 bif (decide (n3 < (List.length t2))) then
 Zy s0 s1 ((n3 : Nat) : Int) (((decRune t2 n3).1 : Nat) : Int) false t2 (n3 + (decRune t2 n3).2) s1 0
 else
 some ([] : List UInt8) := by unfold Zx; rewrite [Run_unfold]; kernel_rfl
theorem Zy_eq (s0 : List UInt8) (s1 : List UInt8) (s2 : Int) (s3 : Int) (s4 : Bool) (t5 : List UInt8) (n6 : Nat) (t7 : List UInt8) (n8 : Nat) : Zy s0 s1 s2 s3 s4 t5 n6 t7 n8 =
 bif (decide (n8 < (List.length t7))) then
 bif s4 then
 Zy s0 s1 s2 s3 true t5 n6 t7 (n8 + (decRune t7 n8).2)
 else
 Zy s0 s1 s2 s3 (s3 == (((decRune t7 n8).1 : Nat) : Int)) t5 n6 t7 (n8 + (decRune t7 n8).2)
 else
 bif (!s4) then
 bif (cutOk (some s2) none (List.length s0)) then
 some (cutList (some s2) none s0)
 else
 none
 else
 Zx s0 s1 t5 n6 := by unfold Zy; rewrite [Run_unfold]; kernel_rfl
theorem c_host_cutRight_eq (x : (List UInt8 × List UInt8)) : c_host_cutRight x =
 Zz x.1 x.2 := by kernel_rfl
theorem Zz_eq (s0 : List UInt8) (s1 : List UInt8) : Zz s0 s1 =
 Z01 s0 s1 := by unfold Zz; rewrite [Run_unfold]; kernel_rfl
theorem Z01_eq (s0 : List UInt8) (s1 : List UInt8) : Z01 s0 s1 =
 bif (decide ((((List.length s0) : Nat) : Int) > (0 : Int))) then
 (c_utf8_DecodeLastRuneInString s0).bind fun y0 =>
 Z11 s0 s1 y0.1 y0.2 false s1 0
 else
 some s0 := by unfold Z01; rewrite [Run_unfold]; kernel_rfl
theorem Z11_eq (s0 : List UInt8) (s1 : List UInt8) (s2 : Int) (s3 : Int) (s4 : Bool) (t5 : List UInt8) (n6 : Nat) : Z11 s0 s1 s2 s3 s4 t5 n6 =
 bif (decide (n6 < (List.length t5))) then
 bif s4 then
 Z11 s0 s1 s2 s3 true t5 (n6 + (decRune t5 n6).2)
 else
 Z11 s0 s1 s2 s3 (s2 == (((decRune t5 n6).1 : Nat) : Int)) t5 (n6 + (decRune t5 n6).2)
 else
 bif (!s4) then
 some s0
 else
 bif (cutOk none (some (IntKind.wrap IntKind.i64 ((((List.length s0) : Nat) : Int) - s3))) (List.length s0)) then
 Z01 (cutList none (some (IntKind.wrap IntKind.i64 ((((List.length s0) : Nat) : Int) - s3))) s0) s1
 else
 none := by unfold Z11; rewrite [Run_unfold]; kernel_rfl
theorem c_utf8_DecodeLastRuneInString_eq (x : List UInt8) : c_utf8_DecodeLastRuneInString x = primDecodeLast x := by kernel_rfl
theorem c_strings_IndexByte_eq (x : (List UInt8 × Int)) : c_strings_IndexByte x = primIndexByte x := by kernel_rfl
theorem c_istringslite_Index_eq (x : (List UInt8 × List UInt8)) : c_istringslite_Index x = primIndex x := by kernel_rfl
theorem c_strings_Index_eq (x : (List UInt8 × List UInt8)) : c_strings_Index x = primIndex x := by kernel_rfl
end
end Go.Abs
