/- Part Q1 of the proof: see the last text of the claim. No condition of its own. -/
import Derived.Test.YtddagflhafkbnaaGreatDoorK8
import Derived.Test.YtddagflhafkbnaaGreatDoorE1
set_option linter.all false
namespace Go.Abs
set_option autoImplicit false
set_option linter.all false
noncomputable def c_law05_alive (x : Unit) : Option Bool := Abs.Call E 47 x
noncomputable def c_law05_num (x : Int) : Option Int := Abs.Call E 44 x
noncomputable def p_law05_num_0 (s0_0 : Int) : Option Int := (Abs.Run E 44 (E.at 44 []) ⟨mkSlots [(0, (.val (.int .i64) s0_0))], assocB [], assocR []⟩)
noncomputable def c_octets_Lower (x : List UInt8) : Option (List UInt8) := Abs.Call E 119 x
noncomputable def p_octets_Lower_0 (s0_0 : List UInt8) : Option (List UInt8) := (Abs.Run E 119 (E.at 119 []) ⟨mkSlots [(0, (.val .str s0_0))], assocB [], assocR []⟩)
noncomputable def c_strings_HasPrefix (x : (List UInt8 × List UInt8)) : Option Bool := Abs.Call E 120 x
noncomputable def p_strings_HasPrefix_0 (s0_0 : List UInt8) (s1_1 : List UInt8) : Option Bool := (Abs.Run E 120 (E.at 120 []) ⟨mkSlots [(1, (.val .str s1_1)), (0, (.val .str s0_0))], assocB [], assocR []⟩)
noncomputable def c_octets_Split (x : (List UInt8 × Int)) : Option (List (List UInt8)) := Abs.Call E 142 x
noncomputable def p_octets_Split_0 (s0_0 : List UInt8) (s1_1 : Int) : Option (List (List UInt8)) := (Abs.Run E 142 (E.at 142 []) ⟨mkSlots [(1, (.val (.int .u8) s1_1)), (0, (.val .str s0_0))], assocB [], assocR []⟩)
noncomputable def p_octets_Split_1 (s0_0 : List UInt8) (s1_1 : Int) (s6_2 : Int) (s9_3 : Int) (s10_4 : Int) (r0_5 : List (List UInt8)) : Option (List (List UInt8)) := (Abs.Run E 142 (E.at 142 [1, 1, 1, 0, 1, 0, 7]) ⟨mkSlots [(0, (.val .str s0_0)), (1, (.val (.int .u8) s1_1)), (5, (.row 0)), (6, (.val (.int .i64) s6_2)), (9, (.val (.int .i64) s9_3)), (10, (.val (.int .i64) s10_4))], mkBoxes [], mkRows [.mk .str .live r0_5]⟩)
noncomputable def c_octets_turned (x : (List UInt8 × (Int × Int))) : Option (List UInt8) := Abs.Call E 129 x
noncomputable def p_octets_turned_0 (s0_0 : List UInt8) (s1_1 : Int) (s2_2 : Int) : Option (List UInt8) := (Abs.Run E 129 (E.at 129 []) ⟨mkSlots [(2, (.val (.int .u8) s2_2)), (1, (.val (.int .u8) s1_1)), (0, (.val .str s0_0))], assocB [], assocR []⟩)
noncomputable def p_octets_turned_1 (s0_0 : List UInt8) (s1_1 : Int) (s2_2 : Int) (s13_3 : Int) (s14_4 : Int) (r0_5 : List Int) : Option (List UInt8) := (Abs.Run E 129 (E.at 129 [1, 1, 0, 1, 0, 7]) ⟨mkSlots [(0, (.val .str s0_0)), (1, (.val (.int .u8) s1_1)), (2, (.val (.int .u8) s2_2)), (7, (.row 0)), (12, (.row 0)), (13, (.val (.int .i64) s13_3)), (14, (.val (.int .i64) s14_4))], mkBoxes [], mkRows [.mk (.int .u8) .live r0_5]⟩)
noncomputable def c_istringslite_HasPrefix (x : (List UInt8 × List UInt8)) : Option Bool := Abs.Call E 173 x
noncomputable def p_istringslite_HasPrefix_0 (s0_0 : List UInt8) (s1_1 : List UInt8) : Option Bool := (Abs.Run E 173 (E.at 173 []) ⟨mkSlots [(1, (.val .str s1_1)), (0, (.val .str s0_0))], assocB [], assocR []⟩)
noncomputable def c_strings_IndexByte (x : (List UInt8 × Int)) : Option Int := Abs.Call E 126 x
theorem c_law05_num_eq (x : Int) : c_law05_num x =
    p_law05_num_0 x := by kernel_rfl
theorem p_law05_num_0_eq (s0_0 : Int) : p_law05_num_0 s0_0 =
    some s0_0 := of_eq (by kernel_rfl) (Run_unfold E 44 (E.at 44 []) ⟨mkSlots [(0, (.val (.int .i64) s0_0))], assocB [], assocR []⟩)
theorem c_octets_Lower_eq (x : List UInt8) : c_octets_Lower x =
    p_octets_Lower_0 x := by kernel_rfl
theorem p_octets_Lower_0_eq (s0_0 : List UInt8) : p_octets_Lower_0 s0_0 =
    (c_octets_turned (s0_0, ((65 : Int), (90 : Int)))).bind fun y0 =>
      some y0 := of_eq (by kernel_rfl) (Run_unfold E 119 (E.at 119 []) ⟨mkSlots [(0, (.val .str s0_0))], assocB [], assocR []⟩)
theorem c_strings_HasPrefix_eq (x : (List UInt8 × List UInt8)) : c_strings_HasPrefix x =
    p_strings_HasPrefix_0 x.1 x.2 := by kernel_rfl
theorem p_strings_HasPrefix_0_eq (s0_0 : List UInt8) (s1_1 : List UInt8) : p_strings_HasPrefix_0 s0_0 s1_1 =
    (c_istringslite_HasPrefix (s0_0, s1_1)).bind fun y0 =>
      some y0 := of_eq (by kernel_rfl) (Run_unfold E 120 (E.at 120 []) ⟨mkSlots [(1, (.val .str s1_1)), (0, (.val .str s0_0))], assocB [], assocR []⟩)
theorem c_octets_Split_eq (x : (List UInt8 × Int)) : c_octets_Split x =
    p_octets_Split_0 x.1 x.2 := by kernel_rfl
theorem p_octets_Split_0_eq (s0_0 : List UInt8) (s1_1 : Int) : p_octets_Split_0 s0_0 s1_1 =
    p_octets_Split_1 s0_0 s1_1 (0 : Int) (((List.length s0_0) : Nat) : Int) (0 : Int) ([] : List (List UInt8)) := of_eq (by kernel_rfl) (Run_unfold E 142 (E.at 142 []) ⟨mkSlots [(1, (.val (.int .u8) s1_1)), (0, (.val .str s0_0))], assocB [], assocR []⟩)
theorem p_octets_Split_1_eq (s0_0 : List UInt8) (s1_1 : Int) (s6_2 : Int) (s9_3 : Int) (s10_4 : Int) (r0_5 : List (List UInt8)) : p_octets_Split_1 s0_0 s1_1 s6_2 s9_3 s10_4 r0_5 =
    bif (decide (s10_4 < s9_3)) then
      bif (inside s10_4 (List.length s0_0)) then
        bif ((((UInt8.toNat (List.getD s0_0 (Int.toNat s10_4) (0 : UInt8))) : Nat) : Int) == s1_1) then
          bif (cutOk (some s6_2) (some s10_4) (List.length s0_0)) then
            bif (decide (((List.length r0_5) + (List.length ([(cutList (some s6_2) (some s10_4) s0_0)] : List (List UInt8)))) ≤ (lim))) then
              p_octets_Split_1 s0_0 s1_1 (IntKind.wrap IntKind.i64 (s10_4 + (1 : Int))) s9_3 (IntKind.wrap IntKind.i64 (s10_4 + (1 : Int))) (r0_5 ++ ([(cutList (some s6_2) (some s10_4) s0_0)] : List (List UInt8)))
            else
              none
          else
            none
        else
          p_octets_Split_1 s0_0 s1_1 s6_2 s9_3 (IntKind.wrap IntKind.i64 (s10_4 + (1 : Int))) r0_5
      else
        none
    else
      bif (cutOk (some s6_2) none (List.length s0_0)) then
        bif (decide (((List.length r0_5) + (List.length ([(cutList (some s6_2) none s0_0)] : List (List UInt8)))) ≤ (lim))) then
          some (r0_5 ++ ([(cutList (some s6_2) none s0_0)] : List (List UInt8)))
        else
          none
      else
        none := of_eq (by kernel_rfl) (Run_unfold E 142 (E.at 142 [1, 1, 1, 0, 1, 0, 7]) ⟨mkSlots [(0, (.val .str s0_0)), (1, (.val (.int .u8) s1_1)), (5, (.row 0)), (6, (.val (.int .i64) s6_2)), (9, (.val (.int .i64) s9_3)), (10, (.val (.int .i64) s10_4))], mkBoxes [], mkRows [.mk .str .live r0_5]⟩)
theorem c_octets_turned_eq (x : (List UInt8 × (Int × Int))) : c_octets_turned x =
    p_octets_turned_0 x.1 x.2.1 x.2.2 := by kernel_rfl
theorem p_octets_turned_0_eq (s0_0 : List UInt8) (s1_1 : Int) (s2_2 : Int) : p_octets_turned_0 s0_0 s1_1 s2_2 =
    p_octets_turned_1 s0_0 s1_1 s2_2 (((List.length (bytesOf s0_0)) : Nat) : Int) (0 : Int) (bytesOf s0_0) := of_eq (by kernel_rfl) (Run_unfold E 129 (E.at 129 []) ⟨mkSlots [(2, (.val (.int .u8) s2_2)), (1, (.val (.int .u8) s1_1)), (0, (.val .str s0_0))], assocB [], assocR []⟩)
theorem p_octets_turned_1_eq (s0_0 : List UInt8) (s1_1 : Int) (s2_2 : Int) (s13_3 : Int) (s14_4 : Int) (r0_5 : List Int) : p_octets_turned_1 s0_0 s1_1 s2_2 s13_3 s14_4 r0_5 =
    bif (decide (s14_4 < s13_3)) then
      bif (inside s14_4 (List.length r0_5)) then
        bif (decide ((List.getD r0_5 (Int.toNat s14_4) (Ty.zero (.int .u8))) ≥ s1_1)) then
          bif (decide ((List.getD r0_5 (Int.toNat s14_4) (Ty.zero (.int .u8))) ≤ s2_2)) then
            bif (inside s14_4 (List.length r0_5)) then
              p_octets_turned_1 s0_0 s1_1 s2_2 s13_3 (IntKind.wrap IntKind.i64 (s14_4 + (1 : Int))) (List.set r0_5 (Int.toNat s14_4) (bits Go.BinOp.xor IntKind.u8 (List.getD r0_5 (Int.toNat s14_4) (Ty.zero (.int .u8))) (32 : Int)))
            else
              none
          else
            p_octets_turned_1 s0_0 s1_1 s2_2 s13_3 (IntKind.wrap IntKind.i64 (s14_4 + (1 : Int))) r0_5
        else
          p_octets_turned_1 s0_0 s1_1 s2_2 s13_3 (IntKind.wrap IntKind.i64 (s14_4 + (1 : Int))) r0_5
      else
        none
    else
      some (strOf r0_5) := of_eq (by kernel_rfl) (Run_unfold E 129 (E.at 129 [1, 1, 0, 1, 0, 7]) ⟨mkSlots [(0, (.val .str s0_0)), (1, (.val (.int .u8) s1_1)), (2, (.val (.int .u8) s2_2)), (7, (.row 0)), (12, (.row 0)), (13, (.val (.int .i64) s13_3)), (14, (.val (.int .i64) s14_4))], mkBoxes [], mkRows [.mk (.int .u8) .live r0_5]⟩)
theorem c_istringslite_HasPrefix_eq (x : (List UInt8 × List UInt8)) : c_istringslite_HasPrefix x =
    p_istringslite_HasPrefix_0 x.1 x.2 := by kernel_rfl
theorem p_istringslite_HasPrefix_0_eq (s0_0 : List UInt8) (s1_1 : List UInt8) : p_istringslite_HasPrefix_0 s0_0 s1_1 =
    bif (decide ((((List.length s0_0) : Nat) : Int) ≥ (((List.length s1_1) : Nat) : Int))) then
      bif (cutOk none (some (((List.length s1_1) : Nat) : Int)) (List.length s0_0)) then
        some ((cutList none (some (((List.length s1_1) : Nat) : Int)) s0_0) == s1_1)
      else
        none
    else
      some false := of_eq (by kernel_rfl) (Run_unfold E 173 (E.at 173 []) ⟨mkSlots [(1, (.val .str s1_1)), (0, (.val .str s0_0))], assocB [], assocR []⟩)
theorem c_strings_IndexByte_eq (x : (List UInt8 × Int)) : c_strings_IndexByte x = primIndexByte x := by kernel_rfl
end Go.Abs
