/- Part Q2 of the proof: see the last text of the claim. No condition of its own. -/
import Derived.Test.YtddagflhafkbnaaGreatDoorQ1
set_option linter.all false
namespace Go.Abs
set_option autoImplicit false
set_option linter.all false
noncomputable def c_host_Parse (x : (List UInt8 × Bool)) : Option (D35 × Int) := Abs.Call E 48 x
noncomputable def c_istrconv_small (x : Int) : Option (List UInt8) := Abs.Call E 262 x
noncomputable def c_istrconv_numDigits (x : Int) : Option Int := Abs.Call E 263 x
noncomputable def c_istrconv_formatBase10 (x : ((List Int) × Int)) : Option Unit := Abs.Call E 264 x
noncomputable def c_bits_TrailingZeros64 (x : Int) : Option Int := Abs.Call E 296 x
noncomputable def c_law05_HostAddresses (x : (Int × (List Int))) : Option Bool := Abs.Call E 9 x
noncomputable def p_law05_HostAddresses_0 (s0_0 : Int) (s1_1 : (List Int)) : Option Bool := (Abs.Run E 9 (E.at 9 []) ⟨mkSlots [(1, (.val (.arr 8 (.int .u16)) s1_1)), (0, (.val (.int .u32) s0_0))], assocB [], assocR []⟩)
noncomputable def c_host_Print (x : D35) : Option (List UInt8 × Int) := Abs.Call E 49 x
noncomputable def p_host_Print_0 (s0_0 : D35) : Option (List UInt8 × Int) := (Abs.Run E 49 (E.at 49 []) ⟨mkSlots [(0, (.val T35 s0_0))], assocB [], assocR []⟩)
noncomputable def c_host_Check (x : D35) : Option Int := Abs.Call E 50 x
noncomputable def p_host_Check_0 (s0_0 : D35) : Option Int := (Abs.Run E 50 (E.at 50 []) ⟨mkSlots [(0, (.val T35 s0_0))], assocB [], assocR []⟩)
noncomputable def p_host_Check_1 (s0_0 : D35) (s8_1 : Int) (s9_2 : Bool) (b0_3 : D35) (b1_4 : D35) : Option Int := (Abs.Run E 50 (E.at 50 [1, 1, 0, 1, 0, 0, 1, 9]) ⟨mkSlots [(0, (.val T35 s0_0)), (1, (.addr (.box 0) [])), (3, (.addr (.box 1) [])), (8, (.val (.int .i64) s8_1)), (9, (.val .bool s9_2))], mkBoxes [.cells T35 .live (.val T35 b0_3), .cells T35 .live (.val T35 b1_4)], mkRows []⟩)
noncomputable def p_host_Check_2 (s0_0 : D35) (s8_1 : Int) (s9_2 : Bool) (b0_3 : D35) (b1_4 : D35) : Option Int := (Abs.Run E 50 (E.at 50 [1, 1, 0, 1, 0, 1, 9]) ⟨mkSlots [(0, (.val T35 s0_0)), (1, (.addr (.box 0) [])), (3, (.addr (.box 1) [])), (8, (.val (.int .i64) s8_1)), (9, (.val .bool s9_2))], mkBoxes [.cells T35 .live (.val T35 b0_3), .cells T35 .live (.val T35 b1_4)], mkRows []⟩)
noncomputable def p_host_Check_3 (s0_0 : D35) (b0_1 : D35) (b1_2 : D35) : Option Int := (Abs.Run E 50 (E.at 50 [1, 1, 0, 1, 0, 1, 1, 1, 9]) ⟨mkSlots [(0, (.val T35 s0_0)), (1, (.addr (.box 0) [])), (3, (.addr (.box 1) []))], mkBoxes [.cells T35 .live (.val T35 b0_1), .cells T35 .live (.val T35 b1_2)], mkRows []⟩)
noncomputable def p_host_Check_4 (s0_0 : D35) (b0_1 : D35) (b1_2 : D35) : Option Int := (Abs.Run E 50 (E.at 50 [1, 1, 0, 1, 0, 1, 1, 1, 1, 1, 9]) ⟨mkSlots [(0, (.val T35 s0_0)), (1, (.addr (.box 0) [])), (3, (.addr (.box 1) []))], mkBoxes [.cells T35 .live (.val T35 b0_1), .cells T35 .live (.val T35 b1_2)], mkRows []⟩)
noncomputable def p_host_Check_5 (s0_0 : D35) (s22_1 : Bool) (b0_2 : D35) (b1_3 : D35) : Option Int := (Abs.Run E 50 (E.at 50 [1, 1, 0, 1, 0, 1, 1, 1, 1, 1, 1, 0, 1, 9]) ⟨mkSlots [(0, (.val T35 s0_0)), (1, (.addr (.box 0) [])), (3, (.addr (.box 1) [])), (22, (.val .bool s22_1))], mkBoxes [.cells T35 .live (.val T35 b0_2), .cells T35 .live (.val T35 b1_3)], mkRows []⟩)
noncomputable def p_host_Check_6 (s0_0 : D35) (b0_1 : D35) (b1_2 : D35) : Option Int := (Abs.Run E 50 (E.at 50 [1, 1, 0, 1, 0, 1, 9]) ⟨mkSlots [(0, (.val T35 s0_0)), (1, (.addr (.box 0) [])), (3, (.addr (.box 1) [])), (8, .undef), (9, .undef)], mkBoxes [.cells T35 .live (.val T35 b0_1), .cells T35 .live (.val T35 b1_2)], mkRows []⟩)
noncomputable def p_host_Check_7 (s0_0 : D35) (s22_1 : Bool) (b0_2 : D35) (b1_3 : D35) : Option Int := (Abs.Run E 50 (E.at 50 [1, 1, 0, 1, 0, 1, 1, 1, 1, 1, 1, 1, 9]) ⟨mkSlots [(0, (.val T35 s0_0)), (1, (.addr (.box 0) [])), (3, (.addr (.box 1) [])), (22, (.val .bool s22_1))], mkBoxes [.cells T35 .live (.val T35 b0_2), .cells T35 .live (.val T35 b1_3)], mkRows []⟩)
noncomputable def c_host_four (x : Int) : Option (List UInt8) := Abs.Call E 127 x
noncomputable def p_host_four_0 (s0_0 : Int) : Option (List UInt8) := (Abs.Run E 127 (E.at 127 []) ⟨mkSlots [(0, (.val (.int .u32) s0_0))], assocB [], assocR []⟩)
noncomputable def p_host_four_1 (s0_0 : Int) (s4_1 : Int) (r0_2 : List (List UInt8)) : Option (List UInt8) := (Abs.Run E 127 (E.at 127 [1, 1, 0, 1, 0, 7]) ⟨mkSlots [(0, (.val (.int .u32) s0_0)), (3, (.row 0)), (4, (.val (.int .i64) s4_1))], mkBoxes [], mkRows [.mk .str .live r0_2]⟩)
noncomputable def c_host_six (x : (List Int)) : Option (List UInt8) := Abs.Call E 128 x
noncomputable def p_host_six_0 (s0_0 : (List Int)) : Option (List UInt8) := (Abs.Run E 128 (E.at 128 []) ⟨mkSlots [(0, (.val (.arr 8 (.int .u16)) s0_0))], assocB [], assocR []⟩)
noncomputable def c_strconv_Itoa (x : Int) : Option (List UInt8) := Abs.Call E 182 x
noncomputable def p_strconv_Itoa_0 (s0_0 : Int) : Option (List UInt8) := (Abs.Run E 182 (E.at 182 []) ⟨mkSlots [(0, (.val (.int .i64) s0_0))], assocB [], assocR []⟩)
noncomputable def c_host_run (x : (List Int)) : Option (Int × Int) := Abs.Call E 183 x
noncomputable def p_host_run_0 (s0_0 : (List Int)) : Option (Int × Int) := (Abs.Run E 183 (E.at 183 []) ⟨mkSlots [(0, (.val (.arr 8 (.int .u16)) s0_0))], assocB [], assocR []⟩)
noncomputable def p_host_run_1 (s0_0 : (List Int)) (s4_1 : Int) (s5_2 : Int) (s8_3 : Int) (b0_4 : (List Int)) : Option (Int × Int) := (Abs.Run E 183 (E.at 183 [1, 1, 0, 1, 0, 7]) ⟨mkSlots [(0, (.val (.arr 8 (.int .u16)) s0_0)), (1, (.addr (.box 0) [])), (4, (.val (.int .i64) s4_1)), (5, (.val (.int .i64) s5_2)), (8, (.val (.int .i64) s8_3))], mkBoxes [.cells (.arr 8 (.int .u16)) .live (.val (.arr 8 (.int .u16)) b0_4)], mkRows []⟩)
noncomputable def p_host_run_2 (s0_0 : (List Int)) (s4_1 : Int) (s5_2 : Int) (s6_3 : Int) (s7_4 : Int) (s8_5 : Int) (b0_6 : (List Int)) : Option (Int × Int) := (Abs.Run E 183 (E.at 183 [1, 1, 0, 1, 0, 0, 1, 1, 0, 0, 1, 1, 0, 0, 7]) ⟨mkSlots [(0, (.val (.arr 8 (.int .u16)) s0_0)), (1, (.addr (.box 0) [])), (4, (.val (.int .i64) s4_1)), (5, (.val (.int .i64) s5_2)), (6, (.val (.int .i64) s6_3)), (7, (.val (.int .i64) s7_4)), (8, (.val (.int .i64) s8_5))], mkBoxes [.cells (.arr 8 (.int .u16)) .live (.val (.arr 8 (.int .u16)) b0_6)], mkRows []⟩)
noncomputable def c_host_six_1 (x : (List Int)) : Option (List UInt8) := Abs.Call E 184 x
noncomputable def p_host_six_1_0 (s0_0 : (List Int)) : Option (List UInt8) := (Abs.Run E 184 (E.at 184 []) ⟨mkSlots [(0, (.val (.sl false (.int .u16)) s0_0))], assocB [], assocR []⟩)
noncomputable def p_host_six_1_1 (s0_0 : (List Int)) (s6_1 : (List Int)) (s7_2 : Int) (s8_3 : Int) (r0_4 : List (List UInt8)) : Option (List UInt8) := (Abs.Run E 184 (E.at 184 [1, 1, 0, 1, 0, 7]) ⟨mkSlots [(0, (.val (.sl false (.int .u16)) s0_0)), (3, (.row 0)), (6, (.val (.sl false (.int .u16)) s6_1)), (7, (.val (.int .i64) s7_2)), (8, (.val (.int .i64) s8_3))], mkBoxes [], mkRows [.mk .str .live r0_4]⟩)
noncomputable def c_strconv_FormatUint (x : (Int × Int)) : Option (List UInt8) := Abs.Call E 185 x
noncomputable def p_strconv_FormatUint_0 (s0_0 : Int) (s1_1 : Int) : Option (List UInt8) := (Abs.Run E 185 (E.at 185 []) ⟨mkSlots [(1, (.val (.int .i64) s1_1)), (0, (.val (.int .u64) s0_0))], assocB [], assocR []⟩)
noncomputable def c_istrconv_FormatUint (x : (Int × Int)) : Option (List UInt8) := Abs.Call E 228 x
noncomputable def p_istrconv_FormatUint_0 (s0_0 : Int) (s1_1 : Int) : Option (List UInt8) := (Abs.Run E 228 (E.at 228 []) ⟨mkSlots [(1, (.val (.int .i64) s1_1)), (0, (.val (.int .u64) s0_0))], assocB [], assocR []⟩)
noncomputable def c_istrconv_formatBits (x : ((List Int) × (Int × (Int × (Bool × Bool))))) : Option ((List Int) × List UInt8) := Abs.Call E 265 x
noncomputable def p_istrconv_formatBits_0 (s0_0 : (List Int)) (s1_1 : Int) (s2_2 : Int) (s3_3 : Bool) (s4_4 : Bool) : Option ((List Int) × List UInt8) := (Abs.Run E 265 (E.at 265 []) ⟨mkSlots [(4, (.val .bool s4_4)), (3, (.val .bool s3_3)), (2, (.val (.int .i64) s2_2)), (1, (.val (.int .u64) s1_1)), (0, (.val (.sl false (.int .u8)) s0_0))], assocB [], assocR []⟩)
noncomputable def p_istrconv_formatBits_1 (s0_0 : (List Int)) (s1_1 : Int) (s2_2 : Int) (s3_3 : Bool) (s4_4 : Bool) (s11_5 : List UInt8) (r0_6 : List Int) : Option ((List Int) × List UInt8) := (Abs.Run E 265 (E.at 265 [1, 0, 1, 9]) ⟨mkSlots [(0, (.val (.sl false (.int .u8)) s0_0)), (1, (.val (.int .u64) s1_1)), (2, (.val (.int .i64) s2_2)), (3, (.val .bool s3_3)), (4, (.val .bool s4_4)), (10, (.row 0)), (11, (.val .str s11_5))], mkBoxes [], mkRows [.mk (.int .u8) .live r0_6]⟩)
noncomputable def p_istrconv_formatBits_2 (s0_0 : (List Int)) (s1_1 : Int) (s2_2 : Int) (s3_3 : Bool) (s4_4 : Bool) (s11_5 : List UInt8) (s13_6 : Int) (b0_7 : (List Int)) (r0_8 : List Int) : Option ((List Int) × List UInt8) := (Abs.Run E 265 (E.at 265 [1, 1, 1, 1, 0, 1, 9]) ⟨mkSlots [(0, (.val (.sl false (.int .u8)) s0_0)), (1, (.val (.int .u64) s1_1)), (2, (.val (.int .i64) s2_2)), (3, (.val .bool s3_3)), (4, (.val .bool s4_4)), (10, (.row 0)), (11, (.val .str s11_5)), (12, (.addr (.box 0) [])), (13, (.val (.int .i64) s13_6))], mkBoxes [.cells (.arr 65 (.int .u8)) .live (.val (.arr 65 (.int .u8)) b0_7)], mkRows [.mk (.int .u8) .live r0_8]⟩)
noncomputable def p_istrconv_formatBits_3 (s0_0 : (List Int)) (s1_1 : Int) (s2_2 : Int) (s3_3 : Bool) (s4_4 : Bool) (s11_5 : List UInt8) (s13_6 : Int) (s14_7 : Int) (s15_8 : Int) (s16_9 : Int) (b0_10 : (List Int)) (r0_11 : List Int) : Option ((List Int) × List UInt8) := (Abs.Run E 265 (E.at 265 [1, 1, 1, 1, 1, 0, 1, 0, 1, 1, 1, 0, 0, 7]) ⟨mkSlots [(0, (.val (.sl false (.int .u8)) s0_0)), (1, (.val (.int .u64) s1_1)), (2, (.val (.int .i64) s2_2)), (3, (.val .bool s3_3)), (4, (.val .bool s4_4)), (10, (.row 0)), (11, (.val .str s11_5)), (12, (.addr (.box 0) [])), (13, (.val (.int .i64) s13_6)), (14, (.val (.int .u64) s14_7)), (15, (.val (.int .u64) s15_8)), (16, (.val (.int .u64) s16_9))], mkBoxes [.cells (.arr 65 (.int .u8)) .live (.val (.arr 65 (.int .u8)) b0_10)], mkRows [.mk (.int .u8) .live r0_11]⟩)
noncomputable def p_istrconv_formatBits_4 (s0_0 : (List Int)) (s1_1 : Int) (s2_2 : Int) (s3_3 : Bool) (s4_4 : Bool) (s11_5 : List UInt8) (s13_6 : Int) (s17_7 : Int) (b0_8 : (List Int)) (r0_9 : List Int) : Option ((List Int) × List UInt8) := (Abs.Run E 265 (E.at 265 [1, 1, 1, 1, 1, 0, 1, 1, 1, 0, 0, 7]) ⟨mkSlots [(0, (.val (.sl false (.int .u8)) s0_0)), (1, (.val (.int .u64) s1_1)), (2, (.val (.int .i64) s2_2)), (3, (.val .bool s3_3)), (4, (.val .bool s4_4)), (10, (.row 0)), (11, (.val .str s11_5)), (12, (.addr (.box 0) [])), (13, (.val (.int .i64) s13_6)), (17, (.val (.int .u64) s17_7))], mkBoxes [.cells (.arr 65 (.int .u8)) .live (.val (.arr 65 (.int .u8)) b0_8)], mkRows [.mk (.int .u8) .live r0_9]⟩)
noncomputable def p_istrconv_formatBits_5 (s0_0 : (List Int)) (s1_1 : Int) (s2_2 : Int) (s3_3 : Bool) (s4_4 : Bool) (s11_5 : List UInt8) (s13_6 : Int) (b0_7 : (List Int)) (r0_8 : List Int) : Option ((List Int) × List UInt8) := (Abs.Run E 265 (E.at 265 [1, 1, 1, 1, 1, 0, 1, 9]) ⟨mkSlots [(0, (.val (.sl false (.int .u8)) s0_0)), (1, (.val (.int .u64) s1_1)), (2, (.val (.int .i64) s2_2)), (3, (.val .bool s3_3)), (4, (.val .bool s4_4)), (10, (.row 0)), (11, (.val .str s11_5)), (12, (.addr (.box 0) [])), (13, (.val (.int .i64) s13_6))], mkBoxes [.cells (.arr 65 (.int .u8)) .live (.val (.arr 65 (.int .u8)) b0_7)], mkRows [.mk (.int .u8) .live r0_8]⟩)
noncomputable def p_istrconv_formatBits_6 (s0_0 : (List Int)) (s1_1 : Int) (s2_2 : Int) (s3_3 : Bool) (s4_4 : Bool) (s11_5 : List UInt8) (s13_6 : Int) (b0_7 : (List Int)) (r0_8 : List Int) : Option ((List Int) × List UInt8) := (Abs.Run E 265 (E.at 265 [1, 1, 1, 1, 1, 1, 0, 1, 9]) ⟨mkSlots [(0, (.val (.sl false (.int .u8)) s0_0)), (1, (.val (.int .u64) s1_1)), (2, (.val (.int .i64) s2_2)), (3, (.val .bool s3_3)), (4, (.val .bool s4_4)), (10, (.row 0)), (11, (.val .str s11_5)), (12, (.addr (.box 0) [])), (13, (.val (.int .i64) s13_6))], mkBoxes [.cells (.arr 65 (.int .u8)) .live (.val (.arr 65 (.int .u8)) b0_7)], mkRows [.mk (.int .u8) .live r0_8]⟩)
noncomputable def c_strings_Join (x : ((List (List UInt8)) × List UInt8)) : Option (List UInt8) := Abs.Call E 137 x
noncomputable def c_istrconv_Itoa (x : Int) : Option (List UInt8) := Abs.Call E 227 x
noncomputable def c_istrconv_isPowerOfTwo (x : Int) : Option Bool := Abs.Call E 287 x
noncomputable def p_istrconv_isPowerOfTwo_0 (s0_0 : Int) : Option Bool := (Abs.Run E 287 (E.at 287 []) ⟨mkSlots [(0, (.val (.int .i64) s0_0))], assocB [], assocR []⟩)
noncomputable def c_bits_TrailingZeros (x : Int) : Option Int := Abs.Call E 288 x
noncomputable def p_bits_TrailingZeros_0 (s0_0 : Int) : Option Int := (Abs.Run E 288 (E.at 288 []) ⟨mkSlots [(0, (.val (.int .u64) s0_0))], assocB [], assocR []⟩)
theorem c_law05_HostAddresses_eq (x : (Int × (List Int))) : c_law05_HostAddresses x =
    p_law05_HostAddresses_0 x.1 x.2 := by kernel_rfl
theorem p_law05_HostAddresses_0_eq (s0_0 : Int) (s1_1 : (List Int)) : p_law05_HostAddresses_0 s0_0 s1_1 =
    (c_law05_alive ()).bind fun y0 =>
      bif (!y0) then
        some false
      else
        (c_host_Print ((2 : Int), ((Ty.zero .str), (s0_0, (Ty.zero (.arr 8 (.int .u16))))))).bind fun y1 =>
          (c_host_IPv4 y1.1).bind fun y2 =>
            (c_host_Print ((3 : Int), ((Ty.zero .str), ((Ty.zero (.int .u32)), s1_1)))).bind fun y3 =>
              (c_law05_num y1.2).bind fun y4 =>
                bif (y4 != (0 : Int)) then
                  some false
                else
                  (c_law05_num y2.2).bind fun y5 =>
                    bif (y5 != (0 : Int)) then
                      some false
                    else
                      bif (y2.1 != s0_0) then
                        some false
                      else
                        (c_law05_num y3.2).bind fun y6 =>
                          bif (y6 != (0 : Int)) then
                            some false
                          else
                            bif (decide ((((List.length y3.1) : Nat) : Int) < (4 : Int))) then
                              some false
                            else
                              (c_host_EndsInNumber y1.1).bind fun y7 =>
                                bif (!y7) then
                                  some false
                                else
                                  bif (cutOk (some (1 : Int)) (some (IntKind.wrap IntKind.i64 ((((List.length y3.1) : Nat) : Int) - (1 : Int)))) (List.length y3.1)) then
                                    (c_host_IPv6 (cutList (some (1 : Int)) (some (IntKind.wrap IntKind.i64 ((((List.length y3.1) : Nat) : Int) - (1 : Int)))) y3.1)).bind fun y8 =>
                                      (c_law05_num y8.2).bind fun y9 =>
                                        bif (y9 == (0 : Int)) then
                                          some (Ty.beq (.arr 8 (.int .u16)) y8.1 s1_1)
                                        else
                                          some false
                                  else
                                    none := of_eq (by kernel_rfl) (Run_unfold E 9 (E.at 9 []) ⟨mkSlots [(1, (.val (.arr 8 (.int .u16)) s1_1)), (0, (.val (.int .u32) s0_0))], assocB [], assocR []⟩)
theorem c_host_Print_eq (x : D35) : c_host_Print x =
    p_host_Print_0 x := by kernel_rfl
theorem p_host_Print_0_eq (s0_0 : D35) : p_host_Print_0 s0_0 =
    (c_host_Check s0_0).bind fun y0 =>
      bif (y0 != (0 : Int)) then
        some (([] : List UInt8), y0)
      else
        bif (s0_0.1 == (2 : Int)) then
          (c_host_four s0_0.2.2.1).bind fun y1 =>
            some (y1, (0 : Int))
        else
          bif (s0_0.1 == (3 : Int)) then
            (c_host_six s0_0.2.2.2).bind fun y1 =>
              bif (decide (((List.length ([(91 : UInt8)] : List UInt8)) + (List.length y1)) ≤ (2 ^ 62))) then
                bif (decide (((List.length (([(91 : UInt8)] : List UInt8) ++ y1)) + (List.length ([(93 : UInt8)] : List UInt8))) ≤ (2 ^ 62))) then
                  some (((([(91 : UInt8)] : List UInt8) ++ y1) ++ ([(93 : UInt8)] : List UInt8)), (0 : Int))
                else
                  none
              else
                none
          else
            some (s0_0.2.1, (0 : Int)) := of_eq (by kernel_rfl) (Run_unfold E 49 (E.at 49 []) ⟨mkSlots [(0, (.val T35 s0_0))], assocB [], assocR []⟩)
theorem c_host_Check_eq (x : D35) : c_host_Check x =
    p_host_Check_0 x := by kernel_rfl
theorem p_host_Check_0_eq (s0_0 : D35) : p_host_Check_0 s0_0 =
    bif (s0_0.1 == (0 : Int)) then
      p_host_Check_1 s0_0 s0_0.1 (s0_0.1 == (0 : Int)) s0_0 (s0_0.1, ((Ty.zero .str), ((Ty.zero (.int .u32)), (Ty.zero (.arr 8 (.int .u16))))))
    else
      p_host_Check_1 s0_0 s0_0.1 (s0_0.1 == (5 : Int)) s0_0 (s0_0.1, ((Ty.zero .str), ((Ty.zero (.int .u32)), (Ty.zero (.arr 8 (.int .u16)))))) := of_eq (by kernel_rfl) (Run_unfold E 50 (E.at 50 []) ⟨mkSlots [(0, (.val T35 s0_0))], assocB [], assocR []⟩)
theorem p_host_Check_1_eq (s0_0 : D35) (s8_1 : Int) (s9_2 : Bool) (b0_3 : D35) (b1_4 : D35) : p_host_Check_1 s0_0 s8_1 s9_2 b0_3 b1_4 =
    bif s9_2 then
      p_host_Check_2 s0_0 s8_1 s9_2 b0_3 b1_4
    else
      bif (s8_1 == (2 : Int)) then
        p_host_Check_3 s0_0 b0_3 (b1_4.1, (b1_4.2.1, (b0_3.2.2.1, b1_4.2.2.2)))
      else
        bif (s8_1 == (3 : Int)) then
          p_host_Check_4 s0_0 b0_3 (b1_4.1, (b1_4.2.1, (b1_4.2.2.1, b0_3.2.2.2)))
        else
          bif (s8_1 == (1 : Int)) then
            p_host_Check_5 s0_0 (s8_1 == (1 : Int)) b0_3 b1_4
          else
            p_host_Check_5 s0_0 (s8_1 == (4 : Int)) b0_3 b1_4 := of_eq (by kernel_rfl) (Run_unfold E 50 (E.at 50 [1, 1, 0, 1, 0, 0, 1, 9]) ⟨mkSlots [(0, (.val T35 s0_0)), (1, (.addr (.box 0) [])), (3, (.addr (.box 1) [])), (8, (.val (.int .i64) s8_1)), (9, (.val .bool s9_2))], mkBoxes [.cells T35 .live (.val T35 b0_3), .cells T35 .live (.val T35 b1_4)], mkRows []⟩)
theorem p_host_Check_2_eq (s0_0 : D35) (s8_1 : Int) (s9_2 : Bool) (b0_3 : D35) (b1_4 : D35) : p_host_Check_2 s0_0 s8_1 s9_2 b0_3 b1_4 =
    bif (!(Ty.beq T35 b0_3 b1_4)) then
      some (51 : Int)
    else
      some (0 : Int) := of_eq (by kernel_rfl) (Run_unfold E 50 (E.at 50 [1, 1, 0, 1, 0, 1, 9]) ⟨mkSlots [(0, (.val T35 s0_0)), (1, (.addr (.box 0) [])), (3, (.addr (.box 1) [])), (8, (.val (.int .i64) s8_1)), (9, (.val .bool s9_2))], mkBoxes [.cells T35 .live (.val T35 b0_3), .cells T35 .live (.val T35 b1_4)], mkRows []⟩)
theorem p_host_Check_3_eq (s0_0 : D35) (b0_1 : D35) (b1_2 : D35) : p_host_Check_3 s0_0 b0_1 b1_2 =
    p_host_Check_6 s0_0 b0_1 b1_2 := of_eq (by kernel_rfl) (Run_unfold E 50 (E.at 50 [1, 1, 0, 1, 0, 1, 1, 1, 9]) ⟨mkSlots [(0, (.val T35 s0_0)), (1, (.addr (.box 0) [])), (3, (.addr (.box 1) []))], mkBoxes [.cells T35 .live (.val T35 b0_1), .cells T35 .live (.val T35 b1_2)], mkRows []⟩)
theorem p_host_Check_4_eq (s0_0 : D35) (b0_1 : D35) (b1_2 : D35) : p_host_Check_4 s0_0 b0_1 b1_2 =
    p_host_Check_3 s0_0 b0_1 b1_2 := of_eq (by kernel_rfl) (Run_unfold E 50 (E.at 50 [1, 1, 0, 1, 0, 1, 1, 1, 1, 1, 9]) ⟨mkSlots [(0, (.val T35 s0_0)), (1, (.addr (.box 0) [])), (3, (.addr (.box 1) []))], mkBoxes [.cells T35 .live (.val T35 b0_1), .cells T35 .live (.val T35 b1_2)], mkRows []⟩)
theorem p_host_Check_5_eq (s0_0 : D35) (s22_1 : Bool) (b0_2 : D35) (b1_3 : D35) : p_host_Check_5 s0_0 s22_1 b0_2 b1_3 =
    bif s22_1 then
      (c_host_Parse (b0_2.2.1, (b0_2.1 == (1 : Int)))).bind fun y0 =>
        p_host_Check_7 s0_0 s22_1 b0_2 y0.1
    else
      some (51 : Int) := of_eq (by kernel_rfl) (Run_unfold E 50 (E.at 50 [1, 1, 0, 1, 0, 1, 1, 1, 1, 1, 1, 0, 1, 9]) ⟨mkSlots [(0, (.val T35 s0_0)), (1, (.addr (.box 0) [])), (3, (.addr (.box 1) [])), (22, (.val .bool s22_1))], mkBoxes [.cells T35 .live (.val T35 b0_2), .cells T35 .live (.val T35 b1_3)], mkRows []⟩)
theorem p_host_Check_6_eq (s0_0 : D35) (b0_1 : D35) (b1_2 : D35) : p_host_Check_6 s0_0 b0_1 b1_2 =
    bif (!(Ty.beq T35 b0_1 b1_2)) then
      some (51 : Int)
    else
      some (0 : Int) := of_eq (by kernel_rfl) (Run_unfold E 50 (E.at 50 [1, 1, 0, 1, 0, 1, 9]) ⟨mkSlots [(0, (.val T35 s0_0)), (1, (.addr (.box 0) [])), (3, (.addr (.box 1) [])), (8, .undef), (9, .undef)], mkBoxes [.cells T35 .live (.val T35 b0_1), .cells T35 .live (.val T35 b1_2)], mkRows []⟩)
theorem p_host_Check_7_eq (s0_0 : D35) (s22_1 : Bool) (b0_2 : D35) (b1_3 : D35) : p_host_Check_7 s0_0 s22_1 b0_2 b1_3 =
    p_host_Check_4 s0_0 b0_2 b1_3 := of_eq (by kernel_rfl) (Run_unfold E 50 (E.at 50 [1, 1, 0, 1, 0, 1, 1, 1, 1, 1, 1, 1, 9]) ⟨mkSlots [(0, (.val T35 s0_0)), (1, (.addr (.box 0) [])), (3, (.addr (.box 1) [])), (22, (.val .bool s22_1))], mkBoxes [.cells T35 .live (.val T35 b0_2), .cells T35 .live (.val T35 b1_3)], mkRows []⟩)
theorem c_host_four_eq (x : Int) : c_host_four x =
    p_host_four_0 x := by kernel_rfl
theorem p_host_four_0_eq (s0_0 : Int) : p_host_four_0 s0_0 =
    p_host_four_1 s0_0 (3 : Int) ([] : List (List UInt8)) := of_eq (by kernel_rfl) (Run_unfold E 127 (E.at 127 []) ⟨mkSlots [(0, (.val (.int .u32) s0_0))], assocB [], assocR []⟩)
theorem p_host_four_1_eq (s0_0 : Int) (s4_1 : Int) (r0_2 : List (List UInt8)) : p_host_four_1 s0_0 s4_1 r0_2 =
    bif (decide (s4_1 ≥ (0 : Int))) then
      bif (decide ((0 : Int) ≤ (IntKind.wrap IntKind.i64 ((8 : Int) * s4_1)))) then
        (c_strconv_Itoa (IntKind.wrap IntKind.i64 (bits Go.BinOp.and IntKind.u32 (shr IntKind.u32 s0_0 (IntKind.wrap IntKind.i64 ((8 : Int) * s4_1))) (255 : Int)))).bind fun y0 =>
          bif (decide (((List.length r0_2) + (List.length ([y0] : List (List UInt8)))) ≤ (lim))) then
            p_host_four_1 s0_0 (IntKind.wrap IntKind.i64 (s4_1 - (1 : Int))) (r0_2 ++ ([y0] : List (List UInt8)))
          else
            none
      else
        none
    else
      (c_strings_Join (r0_2, ([(46 : UInt8)] : List UInt8))).bind fun y0 =>
        some y0 := of_eq (by kernel_rfl) (Run_unfold E 127 (E.at 127 [1, 1, 0, 1, 0, 7]) ⟨mkSlots [(0, (.val (.int .u32) s0_0)), (3, (.row 0)), (4, (.val (.int .i64) s4_1))], mkBoxes [], mkRows [.mk .str .live r0_2]⟩)
theorem c_host_six_eq (x : (List Int)) : c_host_six x =
    p_host_six_0 x := by kernel_rfl
theorem p_host_six_0_eq (s0_0 : (List Int)) : p_host_six_0 s0_0 =
    (c_host_run s0_0).bind fun y0 =>
      bif (y0.2 == (0 : Int)) then
        (c_host_six_1 (List.drop (Option.getD (Option.map (Int.toNat) none) 0) (List.take (Option.getD (Option.map (Int.toNat) none) 8) s0_0))).bind fun y1 =>
          some y1
      else
        bif (cutOk none (some y0.1) 8) then
          bif (cutOk (some (IntKind.wrap IntKind.i64 (y0.1 + y0.2))) none 8) then
            (c_host_six_1 (List.drop (Option.getD (Option.map (Int.toNat) none) 0) (List.take (Option.getD (Option.map (Int.toNat) (some y0.1)) 8) s0_0))).bind fun y1 =>
              bif (decide (((List.length y1) + (List.length ([(58 : UInt8), (58 : UInt8)] : List UInt8))) ≤ (2 ^ 62))) then
                (c_host_six_1 (List.drop (Option.getD (Option.map (Int.toNat) (some (IntKind.wrap IntKind.i64 (y0.1 + y0.2)))) 0) (List.take (Option.getD (Option.map (Int.toNat) none) 8) s0_0))).bind fun y2 =>
                  bif (decide (((List.length (y1 ++ ([(58 : UInt8), (58 : UInt8)] : List UInt8))) + (List.length y2)) ≤ (2 ^ 62))) then
                    some ((y1 ++ ([(58 : UInt8), (58 : UInt8)] : List UInt8)) ++ y2)
                  else
                    none
              else
                none
          else
            none
        else
          none := of_eq (by kernel_rfl) (Run_unfold E 128 (E.at 128 []) ⟨mkSlots [(0, (.val (.arr 8 (.int .u16)) s0_0))], assocB [], assocR []⟩)
theorem c_strconv_Itoa_eq (x : Int) : c_strconv_Itoa x =
    p_strconv_Itoa_0 x := by kernel_rfl
theorem p_strconv_Itoa_0_eq (s0_0 : Int) : p_strconv_Itoa_0 s0_0 =
    (c_istrconv_Itoa s0_0).bind fun y0 =>
      some y0 := of_eq (by kernel_rfl) (Run_unfold E 182 (E.at 182 []) ⟨mkSlots [(0, (.val (.int .i64) s0_0))], assocB [], assocR []⟩)
theorem c_host_run_eq (x : (List Int)) : c_host_run x =
    p_host_run_0 x := by kernel_rfl
theorem p_host_run_0_eq (s0_0 : (List Int)) : p_host_run_0 s0_0 =
    p_host_run_1 s0_0 (0 : Int) (1 : Int) (0 : Int) s0_0 := of_eq (by kernel_rfl) (Run_unfold E 183 (E.at 183 []) ⟨mkSlots [(0, (.val (.arr 8 (.int .u16)) s0_0))], assocB [], assocR []⟩)
theorem p_host_run_1_eq (s0_0 : (List Int)) (s4_1 : Int) (s5_2 : Int) (s8_3 : Int) (b0_4 : (List Int)) : p_host_run_1 s0_0 s4_1 s5_2 s8_3 b0_4 =
    bif (decide (s8_3 < (8 : Int))) then
      p_host_run_2 s0_0 s4_1 s5_2 s8_3 (0 : Int) s8_3 b0_4
    else
      bif (s5_2 == (1 : Int)) then
        some ((0 : Int), (0 : Int))
      else
        some (s4_1, s5_2) := of_eq (by kernel_rfl) (Run_unfold E 183 (E.at 183 [1, 1, 0, 1, 0, 7]) ⟨mkSlots [(0, (.val (.arr 8 (.int .u16)) s0_0)), (1, (.addr (.box 0) [])), (4, (.val (.int .i64) s4_1)), (5, (.val (.int .i64) s5_2)), (8, (.val (.int .i64) s8_3))], mkBoxes [.cells (.arr 8 (.int .u16)) .live (.val (.arr 8 (.int .u16)) b0_4)], mkRows []⟩)
theorem p_host_run_2_eq (s0_0 : (List Int)) (s4_1 : Int) (s5_2 : Int) (s6_3 : Int) (s7_4 : Int) (s8_5 : Int) (b0_6 : (List Int)) : p_host_run_2 s0_0 s4_1 s5_2 s6_3 s7_4 s8_5 b0_6 =
    bif (decide ((IntKind.wrap IntKind.i64 (s6_3 + s7_4)) < (8 : Int))) then
      bif (inside (IntKind.wrap IntKind.i64 (s6_3 + s7_4)) 8) then
        bif ((List.getD b0_6 (Int.toNat (IntKind.wrap IntKind.i64 (s6_3 + s7_4))) (Ty.zero (.int .u16))) == (0 : Int)) then
          p_host_run_2 s0_0 s4_1 s5_2 s6_3 (IntKind.wrap IntKind.i64 (s7_4 + (1 : Int))) s8_5 b0_6
        else
          bif (decide (s7_4 > s5_2)) then
            p_host_run_1 s0_0 s6_3 s7_4 (IntKind.wrap IntKind.i64 (s8_5 + (1 : Int))) b0_6
          else
            p_host_run_1 s0_0 s4_1 s5_2 (IntKind.wrap IntKind.i64 (s8_5 + (1 : Int))) b0_6
      else
        none
    else
      bif (decide (s7_4 > s5_2)) then
        p_host_run_1 s0_0 s6_3 s7_4 (IntKind.wrap IntKind.i64 (s8_5 + (1 : Int))) b0_6
      else
        p_host_run_1 s0_0 s4_1 s5_2 (IntKind.wrap IntKind.i64 (s8_5 + (1 : Int))) b0_6 := of_eq (by kernel_rfl) (Run_unfold E 183 (E.at 183 [1, 1, 0, 1, 0, 0, 1, 1, 0, 0, 1, 1, 0, 0, 7]) ⟨mkSlots [(0, (.val (.arr 8 (.int .u16)) s0_0)), (1, (.addr (.box 0) [])), (4, (.val (.int .i64) s4_1)), (5, (.val (.int .i64) s5_2)), (6, (.val (.int .i64) s6_3)), (7, (.val (.int .i64) s7_4)), (8, (.val (.int .i64) s8_5))], mkBoxes [.cells (.arr 8 (.int .u16)) .live (.val (.arr 8 (.int .u16)) b0_6)], mkRows []⟩)
theorem c_host_six_1_eq (x : (List Int)) : c_host_six_1 x =
    p_host_six_1_0 x := by kernel_rfl
theorem p_host_six_1_0_eq (s0_0 : (List Int)) : p_host_six_1_0 s0_0 =
    p_host_six_1_1 s0_0 s0_0 (((List.length s0_0) : Nat) : Int) (0 : Int) ([] : List (List UInt8)) := of_eq (by kernel_rfl) (Run_unfold E 184 (E.at 184 []) ⟨mkSlots [(0, (.val (.sl false (.int .u16)) s0_0))], assocB [], assocR []⟩)
theorem p_host_six_1_1_eq (s0_0 : (List Int)) (s6_1 : (List Int)) (s7_2 : Int) (s8_3 : Int) (r0_4 : List (List UInt8)) : p_host_six_1_1 s0_0 s6_1 s7_2 s8_3 r0_4 =
    bif (decide (s8_3 < s7_2)) then
      bif (inside s8_3 (List.length s6_1)) then
        (c_strconv_FormatUint ((IntKind.wrap IntKind.u64 (List.getD s6_1 (Int.toNat s8_3) (Ty.zero (.int .u16)))), (16 : Int))).bind fun y0 =>
          bif (decide (((List.length r0_4) + (List.length ([y0] : List (List UInt8)))) ≤ (lim))) then
            p_host_six_1_1 s0_0 s6_1 s7_2 (IntKind.wrap IntKind.i64 (s8_3 + (1 : Int))) (r0_4 ++ ([y0] : List (List UInt8)))
          else
            none
      else
        none
    else
      (c_strings_Join (r0_4, ([(58 : UInt8)] : List UInt8))).bind fun y0 =>
        some y0 := of_eq (by kernel_rfl) (Run_unfold E 184 (E.at 184 [1, 1, 0, 1, 0, 7]) ⟨mkSlots [(0, (.val (.sl false (.int .u16)) s0_0)), (3, (.row 0)), (6, (.val (.sl false (.int .u16)) s6_1)), (7, (.val (.int .i64) s7_2)), (8, (.val (.int .i64) s8_3))], mkBoxes [], mkRows [.mk .str .live r0_4]⟩)
theorem c_strconv_FormatUint_eq (x : (Int × Int)) : c_strconv_FormatUint x =
    p_strconv_FormatUint_0 x.1 x.2 := by kernel_rfl
theorem p_strconv_FormatUint_0_eq (s0_0 : Int) (s1_1 : Int) : p_strconv_FormatUint_0 s0_0 s1_1 =
    (c_istrconv_FormatUint (s0_0, s1_1)).bind fun y0 =>
      some y0 := of_eq (by kernel_rfl) (Run_unfold E 185 (E.at 185 []) ⟨mkSlots [(1, (.val (.int .i64) s1_1)), (0, (.val (.int .u64) s0_0))], assocB [], assocR []⟩)
theorem c_istrconv_FormatUint_eq (x : (Int × Int)) : c_istrconv_FormatUint x =
    p_istrconv_FormatUint_0 x.1 x.2 := by kernel_rfl
theorem p_istrconv_FormatUint_0_eq (s0_0 : Int) (s1_1 : Int) : p_istrconv_FormatUint_0 s0_0 s1_1 =
    bif (s1_1 == (10 : Int)) then
      bif (decide (s0_0 < (100 : Int))) then
        (c_istrconv_small (IntKind.wrap IntKind.i64 s0_0)).bind fun y0 =>
          some y0
      else
        (c_istrconv_numDigits s0_0).bind fun y0 =>
          bif (cutOk none (some y0) 24) then
            (c_istrconv_formatBase10 ((List.drop (Option.getD (Option.map (Int.toNat) none) 0) (List.take (Option.getD (Option.map (Int.toNat) (some y0)) 24) (Ty.zero (.arr 24 (.int .u8))))), s0_0)).bind fun y1 =>
              bif (cutOk none (some y0) 24) then
                some (strOf (List.drop (Option.getD (Option.map (Int.toNat) none) 0) (List.take (Option.getD (Option.map (Int.toNat) (some y0)) 24) (Ty.zero (.arr 24 (.int .u8))))))
              else
                none
          else
            none
    else
      (c_istrconv_formatBits (([] : List Int), (s0_0, (s1_1, (false, false))))).bind fun y0 =>
        some y0.2 := of_eq (by kernel_rfl) (Run_unfold E 228 (E.at 228 []) ⟨mkSlots [(1, (.val (.int .i64) s1_1)), (0, (.val (.int .u64) s0_0))], assocB [], assocR []⟩)
theorem c_istrconv_formatBits_eq (x : ((List Int) × (Int × (Int × (Bool × Bool))))) : c_istrconv_formatBits x =
    p_istrconv_formatBits_0 x.1 x.2.1 x.2.2.1 x.2.2.2.1 x.2.2.2.2 := by kernel_rfl
theorem p_istrconv_formatBits_0_eq (s0_0 : (List Int)) (s1_1 : Int) (s2_2 : Int) (s3_3 : Bool) (s4_4 : Bool) : p_istrconv_formatBits_0 s0_0 s1_1 s2_2 s3_3 s4_4 =
    bif (decide (s2_2 < (2 : Int))) then
      none
    else
      bif (s2_2 == (10 : Int)) then
        none
      else
        bif (decide (s2_2 > (36 : Int))) then
          none
        else
          p_istrconv_formatBits_1 s0_0 s1_1 s2_2 s3_3 s4_4 ([] : List UInt8) ([] : List Int) := of_eq (by kernel_rfl) (Run_unfold E 265 (E.at 265 []) ⟨mkSlots [(4, (.val .bool s4_4)), (3, (.val .bool s3_3)), (2, (.val (.int .i64) s2_2)), (1, (.val (.int .u64) s1_1)), (0, (.val (.sl false (.int .u8)) s0_0))], assocB [], assocR []⟩)
theorem p_istrconv_formatBits_1_eq (s0_0 : (List Int)) (s1_1 : Int) (s2_2 : Int) (s3_3 : Bool) (s4_4 : Bool) (s11_5 : List UInt8) (r0_6 : List Int) : p_istrconv_formatBits_1 s0_0 s1_1 s2_2 s3_3 s4_4 s11_5 r0_6 =
    bif s3_3 then
      p_istrconv_formatBits_2 s0_0 (IntKind.wrap IntKind.u64 ((0 : Int) - s1_1)) s2_2 s3_3 s4_4 s11_5 (65 : Int) (Ty.zero (.arr 65 (.int .u8))) r0_6
    else
      p_istrconv_formatBits_2 s0_0 s1_1 s2_2 s3_3 s4_4 s11_5 (65 : Int) (Ty.zero (.arr 65 (.int .u8))) r0_6 := of_eq (by kernel_rfl) (Run_unfold E 265 (E.at 265 [1, 0, 1, 9]) ⟨mkSlots [(0, (.val (.sl false (.int .u8)) s0_0)), (1, (.val (.int .u64) s1_1)), (2, (.val (.int .i64) s2_2)), (3, (.val .bool s3_3)), (4, (.val .bool s4_4)), (10, (.row 0)), (11, (.val .str s11_5))], mkBoxes [], mkRows [.mk (.int .u8) .live r0_6]⟩)
theorem p_istrconv_formatBits_2_eq (s0_0 : (List Int)) (s1_1 : Int) (s2_2 : Int) (s3_3 : Bool) (s4_4 : Bool) (s11_5 : List UInt8) (s13_6 : Int) (b0_7 : (List Int)) (r0_8 : List Int) : p_istrconv_formatBits_2 s0_0 s1_1 s2_2 s3_3 s4_4 s11_5 s13_6 b0_7 r0_8 =
    (c_istrconv_isPowerOfTwo s2_2).bind fun y0 =>
      bif y0 then
        (c_bits_TrailingZeros (IntKind.wrap IntKind.u64 s2_2)).bind fun y1 =>
          p_istrconv_formatBits_3 s0_0 s1_1 s2_2 s3_3 s4_4 s11_5 s13_6 (IntKind.wrap IntKind.u64 y1) (IntKind.wrap IntKind.u64 s2_2) (IntKind.wrap IntKind.u64 ((IntKind.wrap IntKind.u64 s2_2) - (1 : Int))) b0_7 r0_8
      else
        p_istrconv_formatBits_4 s0_0 s1_1 s2_2 s3_3 s4_4 s11_5 s13_6 (IntKind.wrap IntKind.u64 s2_2) b0_7 r0_8 := of_eq (by kernel_rfl) (Run_unfold E 265 (E.at 265 [1, 1, 1, 1, 0, 1, 9]) ⟨mkSlots [(0, (.val (.sl false (.int .u8)) s0_0)), (1, (.val (.int .u64) s1_1)), (2, (.val (.int .i64) s2_2)), (3, (.val .bool s3_3)), (4, (.val .bool s4_4)), (10, (.row 0)), (11, (.val .str s11_5)), (12, (.addr (.box 0) [])), (13, (.val (.int .i64) s13_6))], mkBoxes [.cells (.arr 65 (.int .u8)) .live (.val (.arr 65 (.int .u8)) b0_7)], mkRows [.mk (.int .u8) .live r0_8]⟩)
theorem p_istrconv_formatBits_3_eq (s0_0 : (List Int)) (s1_1 : Int) (s2_2 : Int) (s3_3 : Bool) (s4_4 : Bool) (s11_5 : List UInt8) (s13_6 : Int) (s14_7 : Int) (s15_8 : Int) (s16_9 : Int) (b0_10 : (List Int)) (r0_11 : List Int) : p_istrconv_formatBits_3 s0_0 s1_1 s2_2 s3_3 s4_4 s11_5 s13_6 s14_7 s15_8 s16_9 b0_10 r0_11 =
    bif (decide (s1_1 ≥ s15_8)) then
      bif (inside (bits Go.BinOp.and IntKind.u64 s1_1 s16_9) (List.length ([(48 : UInt8), (49 : UInt8), (50 : UInt8), (51 : UInt8), (52 : UInt8), (53 : UInt8), (54 : UInt8), (55 : UInt8), (56 : UInt8), (57 : UInt8), (97 : UInt8), (98 : UInt8), (99 : UInt8), (100 : UInt8), (101 : UInt8), (102 : UInt8), (103 : UInt8), (104 : UInt8), (105 : UInt8), (106 : UInt8), (107 : UInt8), (108 : UInt8), (109 : UInt8), (110 : UInt8), (111 : UInt8), (112 : UInt8), (113 : UInt8), (114 : UInt8), (115 : UInt8), (116 : UInt8), (117 : UInt8), (118 : UInt8), (119 : UInt8), (120 : UInt8), (121 : UInt8), (122 : UInt8)] : List UInt8))) then
        bif (inside (IntKind.wrap IntKind.i64 (s13_6 - (1 : Int))) 65) then
          bif (decide ((0 : Int) ≤ s14_7)) then
            p_istrconv_formatBits_3 s0_0 (shr IntKind.u64 s1_1 s14_7) s2_2 s3_3 s4_4 s11_5 (IntKind.wrap IntKind.i64 (s13_6 - (1 : Int))) s14_7 s15_8 s16_9 (List.set b0_10 (Int.toNat (IntKind.wrap IntKind.i64 (s13_6 - (1 : Int)))) (((UInt8.toNat (List.getD ([(48 : UInt8), (49 : UInt8), (50 : UInt8), (51 : UInt8), (52 : UInt8), (53 : UInt8), (54 : UInt8), (55 : UInt8), (56 : UInt8), (57 : UInt8), (97 : UInt8), (98 : UInt8), (99 : UInt8), (100 : UInt8), (101 : UInt8), (102 : UInt8), (103 : UInt8), (104 : UInt8), (105 : UInt8), (106 : UInt8), (107 : UInt8), (108 : UInt8), (109 : UInt8), (110 : UInt8), (111 : UInt8), (112 : UInt8), (113 : UInt8), (114 : UInt8), (115 : UInt8), (116 : UInt8), (117 : UInt8), (118 : UInt8), (119 : UInt8), (120 : UInt8), (121 : UInt8), (122 : UInt8)] : List UInt8) (Int.toNat (bits Go.BinOp.and IntKind.u64 s1_1 s16_9)) (0 : UInt8))) : Nat) : Int)) r0_11
          else
            none
        else
          none
      else
        none
    else
      bif (inside s1_1 (List.length ([(48 : UInt8), (49 : UInt8), (50 : UInt8), (51 : UInt8), (52 : UInt8), (53 : UInt8), (54 : UInt8), (55 : UInt8), (56 : UInt8), (57 : UInt8), (97 : UInt8), (98 : UInt8), (99 : UInt8), (100 : UInt8), (101 : UInt8), (102 : UInt8), (103 : UInt8), (104 : UInt8), (105 : UInt8), (106 : UInt8), (107 : UInt8), (108 : UInt8), (109 : UInt8), (110 : UInt8), (111 : UInt8), (112 : UInt8), (113 : UInt8), (114 : UInt8), (115 : UInt8), (116 : UInt8), (117 : UInt8), (118 : UInt8), (119 : UInt8), (120 : UInt8), (121 : UInt8), (122 : UInt8)] : List UInt8))) then
        bif (inside (IntKind.wrap IntKind.i64 (s13_6 - (1 : Int))) 65) then
          p_istrconv_formatBits_5 s0_0 s1_1 s2_2 s3_3 s4_4 s11_5 (IntKind.wrap IntKind.i64 (s13_6 - (1 : Int))) (List.set b0_10 (Int.toNat (IntKind.wrap IntKind.i64 (s13_6 - (1 : Int)))) (((UInt8.toNat (List.getD ([(48 : UInt8), (49 : UInt8), (50 : UInt8), (51 : UInt8), (52 : UInt8), (53 : UInt8), (54 : UInt8), (55 : UInt8), (56 : UInt8), (57 : UInt8), (97 : UInt8), (98 : UInt8), (99 : UInt8), (100 : UInt8), (101 : UInt8), (102 : UInt8), (103 : UInt8), (104 : UInt8), (105 : UInt8), (106 : UInt8), (107 : UInt8), (108 : UInt8), (109 : UInt8), (110 : UInt8), (111 : UInt8), (112 : UInt8), (113 : UInt8), (114 : UInt8), (115 : UInt8), (116 : UInt8), (117 : UInt8), (118 : UInt8), (119 : UInt8), (120 : UInt8), (121 : UInt8), (122 : UInt8)] : List UInt8) (Int.toNat s1_1) (0 : UInt8))) : Nat) : Int)) r0_11
        else
          none
      else
        none := of_eq (by kernel_rfl) (Run_unfold E 265 (E.at 265 [1, 1, 1, 1, 1, 0, 1, 0, 1, 1, 1, 0, 0, 7]) ⟨mkSlots [(0, (.val (.sl false (.int .u8)) s0_0)), (1, (.val (.int .u64) s1_1)), (2, (.val (.int .i64) s2_2)), (3, (.val .bool s3_3)), (4, (.val .bool s4_4)), (10, (.row 0)), (11, (.val .str s11_5)), (12, (.addr (.box 0) [])), (13, (.val (.int .i64) s13_6)), (14, (.val (.int .u64) s14_7)), (15, (.val (.int .u64) s15_8)), (16, (.val (.int .u64) s16_9))], mkBoxes [.cells (.arr 65 (.int .u8)) .live (.val (.arr 65 (.int .u8)) b0_10)], mkRows [.mk (.int .u8) .live r0_11]⟩)
theorem p_istrconv_formatBits_4_eq (s0_0 : (List Int)) (s1_1 : Int) (s2_2 : Int) (s3_3 : Bool) (s4_4 : Bool) (s11_5 : List UInt8) (s13_6 : Int) (s17_7 : Int) (b0_8 : (List Int)) (r0_9 : List Int) : p_istrconv_formatBits_4 s0_0 s1_1 s2_2 s3_3 s4_4 s11_5 s13_6 s17_7 b0_8 r0_9 =
    bif (decide (s1_1 ≥ s17_7)) then
      bif (s17_7 != (0 : Int)) then
        bif (inside (IntKind.wrap IntKind.u64 (s1_1 - (IntKind.wrap IntKind.u64 ((IntKind.wrap IntKind.u64 (Int.tdiv s1_1 s17_7)) * s17_7)))) (List.length ([(48 : UInt8), (49 : UInt8), (50 : UInt8), (51 : UInt8), (52 : UInt8), (53 : UInt8), (54 : UInt8), (55 : UInt8), (56 : UInt8), (57 : UInt8), (97 : UInt8), (98 : UInt8), (99 : UInt8), (100 : UInt8), (101 : UInt8), (102 : UInt8), (103 : UInt8), (104 : UInt8), (105 : UInt8), (106 : UInt8), (107 : UInt8), (108 : UInt8), (109 : UInt8), (110 : UInt8), (111 : UInt8), (112 : UInt8), (113 : UInt8), (114 : UInt8), (115 : UInt8), (116 : UInt8), (117 : UInt8), (118 : UInt8), (119 : UInt8), (120 : UInt8), (121 : UInt8), (122 : UInt8)] : List UInt8))) then
          bif (inside (IntKind.wrap IntKind.i64 (s13_6 - (1 : Int))) 65) then
            p_istrconv_formatBits_4 s0_0 (IntKind.wrap IntKind.u64 (Int.tdiv s1_1 s17_7)) s2_2 s3_3 s4_4 s11_5 (IntKind.wrap IntKind.i64 (s13_6 - (1 : Int))) s17_7 (List.set b0_8 (Int.toNat (IntKind.wrap IntKind.i64 (s13_6 - (1 : Int)))) (((UInt8.toNat (List.getD ([(48 : UInt8), (49 : UInt8), (50 : UInt8), (51 : UInt8), (52 : UInt8), (53 : UInt8), (54 : UInt8), (55 : UInt8), (56 : UInt8), (57 : UInt8), (97 : UInt8), (98 : UInt8), (99 : UInt8), (100 : UInt8), (101 : UInt8), (102 : UInt8), (103 : UInt8), (104 : UInt8), (105 : UInt8), (106 : UInt8), (107 : UInt8), (108 : UInt8), (109 : UInt8), (110 : UInt8), (111 : UInt8), (112 : UInt8), (113 : UInt8), (114 : UInt8), (115 : UInt8), (116 : UInt8), (117 : UInt8), (118 : UInt8), (119 : UInt8), (120 : UInt8), (121 : UInt8), (122 : UInt8)] : List UInt8) (Int.toNat (IntKind.wrap IntKind.u64 (s1_1 - (IntKind.wrap IntKind.u64 ((IntKind.wrap IntKind.u64 (Int.tdiv s1_1 s17_7)) * s17_7))))) (0 : UInt8))) : Nat) : Int)) r0_9
          else
            none
        else
          none
      else
        none
    else
      bif (inside s1_1 (List.length ([(48 : UInt8), (49 : UInt8), (50 : UInt8), (51 : UInt8), (52 : UInt8), (53 : UInt8), (54 : UInt8), (55 : UInt8), (56 : UInt8), (57 : UInt8), (97 : UInt8), (98 : UInt8), (99 : UInt8), (100 : UInt8), (101 : UInt8), (102 : UInt8), (103 : UInt8), (104 : UInt8), (105 : UInt8), (106 : UInt8), (107 : UInt8), (108 : UInt8), (109 : UInt8), (110 : UInt8), (111 : UInt8), (112 : UInt8), (113 : UInt8), (114 : UInt8), (115 : UInt8), (116 : UInt8), (117 : UInt8), (118 : UInt8), (119 : UInt8), (120 : UInt8), (121 : UInt8), (122 : UInt8)] : List UInt8))) then
        bif (inside (IntKind.wrap IntKind.i64 (s13_6 - (1 : Int))) 65) then
          p_istrconv_formatBits_5 s0_0 s1_1 s2_2 s3_3 s4_4 s11_5 (IntKind.wrap IntKind.i64 (s13_6 - (1 : Int))) (List.set b0_8 (Int.toNat (IntKind.wrap IntKind.i64 (s13_6 - (1 : Int)))) (((UInt8.toNat (List.getD ([(48 : UInt8), (49 : UInt8), (50 : UInt8), (51 : UInt8), (52 : UInt8), (53 : UInt8), (54 : UInt8), (55 : UInt8), (56 : UInt8), (57 : UInt8), (97 : UInt8), (98 : UInt8), (99 : UInt8), (100 : UInt8), (101 : UInt8), (102 : UInt8), (103 : UInt8), (104 : UInt8), (105 : UInt8), (106 : UInt8), (107 : UInt8), (108 : UInt8), (109 : UInt8), (110 : UInt8), (111 : UInt8), (112 : UInt8), (113 : UInt8), (114 : UInt8), (115 : UInt8), (116 : UInt8), (117 : UInt8), (118 : UInt8), (119 : UInt8), (120 : UInt8), (121 : UInt8), (122 : UInt8)] : List UInt8) (Int.toNat s1_1) (0 : UInt8))) : Nat) : Int)) r0_9
        else
          none
      else
        none := of_eq (by kernel_rfl) (Run_unfold E 265 (E.at 265 [1, 1, 1, 1, 1, 0, 1, 1, 1, 0, 0, 7]) ⟨mkSlots [(0, (.val (.sl false (.int .u8)) s0_0)), (1, (.val (.int .u64) s1_1)), (2, (.val (.int .i64) s2_2)), (3, (.val .bool s3_3)), (4, (.val .bool s4_4)), (10, (.row 0)), (11, (.val .str s11_5)), (12, (.addr (.box 0) [])), (13, (.val (.int .i64) s13_6)), (17, (.val (.int .u64) s17_7))], mkBoxes [.cells (.arr 65 (.int .u8)) .live (.val (.arr 65 (.int .u8)) b0_8)], mkRows [.mk (.int .u8) .live r0_9]⟩)
theorem p_istrconv_formatBits_5_eq (s0_0 : (List Int)) (s1_1 : Int) (s2_2 : Int) (s3_3 : Bool) (s4_4 : Bool) (s11_5 : List UInt8) (s13_6 : Int) (b0_7 : (List Int)) (r0_8 : List Int) : p_istrconv_formatBits_5 s0_0 s1_1 s2_2 s3_3 s4_4 s11_5 s13_6 b0_7 r0_8 =
    bif s3_3 then
      bif (inside (IntKind.wrap IntKind.i64 (s13_6 - (1 : Int))) 65) then
        p_istrconv_formatBits_6 s0_0 s1_1 s2_2 s3_3 s4_4 s11_5 (IntKind.wrap IntKind.i64 (s13_6 - (1 : Int))) (List.set b0_7 (Int.toNat (IntKind.wrap IntKind.i64 (s13_6 - (1 : Int)))) (45 : Int)) r0_8
      else
        none
    else
      p_istrconv_formatBits_6 s0_0 s1_1 s2_2 s3_3 s4_4 s11_5 s13_6 b0_7 r0_8 := of_eq (by kernel_rfl) (Run_unfold E 265 (E.at 265 [1, 1, 1, 1, 1, 0, 1, 9]) ⟨mkSlots [(0, (.val (.sl false (.int .u8)) s0_0)), (1, (.val (.int .u64) s1_1)), (2, (.val (.int .i64) s2_2)), (3, (.val .bool s3_3)), (4, (.val .bool s4_4)), (10, (.row 0)), (11, (.val .str s11_5)), (12, (.addr (.box 0) [])), (13, (.val (.int .i64) s13_6))], mkBoxes [.cells (.arr 65 (.int .u8)) .live (.val (.arr 65 (.int .u8)) b0_7)], mkRows [.mk (.int .u8) .live r0_8]⟩)
theorem p_istrconv_formatBits_6_eq (s0_0 : (List Int)) (s1_1 : Int) (s2_2 : Int) (s3_3 : Bool) (s4_4 : Bool) (s11_5 : List UInt8) (s13_6 : Int) (b0_7 : (List Int)) (r0_8 : List Int) : p_istrconv_formatBits_6 s0_0 s1_1 s2_2 s3_3 s4_4 s11_5 s13_6 b0_7 r0_8 =
    bif s4_4 then
      bif (cutOk (some s13_6) none 65) then
        none
      else
        none
    else
      bif (cutOk (some s13_6) none 65) then
        some (r0_8, (strOf (List.drop (Option.getD (Option.map (Int.toNat) (some s13_6)) 0) (List.take (Option.getD (Option.map (Int.toNat) none) 65) b0_7))))
      else
        none := of_eq (by kernel_rfl) (Run_unfold E 265 (E.at 265 [1, 1, 1, 1, 1, 1, 0, 1, 9]) ⟨mkSlots [(0, (.val (.sl false (.int .u8)) s0_0)), (1, (.val (.int .u64) s1_1)), (2, (.val (.int .i64) s2_2)), (3, (.val .bool s3_3)), (4, (.val .bool s4_4)), (10, (.row 0)), (11, (.val .str s11_5)), (12, (.addr (.box 0) [])), (13, (.val (.int .i64) s13_6))], mkBoxes [.cells (.arr 65 (.int .u8)) .live (.val (.arr 65 (.int .u8)) b0_7)], mkRows [.mk (.int .u8) .live r0_8]⟩)
theorem c_strings_Join_eq (x : ((List (List UInt8)) × List UInt8)) : c_strings_Join x = primJoin x := by kernel_rfl
theorem c_istrconv_Itoa_eq (x : Int) : c_istrconv_Itoa x = primItoa x := by kernel_rfl
theorem c_istrconv_isPowerOfTwo_eq (x : Int) : c_istrconv_isPowerOfTwo x =
    p_istrconv_isPowerOfTwo_0 x := by kernel_rfl
theorem p_istrconv_isPowerOfTwo_0_eq (s0_0 : Int) : p_istrconv_isPowerOfTwo_0 s0_0 =
    some ((bits Go.BinOp.and IntKind.i64 s0_0 (IntKind.wrap IntKind.i64 (s0_0 - (1 : Int)))) == (0 : Int)) := of_eq (by kernel_rfl) (Run_unfold E 287 (E.at 287 []) ⟨mkSlots [(0, (.val (.int .i64) s0_0))], assocB [], assocR []⟩)
theorem c_bits_TrailingZeros_eq (x : Int) : c_bits_TrailingZeros x =
    p_bits_TrailingZeros_0 x := by kernel_rfl
theorem p_bits_TrailingZeros_0_eq (s0_0 : Int) : p_bits_TrailingZeros_0 s0_0 =
    (c_bits_TrailingZeros64 s0_0).bind fun y0 =>
      some y0 := of_eq (by kernel_rfl) (Run_unfold E 288 (E.at 288 []) ⟨mkSlots [(0, (.val (.int .u64) s0_0))], assocB [], assocR []⟩)
end Go.Abs
