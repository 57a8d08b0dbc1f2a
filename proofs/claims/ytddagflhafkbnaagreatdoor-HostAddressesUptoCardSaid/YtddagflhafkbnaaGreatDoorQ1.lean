/- Part Q1 of the proof: see the last text of the claim. No condition of its own. -/
import Derived.Test.YtddagflhafkbnaaGreatDoorK8
import Derived.Test.YtddagflhafkbnaaGreatDoorE1
set_option linter.all false
namespace Go.Abs
set_option autoImplicit false
set_option linter.all false
noncomputable def c_law05_HostNumbers (x : List UInt8) : Option Bool := Abs.Call E 7 x
noncomputable def c_law05_alive (x : Unit) : Option Bool := Abs.Call E 47 x
noncomputable def p_law05_HostNumbers_0 (s0_0 : List UInt8) : Option Bool := (Abs.Run E 7 (E.at 7 []) ⟨mkSlots [(0, (.val .str s0_0))], assocB [], assocR []⟩)
noncomputable def c_host_IPv4 (x : List UInt8) : Option (Int × Int) := Abs.Call E 40 x
noncomputable def p_host_IPv4_0 (s0_0 : List UInt8) : Option (Int × Int) := (Abs.Run E 40 (E.at 40 []) ⟨mkSlots [(0, (.val .str s0_0))], assocB [], assocR []⟩)
noncomputable def p_host_IPv4_1 (s0_0 : List UInt8) (s20_1 : Int) (s21_2 : Int) (r0_3 : List Int) (r1_4 : List (List UInt8)) : Option (Int × Int) := (Abs.Run E 40 (E.at 40 [1, 1, 1, 1, 0, 1, 0, 7]) ⟨mkSlots [(0, (.val .str s0_0)), (5, (.row 0)), (19, (.row 1)), (20, (.val (.int .i64) s20_1)), (21, (.val (.int .i64) s21_2))], mkBoxes [], mkRows [.mk (.int .i64) .live r0_3, .mk .str .live r1_4]⟩)
noncomputable def p_host_IPv4_2 (s0_0 : List UInt8) (s11_1 : Int) (s56lo_2 : Nat) (s56hi_3 : Nat) (s57_4 : Int) (s58_5 : Int) (r0_6 : List Int) : Option (Int × Int) := (Abs.Run E 40 (E.at 40 [1, 1, 1, 1, 1, 1, 1, 1, 0, 1, 0, 7]) ⟨mkSlots [(0, (.val .str s0_0)), (11, (.val (.int .i64) s11_1)), (56, (.part 0 s56lo_2 s56hi_3)), (57, (.val (.int .i64) s57_4)), (58, (.val (.int .i64) s58_5))], mkBoxes [], mkRows [.mk (.int .i64) .live r0_6]⟩)
noncomputable def c_ref05_IPv4 (x : List UInt8) : Option (Int × Int) := Abs.Call E 41 x
noncomputable def p_ref05_IPv4_0 (s0_0 : List UInt8) : Option (Int × Int) := (Abs.Run E 41 (E.at 41 []) ⟨mkSlots [(0, (.val .str s0_0))], assocB [], assocR []⟩)
noncomputable def p_ref05_IPv4_1 (s0_0 : List UInt8) (s6_1 : Int) (r0_2 : List (List UInt8)) (r1_3 : List Int) : Option (Int × Int) := (Abs.Run E 41 (E.at 41 [1, 1, 1, 1, 0, 1, 0, 7]) ⟨mkSlots [(0, (.val .str s0_0)), (4, (.row 0)), (5, (.row 1)), (6, (.val (.int .i64) s6_1))], mkBoxes [], mkRows [.mk .str .live r0_2, .mk (.int .i64) .live r1_3]⟩)
noncomputable def p_ref05_IPv4_2 (s0_0 : List UInt8) (s8_1 : Int) (s9_2 : Int) (r0_3 : List Int) : Option (Int × Int) := (Abs.Run E 41 (E.at 41 [1, 1, 1, 1, 1, 1, 0, 1, 0, 7]) ⟨mkSlots [(0, (.val .str s0_0)), (5, (.row 0)), (8, (.val (.int .i64) s8_1)), (9, (.val (.int .i64) s9_2))], mkBoxes [], mkRows [.mk (.int .i64) .live r0_3]⟩)
noncomputable def c_host_IPv6 (x : List UInt8) : Option ((List Int) × Int) := Abs.Call E 42 x
noncomputable def p_host_IPv6_0 (s0_0 : List UInt8) : Option ((List Int) × Int) := (Abs.Run E 42 (E.at 42 []) ⟨mkSlots [(0, (.val .str s0_0))], assocB [], assocR []⟩)
noncomputable def c_ref05_IPv6 (x : List UInt8) : Option ((List Int) × Int) := Abs.Call E 43 x
noncomputable def p_ref05_IPv6_0 (s0_0 : List UInt8) : Option ((List Int) × Int) := (Abs.Run E 43 (E.at 43 []) ⟨mkSlots [(0, (.val .str s0_0))], assocB [], assocR []⟩)
noncomputable def p_ref05_IPv6_1 (s0_0 : List UInt8) (s5_1 : Int) (s6_2 : Int) (b0_3 : (List Int)) (b1_4 : (List Int)) : Option ((List Int) × Int) := (Abs.Run E 43 (E.at 43 [1, 1, 1, 0, 1, 0, 7]) ⟨mkSlots [(0, (.val .str s0_0)), (2, (.addr (.box 0) [])), (4, (.addr (.box 1) [])), (5, (.val (.int .i64) s5_1)), (6, (.val (.int .i64) s6_2))], mkBoxes [.cells (.arr 8 (.int .u16)) .live (.val (.arr 8 (.int .u16)) b0_3), .cells (.arr 8 (.int .u16)) .live (.val (.arr 8 (.int .u16)) b1_4)], mkRows []⟩)
noncomputable def p_ref05_IPv6_2 (s0_0 : List UInt8) (s9_1 : Int) (b0_2 : (List Int)) (b1_3 : (List Int)) (r0_4 : List Int) : Option ((List Int) × Int) := (Abs.Run E 43 (E.at 43 [1, 1, 1, 1, 0, 1, 0, 1, 1, 0, 1, 0, 7]) ⟨mkSlots [(0, (.val .str s0_0)), (2, (.addr (.box 0) [])), (4, (.addr (.box 1) [])), (7, (.row 0)), (9, (.val (.int .i64) s9_1))], mkBoxes [.cells (.arr 8 (.int .u16)) .live (.val (.arr 8 (.int .u16)) b0_2), .cells (.arr 8 (.int .u16)) .live (.val (.arr 8 (.int .u16)) b1_3)], mkRows [.mk (.int .u16) .live r0_4]⟩)
noncomputable def p_ref05_IPv6_3 (s0_0 : List UInt8) (s14_1 : Int) (b0_2 : (List Int)) (b1_3 : (List Int)) (r0_4 : List Int) (r1_5 : List Int) : Option ((List Int) × Int) := (Abs.Run E 43 (E.at 43 [1, 1, 1, 1, 1, 1, 1, 1, 0, 1, 0, 7]) ⟨mkSlots [(0, (.val .str s0_0)), (2, (.addr (.box 0) [])), (4, (.addr (.box 1) [])), (10, (.row 0)), (12, (.row 1)), (14, (.val (.int .i64) s14_1))], mkBoxes [.cells (.arr 8 (.int .u16)) .live (.val (.arr 8 (.int .u16)) b0_2), .cells (.arr 8 (.int .u16)) .live (.val (.arr 8 (.int .u16)) b1_3)], mkRows [.mk (.int .u16) .live r0_4, .mk (.int .u16) .live r1_5]⟩)
noncomputable def p_ref05_IPv6_4 (s0_0 : List UInt8) (s15_1 : Int) (b0_2 : (List Int)) (b1_3 : (List Int)) (r0_4 : List Int) : Option ((List Int) × Int) := (Abs.Run E 43 (E.at 43 [1, 1, 1, 1, 1, 1, 1, 1, 1, 0, 1, 0, 7]) ⟨mkSlots [(0, (.val .str s0_0)), (2, (.addr (.box 0) [])), (4, (.addr (.box 1) [])), (12, (.row 0)), (15, (.val (.int .i64) s15_1))], mkBoxes [.cells (.arr 8 (.int .u16)) .live (.val (.arr 8 (.int .u16)) b0_2), .cells (.arr 8 (.int .u16)) .live (.val (.arr 8 (.int .u16)) b1_3)], mkRows [.mk (.int .u16) .live r0_4]⟩)
noncomputable def c_law05_num (x : Int) : Option Int := Abs.Call E 44 x
noncomputable def p_law05_num_0 (s0_0 : Int) : Option Int := (Abs.Run E 44 (E.at 44 []) ⟨mkSlots [(0, (.val (.int .i64) s0_0))], assocB [], assocR []⟩)
noncomputable def c_host_EndsInNumber (x : List UInt8) : Option Bool := Abs.Call E 45 x
noncomputable def p_host_EndsInNumber_0 (s0_0 : List UInt8) : Option Bool := (Abs.Run E 45 (E.at 45 []) ⟨mkSlots [(0, (.val .str s0_0))], assocB [], assocR []⟩)
noncomputable def c_ref05_EndsInNumber (x : List UInt8) : Option Bool := Abs.Call E 46 x
noncomputable def p_ref05_EndsInNumber_0 (s0_0 : List UInt8) : Option Bool := (Abs.Run E 46 (E.at 46 []) ⟨mkSlots [(0, (.val .str s0_0))], assocB [], assocR []⟩)
noncomputable def p_ref05_EndsInNumber_1 (s0_0 : List UInt8) (s4_1 : List UInt8) (s5_2 : Bool) (s6_3 : Int) : Option Bool := (Abs.Run E 46 (E.at 46 [1, 1, 1, 1, 1, 0, 1, 0, 7]) ⟨mkSlots [(0, (.val .str s0_0)), (4, (.val .str s4_1)), (5, (.val .bool s5_2)), (6, (.val (.int .i64) s6_3))], mkBoxes [], mkRows []⟩)
noncomputable def p_ref05_EndsInNumber_2 (s0_0 : List UInt8) (s4_1 : List UInt8) (s5_2 : Bool) (s7_3 : Bool) (s8_4 : Int) : Option Bool := (Abs.Run E 46 (E.at 46 [1, 1, 1, 1, 1, 1, 1, 0, 1, 0, 7]) ⟨mkSlots [(0, (.val .str s0_0)), (4, (.val .str s4_1)), (5, (.val .bool s5_2)), (7, (.val .bool s7_3)), (8, (.val (.int .i64) s8_4))], mkBoxes [], mkRows []⟩)
noncomputable def c_host_parts (x : List UInt8) : Option (List (List UInt8)) := Abs.Call E 112 x
noncomputable def p_host_parts_0 (s0_0 : List UInt8) : Option (List (List UInt8)) := (Abs.Run E 112 (E.at 112 []) ⟨mkSlots [(0, (.val .str s0_0))], assocB [], assocR []⟩)
noncomputable def c_host_number (x : List UInt8) : Option (Int × Bool) := Abs.Call E 113 x
noncomputable def p_host_number_0 (s0_0 : List UInt8) : Option (Int × Bool) := (Abs.Run E 113 (E.at 113 []) ⟨mkSlots [(0, (.val .str s0_0))], assocB [], assocR []⟩)
noncomputable def p_host_number_1 (s0_0 : List UInt8) (s4_1 : Int) : Option (Int × Bool) := (Abs.Run E 113 (E.at 113 [1, 1, 0, 0, 1, 9]) ⟨mkSlots [(0, (.val .str s0_0)), (4, (.val (.int .i64) s4_1))], mkBoxes [], mkRows []⟩)
noncomputable def p_host_number_2 (s0_0 : List UInt8) (s4_1 : Int) : Option (Int × Bool) := (Abs.Run E 113 (E.at 113 [1, 1, 0, 0, 1, 1, 1, 9]) ⟨mkSlots [(0, (.val .str s0_0)), (4, (.val (.int .i64) s4_1))], mkBoxes [], mkRows []⟩)
noncomputable def p_host_number_3 (s0_0 : List UInt8) (s4_1 : Int) (s5_2 : Int) (s40_3 : Int) (s41_4 : Int) : Option (Int × Bool) := (Abs.Run E 113 (E.at 113 [1, 1, 1, 1, 0, 1, 0, 7]) ⟨mkSlots [(0, (.val .str s0_0)), (4, (.val (.int .i64) s4_1)), (5, (.val (.int .i64) s5_2)), (40, (.val (.int .i64) s40_3)), (41, (.val (.int .i64) s41_4))], mkBoxes [], mkRows []⟩)
noncomputable def c_ref05_parts (x : List UInt8) : Option (List (List UInt8)) := Abs.Call E 114 x
noncomputable def p_ref05_parts_0 (s0_0 : List UInt8) : Option (List (List UInt8)) := (Abs.Run E 114 (E.at 114 []) ⟨mkSlots [(0, (.val .str s0_0))], assocB [], assocR []⟩)
noncomputable def c_ref05_number (x : List UInt8) : Option Int := Abs.Call E 115 x
noncomputable def p_ref05_number_0 (s0_0 : List UInt8) : Option Int := (Abs.Run E 115 (E.at 115 []) ⟨mkSlots [(0, (.val .str s0_0))], assocB [], assocR []⟩)
noncomputable def p_ref05_number_1 (s0_0 : List UInt8) (s3_1 : Int) : Option Int := (Abs.Run E 115 (E.at 115 [1, 1, 0, 0, 1, 9]) ⟨mkSlots [(0, (.val .str s0_0)), (3, (.val (.int .i64) s3_1))], mkBoxes [], mkRows []⟩)
noncomputable def p_ref05_number_2 (s0_0 : List UInt8) (s3_1 : Int) : Option Int := (Abs.Run E 115 (E.at 115 [1, 1, 0, 0, 1, 1, 1, 1, 1, 9]) ⟨mkSlots [(0, (.val .str s0_0)), (3, (.val (.int .i64) s3_1))], mkBoxes [], mkRows []⟩)
noncomputable def p_ref05_number_3 (s0_0 : List UInt8) (s3_1 : Int) (s4_2 : Int) (s5_3 : Int) : Option Int := (Abs.Run E 115 (E.at 115 [1, 1, 1, 1, 0, 1, 0, 7]) ⟨mkSlots [(0, (.val .str s0_0)), (3, (.val (.int .i64) s3_1)), (4, (.val (.int .i64) s4_2)), (5, (.val (.int .i64) s5_3))], mkBoxes [], mkRows []⟩)
noncomputable def c_strings_Cut (x : (List UInt8 × List UInt8)) : Option (List UInt8 × (List UInt8 × Bool)) := Abs.Call E 116 x
noncomputable def p_strings_Cut_0 (s0_0 : List UInt8) (s1_1 : List UInt8) : Option (List UInt8 × (List UInt8 × Bool)) := (Abs.Run E 116 (E.at 116 []) ⟨mkSlots [(1, (.val .str s1_1)), (0, (.val .str s0_0))], assocB [], assocR []⟩)
noncomputable def c_host_pieces (x : (List UInt8 × Bool)) : Option ((List Int) × Bool) := Abs.Call E 117 x
noncomputable def p_host_pieces_0 (s0_0 : List UInt8) (s1_1 : Bool) : Option ((List Int) × Bool) := (Abs.Run E 117 (E.at 117 []) ⟨mkSlots [(1, (.val .bool s1_1)), (0, (.val .str s0_0))], assocB [], assocR []⟩)
noncomputable def p_host_pieces_1 (s0_0 : List UInt8) (s1_1 : Bool) (s19_2 : Int) (s20_3 : Int) (r0_4 : List Int) (r1_5 : List (List UInt8)) : Option ((List Int) × Bool) := (Abs.Run E 117 (E.at 117 [1, 1, 1, 1, 0, 1, 0, 7]) ⟨mkSlots [(0, (.val .str s0_0)), (1, (.val .bool s1_1)), (6, (.row 0)), (7, (.row 1)), (18, (.row 1)), (19, (.val (.int .i64) s19_2)), (20, (.val (.int .i64) s20_3))], mkBoxes [], mkRows [.mk (.int .u16) .live r0_4, .mk .str .live r1_5]⟩)
noncomputable def c_ref05_run (x : (List UInt8 × Bool)) : Option ((List Int) × Bool) := Abs.Call E 118 x
noncomputable def p_ref05_run_0 (s0_0 : List UInt8) (s1_1 : Bool) : Option ((List Int) × Bool) := (Abs.Run E 118 (E.at 118 []) ⟨mkSlots [(1, (.val .bool s1_1)), (0, (.val .str s0_0))], assocB [], assocR []⟩)
noncomputable def p_ref05_run_1 (s0_0 : List UInt8) (s1_1 : Bool) (s8_2 : Int) (r0_3 : List (List UInt8)) (r1_4 : List Int) : Option ((List Int) × Bool) := (Abs.Run E 118 (E.at 118 [1, 1, 1, 1, 0, 1, 0, 7]) ⟨mkSlots [(0, (.val .str s0_0)), (1, (.val .bool s1_1)), (6, (.row 0)), (7, (.row 1)), (8, (.val (.int .i64) s8_2))], mkBoxes [], mkRows [.mk .str .live r0_3, .mk (.int .u16) .live r1_4]⟩)
noncomputable def p_ref05_run_2 (s0_0 : List UInt8) (s1_1 : Bool) (s8_2 : Int) (s10_3 : Int) (s11_4 : Int) (r0_5 : List (List UInt8)) (r1_6 : List Int) (r2_7 : List (List UInt8)) : Option ((List Int) × Bool) := (Abs.Run E 118 (E.at 118 [1, 1, 1, 1, 0, 1, 0, 0, 1, 0, 0, 0, 1, 0, 1, 1, 1, 0, 1, 0, 7]) ⟨mkSlots [(0, (.val .str s0_0)), (1, (.val .bool s1_1)), (6, (.row 0)), (7, (.row 1)), (8, (.val (.int .i64) s8_2)), (9, (.row 2)), (10, (.val (.int .i64) s10_3)), (11, (.val (.int .i64) s11_4))], mkBoxes [], mkRows [.mk .str .live r0_5, .mk (.int .u16) .live r1_6, .mk .str .live r2_7]⟩)
noncomputable def p_ref05_run_3 (s0_0 : List UInt8) (s1_1 : Bool) (s8_2 : Int) (s13_3 : Int) (s14_4 : Int) (r0_5 : List (List UInt8)) (r1_6 : List Int) : Option ((List Int) × Bool) := (Abs.Run E 118 (E.at 118 [1, 1, 1, 1, 0, 1, 0, 0, 1, 0, 0, 1, 1, 1, 0, 1, 0, 7]) ⟨mkSlots [(0, (.val .str s0_0)), (1, (.val .bool s1_1)), (6, (.row 0)), (7, (.row 1)), (8, (.val (.int .i64) s8_2)), (13, (.val (.int .i64) s13_3)), (14, (.val (.int .i64) s14_4))], mkBoxes [], mkRows [.mk .str .live r0_5, .mk (.int .u16) .live r1_6]⟩)
noncomputable def c_octets_Lower (x : List UInt8) : Option (List UInt8) := Abs.Call E 119 x
noncomputable def p_octets_Lower_0 (s0_0 : List UInt8) : Option (List UInt8) := (Abs.Run E 119 (E.at 119 []) ⟨mkSlots [(0, (.val .str s0_0))], assocB [], assocR []⟩)
noncomputable def c_strings_HasPrefix (x : (List UInt8 × List UInt8)) : Option Bool := Abs.Call E 120 x
noncomputable def p_strings_HasPrefix_0 (s0_0 : List UInt8) (s1_1 : List UInt8) : Option Bool := (Abs.Run E 120 (E.at 120 []) ⟨mkSlots [(1, (.val .str s1_1)), (0, (.val .str s0_0))], assocB [], assocR []⟩)
noncomputable def c_host_all (x : (List UInt8 × List UInt8)) : Option Bool := Abs.Call E 121 x
noncomputable def p_host_all_0 (s0_0 : List UInt8) (s1_1 : List UInt8) : Option Bool := (Abs.Run E 121 (E.at 121 []) ⟨mkSlots [(1, (.val .str s1_1)), (0, (.val .str s0_0))], assocB [], assocR []⟩)
noncomputable def c_ref01_Nibble (x : Int) : Option Int := Abs.Call E 122 x
noncomputable def p_ref01_Nibble_0 (s0_0 : Int) : Option Int := (Abs.Run E 122 (E.at 122 []) ⟨mkSlots [(0, (.val (.int .u8) s0_0))], assocB [], assocR []⟩)
noncomputable def c_octets_Split (x : (List UInt8 × Int)) : Option (List (List UInt8)) := Abs.Call E 142 x
noncomputable def p_octets_Split_0 (s0_0 : List UInt8) (s1_1 : Int) : Option (List (List UInt8)) := (Abs.Run E 142 (E.at 142 []) ⟨mkSlots [(1, (.val (.int .u8) s1_1)), (0, (.val .str s0_0))], assocB [], assocR []⟩)
noncomputable def p_octets_Split_1 (s0_0 : List UInt8) (s1_1 : Int) (s6_2 : Int) (s9_3 : Int) (s10_4 : Int) (r0_5 : List (List UInt8)) : Option (List (List UInt8)) := (Abs.Run E 142 (E.at 142 [1, 1, 1, 0, 1, 0, 7]) ⟨mkSlots [(0, (.val .str s0_0)), (1, (.val (.int .u8) s1_1)), (5, (.row 0)), (6, (.val (.int .i64) s6_2)), (9, (.val (.int .i64) s9_3)), (10, (.val (.int .i64) s10_4))], mkBoxes [], mkRows [.mk .str .live r0_5]⟩)
noncomputable def c_ref01_Split (x : (List UInt8 × Int)) : Option (List (List UInt8)) := Abs.Call E 144 x
noncomputable def p_ref01_Split_0 (s0_0 : List UInt8) (s1_1 : Int) : Option (List (List UInt8)) := (Abs.Run E 144 (E.at 144 []) ⟨mkSlots [(1, (.val (.int .u8) s1_1)), (0, (.val .str s0_0))], assocB [], assocR []⟩)
noncomputable def p_ref01_Split_1 (s0_0 : List UInt8) (s1_1 : Int) (s6_2 : Int) (s7_3 : Int) (r0_4 : List (List UInt8)) : Option (List (List UInt8)) := (Abs.Run E 144 (E.at 144 [1, 1, 1, 0, 1, 0, 7]) ⟨mkSlots [(0, (.val .str s0_0)), (1, (.val (.int .u8) s1_1)), (5, (.row 0)), (6, (.val (.int .i64) s6_2)), (7, (.val (.int .i64) s7_3))], mkBoxes [], mkRows [.mk .str .live r0_4]⟩)
noncomputable def c_istringslite_Cut (x : (List UInt8 × List UInt8)) : Option (List UInt8 × (List UInt8 × Bool)) := Abs.Call E 169 x
noncomputable def p_istringslite_Cut_0 (s0_0 : List UInt8) (s1_1 : List UInt8) : Option (List UInt8 × (List UInt8 × Bool)) := (Abs.Run E 169 (E.at 169 []) ⟨mkSlots [(1, (.val .str s1_1)), (0, (.val .str s0_0))], assocB [], assocR []⟩)
noncomputable def c_strings_Contains (x : (List UInt8 × List UInt8)) : Option Bool := Abs.Call E 170 x
noncomputable def p_strings_Contains_0 (s0_0 : List UInt8) (s1_1 : List UInt8) : Option Bool := (Abs.Run E 170 (E.at 170 []) ⟨mkSlots [(1, (.val .str s1_1)), (0, (.val .str s0_0))], assocB [], assocR []⟩)
noncomputable def c_host_tail (x : List UInt8) : Option ((List Int) × Bool) := Abs.Call E 171 x
noncomputable def p_host_tail_0 (s0_0 : List UInt8) : Option ((List Int) × Bool) := (Abs.Run E 171 (E.at 171 []) ⟨mkSlots [(0, (.val .str s0_0))], assocB [], assocR []⟩)
noncomputable def p_host_tail_1 (s0_0 : List UInt8) (s15_1 : Int) (s16_2 : Int) (b0_3 : (List Int)) (r0_4 : List (List UInt8)) : Option ((List Int) × Bool) := (Abs.Run E 171 (E.at 171 [1, 1, 1, 1, 0, 1, 0, 7]) ⟨mkSlots [(0, (.val .str s0_0)), (5, (.addr (.box 0) [])), (14, (.row 0)), (15, (.val (.int .i64) s15_1)), (16, (.val (.int .i64) s16_2))], mkBoxes [.cells (.arr 4 (.int .u16)) .live (.val (.arr 4 (.int .u16)) b0_3)], mkRows [.mk .str .live r0_4]⟩)
noncomputable def p_host_tail_2 (s0_0 : List UInt8) (s6_1 : Int) (s7_2 : List UInt8) (s15_3 : Int) (s16_4 : Int) (s44_5 : Int) (s45_6 : Int) (b0_7 : (List Int)) (r0_8 : List (List UInt8)) : Option ((List Int) × Bool) := (Abs.Run E 171 (E.at 171 [1, 1, 1, 1, 0, 1, 0, 0, 1, 1, 0, 0, 1, 1, 0, 1, 0, 7]) ⟨mkSlots [(0, (.val .str s0_0)), (5, (.addr (.box 0) [])), (6, (.val (.int .i64) s6_1)), (7, (.val .str s7_2)), (14, (.row 0)), (15, (.val (.int .i64) s15_3)), (16, (.val (.int .i64) s16_4)), (44, (.val (.int .i64) s44_5)), (45, (.val (.int .i64) s45_6))], mkBoxes [.cells (.arr 4 (.int .u16)) .live (.val (.arr 4 (.int .u16)) b0_7)], mkRows [.mk .str .live r0_8]⟩)
noncomputable def c_ref01_Has (x : (List UInt8 × Int)) : Option Bool := Abs.Call E 52 x
noncomputable def p_ref01_Has_0 (s0_0 : List UInt8) (s1_1 : Int) : Option Bool := (Abs.Run E 52 (E.at 52 []) ⟨mkSlots [(1, (.val (.int .u8) s1_1)), (0, (.val .str s0_0))], assocB [], assocR []⟩)
noncomputable def p_ref01_Has_1 (s0_0 : List UInt8) (s1_1 : Int) (s5_2 : Int) : Option Bool := (Abs.Run E 52 (E.at 52 [1, 0, 1, 0, 7]) ⟨mkSlots [(0, (.val .str s0_0)), (1, (.val (.int .u8) s1_1)), (5, (.val (.int .i64) s5_2))], mkBoxes [], mkRows []⟩)
noncomputable def c_ref05_small (x : List UInt8) : Option Int := Abs.Call E 172 x
noncomputable def p_ref05_small_0 (s0_0 : List UInt8) : Option Int := (Abs.Run E 172 (E.at 172 []) ⟨mkSlots [(0, (.val .str s0_0))], assocB [], assocR []⟩)
noncomputable def p_ref05_small_1 (s0_0 : List UInt8) (s3_1 : Int) (s4_2 : Int) : Option Int := (Abs.Run E 172 (E.at 172 [1, 1, 1, 0, 1, 0, 7]) ⟨mkSlots [(0, (.val .str s0_0)), (3, (.val (.int .i64) s3_1)), (4, (.val (.int .i64) s4_2))], mkBoxes [], mkRows []⟩)
noncomputable def c_octets_turned (x : (List UInt8 × (Int × Int))) : Option (List UInt8) := Abs.Call E 129 x
noncomputable def p_octets_turned_0 (s0_0 : List UInt8) (s1_1 : Int) (s2_2 : Int) : Option (List UInt8) := (Abs.Run E 129 (E.at 129 []) ⟨mkSlots [(2, (.val (.int .u8) s2_2)), (1, (.val (.int .u8) s1_1)), (0, (.val .str s0_0))], assocB [], assocR []⟩)
noncomputable def p_octets_turned_1 (s0_0 : List UInt8) (s1_1 : Int) (s2_2 : Int) (s13_3 : Int) (s14_4 : Int) (r0_5 : List Int) : Option (List UInt8) := (Abs.Run E 129 (E.at 129 [1, 1, 0, 1, 0, 7]) ⟨mkSlots [(0, (.val .str s0_0)), (1, (.val (.int .u8) s1_1)), (2, (.val (.int .u8) s2_2)), (7, (.row 0)), (12, (.row 0)), (13, (.val (.int .i64) s13_3)), (14, (.val (.int .i64) s14_4))], mkBoxes [], mkRows [.mk (.int .u8) .live r0_5]⟩)
noncomputable def c_istringslite_HasPrefix (x : (List UInt8 × List UInt8)) : Option Bool := Abs.Call E 173 x
noncomputable def p_istringslite_HasPrefix_0 (s0_0 : List UInt8) (s1_1 : List UInt8) : Option Bool := (Abs.Run E 173 (E.at 173 []) ⟨mkSlots [(1, (.val .str s1_1)), (0, (.val .str s0_0))], assocB [], assocR []⟩)
noncomputable def c_host_cutLeft (x : (List UInt8 × List UInt8)) : Option (List UInt8) := Abs.Call E 175 x
noncomputable def p_host_cutLeft_0 (s0_0 : List UInt8) (s1_1 : List UInt8) : Option (List UInt8) := (Abs.Run E 175 (E.at 175 []) ⟨mkSlots [(1, (.val .str s1_1)), (0, (.val .str s0_0))], assocB [], assocR []⟩)
noncomputable def p_host_cutLeft_1 (s0_0 : List UInt8) (s1_1 : List UInt8) (t0_2 : List UInt8) (n0_3 : Nat) : Option (List UInt8) := (Abs.Run E 175 (E.at 175 [1, 0, 1, 0, 7]) ⟨mkSlots [(0, (.val .str s0_0)), (1, (.val .str s1_1)), (11, (.addr (.box 0) []))], mkBoxes [.iter t0_2 n0_3], mkRows []⟩)
noncomputable def p_host_cutLeft_2 (s0_0 : List UInt8) (s1_1 : List UInt8) (s5_2 : Int) (s6_3 : Int) (s7_4 : Bool) (t0_5 : List UInt8) (n0_6 : Nat) (t1_7 : List UInt8) (n1_8 : Nat) : Option (List UInt8) := (Abs.Run E 175 (E.at 175 [1, 0, 1, 0, 0, 1, 1, 0, 1, 1, 0, 1, 0, 7]) ⟨mkSlots [(0, (.val .str s0_0)), (1, (.val .str s1_1)), (5, (.val (.int .i64) s5_2)), (6, (.val (.int .i32) s6_3)), (7, (.val .bool s7_4)), (11, (.addr (.box 0) [])), (17, (.addr (.box 1) []))], mkBoxes [.iter t0_5 n0_6, .iter t1_7 n1_8], mkRows []⟩)
noncomputable def c_host_cutRight (x : (List UInt8 × List UInt8)) : Option (List UInt8) := Abs.Call E 174 x
noncomputable def p_host_cutRight_0 (s0_0 : List UInt8) (s1_1 : List UInt8) : Option (List UInt8) := (Abs.Run E 174 (E.at 174 []) ⟨mkSlots [(1, (.val .str s1_1)), (0, (.val .str s0_0))], assocB [], assocR []⟩)
noncomputable def p_host_cutRight_1 (s0_0 : List UInt8) (s1_1 : List UInt8) : Option (List UInt8) := (Abs.Run E 174 (E.at 174 [1, 0, 0, 7]) ⟨mkSlots [(0, (.val .str s0_0)), (1, (.val .str s1_1))], mkBoxes [], mkRows []⟩)
noncomputable def p_host_cutRight_2 (s0_0 : List UInt8) (s1_1 : List UInt8) (s5_2 : Int) (s6_3 : Int) (s7_4 : Bool) (t0_5 : List UInt8) (n0_6 : Nat) : Option (List UInt8) := (Abs.Run E 174 (E.at 174 [1, 0, 0, 0, 1, 0, 1, 1, 0, 1, 0, 7]) ⟨mkSlots [(0, (.val .str s0_0)), (1, (.val .str s1_1)), (5, (.val (.int .i32) s5_2)), (6, (.val (.int .i64) s6_3)), (7, (.val .bool s7_4)), (19, (.addr (.box 0) []))], mkBoxes [.iter t0_5 n0_6], mkRows []⟩)
noncomputable def c_ref01_digit (x : Int) : Option Bool := Abs.Call E 176 x
noncomputable def p_ref01_digit_0 (s0_0 : Int) : Option Bool := (Abs.Run E 176 (E.at 176 []) ⟨mkSlots [(0, (.val (.int .u8) s0_0))], assocB [], assocR []⟩)
noncomputable def c_utf8_DecodeLastRuneInString (x : List UInt8) : Option (Int × Int) := Abs.Call E 215 x
noncomputable def c_strings_IndexByte (x : (List UInt8 × Int)) : Option Int := Abs.Call E 126 x
noncomputable def c_istringslite_Index (x : (List UInt8 × List UInt8)) : Option Int := Abs.Call E 213 x
noncomputable def c_strings_Index (x : (List UInt8 × List UInt8)) : Option Int := Abs.Call E 214 x
theorem c_law05_HostNumbers_eq (x : List UInt8) : c_law05_HostNumbers x =
    p_law05_HostNumbers_0 x := by kernel_rfl
theorem p_law05_HostNumbers_0_eq (s0_0 : List UInt8) : p_law05_HostNumbers_0 s0_0 =
    (c_host_IPv4 s0_0).bind fun y0 =>
      (c_ref05_IPv4 s0_0).bind fun y1 =>
        (c_host_IPv6 s0_0).bind fun y2 =>
          (c_ref05_IPv6 s0_0).bind fun y3 =>
            bif (y0.1 == y1.1) then
              (c_law05_num y0.2).bind fun y4 =>
                bif (y4 == y1.2) then
                  bif (Ty.beq (.arr 8 (.int .u16)) y2.1 y3.1) then
                    (c_law05_num y2.2).bind fun y5 =>
                      bif (y5 == y3.2) then
                        (c_host_EndsInNumber s0_0).bind fun y6 =>
                          (c_ref05_EndsInNumber s0_0).bind fun y7 =>
                            bif (y6 == y7) then
                              (c_law05_alive ()).bind fun y8 =>
                                some y8
                            else
                              some false
                      else
                        some false
                  else
                    some false
                else
                  some false
            else
              some false := of_eq (by kernel_rfl) (Run_unfold E 7 (E.at 7 []) ⟨mkSlots [(0, (.val .str s0_0))], assocB [], assocR []⟩)
theorem c_host_IPv4_eq (x : List UInt8) : c_host_IPv4 x =
    p_host_IPv4_0 x := by kernel_rfl
theorem p_host_IPv4_0_eq (s0_0 : List UInt8) : p_host_IPv4_0 s0_0 =
    (c_host_parts s0_0).bind fun y0 =>
      bif (decide ((((List.length y0) : Nat) : Int) > (4 : Int))) then
        some ((0 : Int), (3 : Int))
      else
        p_host_IPv4_1 s0_0 (((List.length y0) : Nat) : Int) (0 : Int) ([] : List Int) y0 := of_eq (by kernel_rfl) (Run_unfold E 40 (E.at 40 []) ⟨mkSlots [(0, (.val .str s0_0))], assocB [], assocR []⟩)
theorem p_host_IPv4_1_eq (s0_0 : List UInt8) (s20_1 : Int) (s21_2 : Int) (r0_3 : List Int) (r1_4 : List (List UInt8)) : p_host_IPv4_1 s0_0 s20_1 s21_2 r0_3 r1_4 =
    bif (decide (s21_2 < s20_1)) then
      bif (inside s21_2 (List.length r1_4)) then
        (c_host_number (List.getD r1_4 (Int.toNat s21_2) (Ty.zero .str))).bind fun y0 =>
          bif (!y0.2) then
            some ((0 : Int), (54 : Int))
          else
            bif (decide (((List.length r0_3) + (List.length ([y0.1] : List Int))) ≤ (lim))) then
              p_host_IPv4_1 s0_0 s20_1 (IntKind.wrap IntKind.i64 (s21_2 + (1 : Int))) (r0_3 ++ ([y0.1] : List Int)) r1_4
            else
              none
      else
        none
    else
      bif (inside (IntKind.wrap IntKind.i64 ((((List.length r0_3) : Nat) : Int) - (1 : Int))) (List.length r0_3)) then
        bif (decide ((0 : Int) ≤ (IntKind.wrap IntKind.i64 ((8 : Int) * (IntKind.wrap IntKind.i64 ((5 : Int) - (((List.length r0_3) : Nat) : Int))))))) then
          bif (decide ((List.getD r0_3 (Int.toNat (IntKind.wrap IntKind.i64 ((((List.length r0_3) : Nat) : Int) - (1 : Int)))) (Ty.zero (.int .i64))) ≥ (shl IntKind.i64 (1 : Int) (IntKind.wrap IntKind.i64 ((8 : Int) * (IntKind.wrap IntKind.i64 ((5 : Int) - (((List.length r0_3) : Nat) : Int)))))))) then
            some ((0 : Int), (4 : Int))
          else
            bif (inside (IntKind.wrap IntKind.i64 ((((List.length r0_3) : Nat) : Int) - (1 : Int))) (List.length r0_3)) then
              bif (cutOk none (some (IntKind.wrap IntKind.i64 ((((List.length r0_3) : Nat) : Int) - (1 : Int)))) (List.length r0_3)) then
                p_host_IPv4_2 s0_0 (List.getD r0_3 (Int.toNat (IntKind.wrap IntKind.i64 ((((List.length r0_3) : Nat) : Int) - (1 : Int)))) (Ty.zero (.int .i64))) (Option.getD (Option.map (Int.toNat) none) 0) (Option.getD (Option.map (Int.toNat) (some (IntKind.wrap IntKind.i64 ((((List.length r0_3) : Nat) : Int) - (1 : Int))))) (List.length r0_3)) ((((Option.getD (Option.map (Int.toNat) (some (IntKind.wrap IntKind.i64 ((((List.length r0_3) : Nat) : Int) - (1 : Int))))) (List.length r0_3)) - (Option.getD (Option.map (Int.toNat) none) 0)) : Nat) : Int) (0 : Int) r0_3
              else
                none
            else
              none
        else
          none
      else
        none := of_eq (by kernel_rfl) (Run_unfold E 40 (E.at 40 [1, 1, 1, 1, 0, 1, 0, 7]) ⟨mkSlots [(0, (.val .str s0_0)), (5, (.row 0)), (19, (.row 1)), (20, (.val (.int .i64) s20_1)), (21, (.val (.int .i64) s21_2))], mkBoxes [], mkRows [.mk (.int .i64) .live r0_3, .mk .str .live r1_4]⟩)
theorem p_host_IPv4_2_eq (s0_0 : List UInt8) (s11_1 : Int) (s56lo_2 : Nat) (s56hi_3 : Nat) (s57_4 : Int) (s58_5 : Int) (r0_6 : List Int) : p_host_IPv4_2 s0_0 s11_1 s56lo_2 s56hi_3 s57_4 s58_5 r0_6 =
    bif (decide (s58_5 < s57_4)) then
      bif (inside s58_5 (s56hi_3 - s56lo_2)) then
        bif (decide ((List.getD r0_6 (s56lo_2 + (Int.toNat s58_5)) (Ty.zero (.int .i64))) > (255 : Int))) then
          some ((0 : Int), (4 : Int))
        else
          bif (decide ((0 : Int) ≤ (IntKind.wrap IntKind.i64 ((8 : Int) * (IntKind.wrap IntKind.i64 ((3 : Int) - s58_5)))))) then
            p_host_IPv4_2 s0_0 (IntKind.wrap IntKind.i64 (s11_1 + (shl IntKind.i64 (List.getD r0_6 (s56lo_2 + (Int.toNat s58_5)) (Ty.zero (.int .i64))) (IntKind.wrap IntKind.i64 ((8 : Int) * (IntKind.wrap IntKind.i64 ((3 : Int) - s58_5))))))) s56lo_2 s56hi_3 s57_4 (IntKind.wrap IntKind.i64 (s58_5 + (1 : Int))) r0_6
          else
            none
      else
        none
    else
      some ((IntKind.wrap IntKind.u32 s11_1), (0 : Int)) := of_eq (by kernel_rfl) (Run_unfold E 40 (E.at 40 [1, 1, 1, 1, 1, 1, 1, 1, 0, 1, 0, 7]) ⟨mkSlots [(0, (.val .str s0_0)), (11, (.val (.int .i64) s11_1)), (56, (.part 0 s56lo_2 s56hi_3)), (57, (.val (.int .i64) s57_4)), (58, (.val (.int .i64) s58_5))], mkBoxes [], mkRows [.mk (.int .i64) .live r0_6]⟩)
theorem c_ref05_IPv4_eq (x : List UInt8) : c_ref05_IPv4 x =
    p_ref05_IPv4_0 x := by kernel_rfl
theorem p_ref05_IPv4_0_eq (s0_0 : List UInt8) : p_ref05_IPv4_0 s0_0 =
    (c_ref05_parts s0_0).bind fun y0 =>
      bif (decide ((((List.length y0) : Nat) : Int) > (4 : Int))) then
        some ((0 : Int), (3 : Int))
      else
        p_ref05_IPv4_1 s0_0 (0 : Int) y0 ([] : List Int) := of_eq (by kernel_rfl) (Run_unfold E 41 (E.at 41 []) ⟨mkSlots [(0, (.val .str s0_0))], assocB [], assocR []⟩)
theorem p_ref05_IPv4_1_eq (s0_0 : List UInt8) (s6_1 : Int) (r0_2 : List (List UInt8)) (r1_3 : List Int) : p_ref05_IPv4_1 s0_0 s6_1 r0_2 r1_3 =
    bif (decide (s6_1 < (((List.length r0_2) : Nat) : Int))) then
      bif (inside s6_1 (List.length r0_2)) then
        (c_ref05_number (List.getD r0_2 (Int.toNat s6_1) (Ty.zero .str))).bind fun y0 =>
          bif (decide (y0 < (0 : Int))) then
            some ((0 : Int), (54 : Int))
          else
            bif (decide (((List.length r1_3) + (List.length ([y0] : List Int))) ≤ (lim))) then
              p_ref05_IPv4_1 s0_0 (IntKind.wrap IntKind.i64 (s6_1 + (1 : Int))) r0_2 (r1_3 ++ ([y0] : List Int))
            else
              none
      else
        none
    else
      p_ref05_IPv4_2 s0_0 (0 : Int) (0 : Int) r1_3 := of_eq (by kernel_rfl) (Run_unfold E 41 (E.at 41 [1, 1, 1, 1, 0, 1, 0, 7]) ⟨mkSlots [(0, (.val .str s0_0)), (4, (.row 0)), (5, (.row 1)), (6, (.val (.int .i64) s6_1))], mkBoxes [], mkRows [.mk .str .live r0_2, .mk (.int .i64) .live r1_3]⟩)
theorem p_ref05_IPv4_2_eq (s0_0 : List UInt8) (s8_1 : Int) (s9_2 : Int) (r0_3 : List Int) : p_ref05_IPv4_2 s0_0 s8_1 s9_2 r0_3 =
    bif (decide (s9_2 < (IntKind.wrap IntKind.i64 ((((List.length r0_3) : Nat) : Int) - (1 : Int))))) then
      bif (inside s9_2 (List.length r0_3)) then
        bif (decide ((List.getD r0_3 (Int.toNat s9_2) (Ty.zero (.int .i64))) > (255 : Int))) then
          some ((0 : Int), (4 : Int))
        else
          bif (inside s9_2 (List.length r0_3)) then
            bif (decide ((0 : Int) ≤ (IntKind.wrap IntKind.u64 (IntKind.wrap IntKind.i64 ((8 : Int) * (IntKind.wrap IntKind.i64 ((3 : Int) - s9_2))))))) then
              p_ref05_IPv4_2 s0_0 (IntKind.wrap IntKind.i64 (s8_1 + (shl IntKind.i64 (List.getD r0_3 (Int.toNat s9_2) (Ty.zero (.int .i64))) (IntKind.wrap IntKind.u64 (IntKind.wrap IntKind.i64 ((8 : Int) * (IntKind.wrap IntKind.i64 ((3 : Int) - s9_2)))))))) (IntKind.wrap IntKind.i64 (s9_2 + (1 : Int))) r0_3
            else
              none
          else
            none
      else
        none
    else
      bif (inside (IntKind.wrap IntKind.i64 ((((List.length r0_3) : Nat) : Int) - (1 : Int))) (List.length r0_3)) then
        bif (decide ((0 : Int) ≤ (IntKind.wrap IntKind.u64 (IntKind.wrap IntKind.i64 ((8 : Int) * (IntKind.wrap IntKind.i64 ((5 : Int) - (((List.length r0_3) : Nat) : Int)))))))) then
          bif (decide ((List.getD r0_3 (Int.toNat (IntKind.wrap IntKind.i64 ((((List.length r0_3) : Nat) : Int) - (1 : Int)))) (Ty.zero (.int .i64))) ≥ (shl IntKind.i64 (1 : Int) (IntKind.wrap IntKind.u64 (IntKind.wrap IntKind.i64 ((8 : Int) * (IntKind.wrap IntKind.i64 ((5 : Int) - (((List.length r0_3) : Nat) : Int))))))))) then
            some ((0 : Int), (4 : Int))
          else
            some ((IntKind.wrap IntKind.u32 (IntKind.wrap IntKind.i64 (s8_1 + (List.getD r0_3 (Int.toNat (IntKind.wrap IntKind.i64 ((((List.length r0_3) : Nat) : Int) - (1 : Int)))) (Ty.zero (.int .i64)))))), (0 : Int))
        else
          none
      else
        none := of_eq (by kernel_rfl) (Run_unfold E 41 (E.at 41 [1, 1, 1, 1, 1, 1, 0, 1, 0, 7]) ⟨mkSlots [(0, (.val .str s0_0)), (5, (.row 0)), (8, (.val (.int .i64) s8_1)), (9, (.val (.int .i64) s9_2))], mkBoxes [], mkRows [.mk (.int .i64) .live r0_3]⟩)
theorem c_host_IPv6_eq (x : List UInt8) : c_host_IPv6 x =
    p_host_IPv6_0 x := by kernel_rfl
theorem p_host_IPv6_0_eq (s0_0 : List UInt8) : p_host_IPv6_0 s0_0 =
    (c_strings_Cut (s0_0, ([(58 : UInt8), (58 : UInt8)] : List UInt8))).bind fun y0 =>
      (c_host_pieces (y0.1, (!y0.2.2))).bind fun y1 =>
        (c_host_pieces (y0.2.1, true)).bind fun y2 =>
          bif (!y1.2) then
            some ((Ty.zero (.arr 8 (.int .u16))), (55 : Int))
          else
            bif (!y2.2) then
              some ((Ty.zero (.arr 8 (.int .u16))), (55 : Int))
            else
              bif y0.2.2 then
                bif (decide ((IntKind.wrap IntKind.i64 ((((List.length y1.1) : Nat) : Int) + (((List.length y2.1) : Nat) : Int))) > (7 : Int))) then
                  some ((Ty.zero (.arr 8 (.int .u16))), (55 : Int))
                else
                  bif (!y0.2.2) then
                    bif ((IntKind.wrap IntKind.i64 ((((List.length y1.1) : Nat) : Int) + (((List.length y2.1) : Nat) : Int))) != (8 : Int)) then
                      some ((Ty.zero (.arr 8 (.int .u16))), (55 : Int))
                    else
                      bif (cutOk (some (IntKind.wrap IntKind.i64 ((8 : Int) - (((List.length y2.1) : Nat) : Int)))) none 8) then
                        some ((((List.take (Option.getD (Option.map (Int.toNat) (some (IntKind.wrap IntKind.i64 ((8 : Int) - (((List.length y2.1) : Nat) : Int))))) 0) (((List.take (Option.getD (Option.map (Int.toNat) none) 0) (Ty.zero (.arr 8 (.int .u16)))) ++ (List.take ((Option.getD (Option.map (Int.toNat) none) 8) - (Option.getD (Option.map (Int.toNat) none) 0)) y1.1)) ++ (List.drop ((Option.getD (Option.map (Int.toNat) none) 0) + (Min.min (List.length y1.1) ((Option.getD (Option.map (Int.toNat) none) 8) - (Option.getD (Option.map (Int.toNat) none) 0)))) (Ty.zero (.arr 8 (.int .u16)))))) ++ (List.take ((Option.getD (Option.map (Int.toNat) none) 8) - (Option.getD (Option.map (Int.toNat) (some (IntKind.wrap IntKind.i64 ((8 : Int) - (((List.length y2.1) : Nat) : Int))))) 0)) y2.1)) ++ (List.drop ((Option.getD (Option.map (Int.toNat) (some (IntKind.wrap IntKind.i64 ((8 : Int) - (((List.length y2.1) : Nat) : Int))))) 0) + (Min.min (List.length y2.1) ((Option.getD (Option.map (Int.toNat) none) 8) - (Option.getD (Option.map (Int.toNat) (some (IntKind.wrap IntKind.i64 ((8 : Int) - (((List.length y2.1) : Nat) : Int))))) 0)))) (((List.take (Option.getD (Option.map (Int.toNat) none) 0) (Ty.zero (.arr 8 (.int .u16)))) ++ (List.take ((Option.getD (Option.map (Int.toNat) none) 8) - (Option.getD (Option.map (Int.toNat) none) 0)) y1.1)) ++ (List.drop ((Option.getD (Option.map (Int.toNat) none) 0) + (Min.min (List.length y1.1) ((Option.getD (Option.map (Int.toNat) none) 8) - (Option.getD (Option.map (Int.toNat) none) 0)))) (Ty.zero (.arr 8 (.int .u16))))))), (0 : Int))
                      else
                        none
                  else
                    bif (cutOk (some (IntKind.wrap IntKind.i64 ((8 : Int) - (((List.length y2.1) : Nat) : Int)))) none 8) then
                      some ((((List.take (Option.getD (Option.map (Int.toNat) (some (IntKind.wrap IntKind.i64 ((8 : Int) - (((List.length y2.1) : Nat) : Int))))) 0) (((List.take (Option.getD (Option.map (Int.toNat) none) 0) (Ty.zero (.arr 8 (.int .u16)))) ++ (List.take ((Option.getD (Option.map (Int.toNat) none) 8) - (Option.getD (Option.map (Int.toNat) none) 0)) y1.1)) ++ (List.drop ((Option.getD (Option.map (Int.toNat) none) 0) + (Min.min (List.length y1.1) ((Option.getD (Option.map (Int.toNat) none) 8) - (Option.getD (Option.map (Int.toNat) none) 0)))) (Ty.zero (.arr 8 (.int .u16)))))) ++ (List.take ((Option.getD (Option.map (Int.toNat) none) 8) - (Option.getD (Option.map (Int.toNat) (some (IntKind.wrap IntKind.i64 ((8 : Int) - (((List.length y2.1) : Nat) : Int))))) 0)) y2.1)) ++ (List.drop ((Option.getD (Option.map (Int.toNat) (some (IntKind.wrap IntKind.i64 ((8 : Int) - (((List.length y2.1) : Nat) : Int))))) 0) + (Min.min (List.length y2.1) ((Option.getD (Option.map (Int.toNat) none) 8) - (Option.getD (Option.map (Int.toNat) (some (IntKind.wrap IntKind.i64 ((8 : Int) - (((List.length y2.1) : Nat) : Int))))) 0)))) (((List.take (Option.getD (Option.map (Int.toNat) none) 0) (Ty.zero (.arr 8 (.int .u16)))) ++ (List.take ((Option.getD (Option.map (Int.toNat) none) 8) - (Option.getD (Option.map (Int.toNat) none) 0)) y1.1)) ++ (List.drop ((Option.getD (Option.map (Int.toNat) none) 0) + (Min.min (List.length y1.1) ((Option.getD (Option.map (Int.toNat) none) 8) - (Option.getD (Option.map (Int.toNat) none) 0)))) (Ty.zero (.arr 8 (.int .u16))))))), (0 : Int))
                    else
                      none
              else
                bif (!y0.2.2) then
                  bif ((IntKind.wrap IntKind.i64 ((((List.length y1.1) : Nat) : Int) + (((List.length y2.1) : Nat) : Int))) != (8 : Int)) then
                    some ((Ty.zero (.arr 8 (.int .u16))), (55 : Int))
                  else
                    bif (cutOk (some (IntKind.wrap IntKind.i64 ((8 : Int) - (((List.length y2.1) : Nat) : Int)))) none 8) then
                      some ((((List.take (Option.getD (Option.map (Int.toNat) (some (IntKind.wrap IntKind.i64 ((8 : Int) - (((List.length y2.1) : Nat) : Int))))) 0) (((List.take (Option.getD (Option.map (Int.toNat) none) 0) (Ty.zero (.arr 8 (.int .u16)))) ++ (List.take ((Option.getD (Option.map (Int.toNat) none) 8) - (Option.getD (Option.map (Int.toNat) none) 0)) y1.1)) ++ (List.drop ((Option.getD (Option.map (Int.toNat) none) 0) + (Min.min (List.length y1.1) ((Option.getD (Option.map (Int.toNat) none) 8) - (Option.getD (Option.map (Int.toNat) none) 0)))) (Ty.zero (.arr 8 (.int .u16)))))) ++ (List.take ((Option.getD (Option.map (Int.toNat) none) 8) - (Option.getD (Option.map (Int.toNat) (some (IntKind.wrap IntKind.i64 ((8 : Int) - (((List.length y2.1) : Nat) : Int))))) 0)) y2.1)) ++ (List.drop ((Option.getD (Option.map (Int.toNat) (some (IntKind.wrap IntKind.i64 ((8 : Int) - (((List.length y2.1) : Nat) : Int))))) 0) + (Min.min (List.length y2.1) ((Option.getD (Option.map (Int.toNat) none) 8) - (Option.getD (Option.map (Int.toNat) (some (IntKind.wrap IntKind.i64 ((8 : Int) - (((List.length y2.1) : Nat) : Int))))) 0)))) (((List.take (Option.getD (Option.map (Int.toNat) none) 0) (Ty.zero (.arr 8 (.int .u16)))) ++ (List.take ((Option.getD (Option.map (Int.toNat) none) 8) - (Option.getD (Option.map (Int.toNat) none) 0)) y1.1)) ++ (List.drop ((Option.getD (Option.map (Int.toNat) none) 0) + (Min.min (List.length y1.1) ((Option.getD (Option.map (Int.toNat) none) 8) - (Option.getD (Option.map (Int.toNat) none) 0)))) (Ty.zero (.arr 8 (.int .u16))))))), (0 : Int))
                    else
                      none
                else
                  bif (cutOk (some (IntKind.wrap IntKind.i64 ((8 : Int) - (((List.length y2.1) : Nat) : Int)))) none 8) then
                    some ((((List.take (Option.getD (Option.map (Int.toNat) (some (IntKind.wrap IntKind.i64 ((8 : Int) - (((List.length y2.1) : Nat) : Int))))) 0) (((List.take (Option.getD (Option.map (Int.toNat) none) 0) (Ty.zero (.arr 8 (.int .u16)))) ++ (List.take ((Option.getD (Option.map (Int.toNat) none) 8) - (Option.getD (Option.map (Int.toNat) none) 0)) y1.1)) ++ (List.drop ((Option.getD (Option.map (Int.toNat) none) 0) + (Min.min (List.length y1.1) ((Option.getD (Option.map (Int.toNat) none) 8) - (Option.getD (Option.map (Int.toNat) none) 0)))) (Ty.zero (.arr 8 (.int .u16)))))) ++ (List.take ((Option.getD (Option.map (Int.toNat) none) 8) - (Option.getD (Option.map (Int.toNat) (some (IntKind.wrap IntKind.i64 ((8 : Int) - (((List.length y2.1) : Nat) : Int))))) 0)) y2.1)) ++ (List.drop ((Option.getD (Option.map (Int.toNat) (some (IntKind.wrap IntKind.i64 ((8 : Int) - (((List.length y2.1) : Nat) : Int))))) 0) + (Min.min (List.length y2.1) ((Option.getD (Option.map (Int.toNat) none) 8) - (Option.getD (Option.map (Int.toNat) (some (IntKind.wrap IntKind.i64 ((8 : Int) - (((List.length y2.1) : Nat) : Int))))) 0)))) (((List.take (Option.getD (Option.map (Int.toNat) none) 0) (Ty.zero (.arr 8 (.int .u16)))) ++ (List.take ((Option.getD (Option.map (Int.toNat) none) 8) - (Option.getD (Option.map (Int.toNat) none) 0)) y1.1)) ++ (List.drop ((Option.getD (Option.map (Int.toNat) none) 0) + (Min.min (List.length y1.1) ((Option.getD (Option.map (Int.toNat) none) 8) - (Option.getD (Option.map (Int.toNat) none) 0)))) (Ty.zero (.arr 8 (.int .u16))))))), (0 : Int))
                  else
                    none := of_eq (by kernel_rfl) (Run_unfold E 42 (E.at 42 []) ⟨mkSlots [(0, (.val .str s0_0))], assocB [], assocR []⟩)
theorem c_ref05_IPv6_eq (x : List UInt8) : c_ref05_IPv6 x =
    p_ref05_IPv6_0 x := by kernel_rfl
theorem p_ref05_IPv6_0_eq (s0_0 : List UInt8) : p_ref05_IPv6_0 s0_0 =
    p_ref05_IPv6_1 s0_0 (-(1 : Int)) (0 : Int) (Ty.zero (.arr 8 (.int .u16))) (Ty.zero (.arr 8 (.int .u16))) := of_eq (by kernel_rfl) (Run_unfold E 43 (E.at 43 []) ⟨mkSlots [(0, (.val .str s0_0))], assocB [], assocR []⟩)
theorem p_ref05_IPv6_1_eq (s0_0 : List UInt8) (s5_1 : Int) (s6_2 : Int) (b0_3 : (List Int)) (b1_4 : (List Int)) : p_ref05_IPv6_1 s0_0 s5_1 s6_2 b0_3 b1_4 =
    bif (decide ((IntKind.wrap IntKind.i64 (s6_2 + (1 : Int))) < (((List.length s0_0) : Nat) : Int))) then
      bif (inside s6_2 (List.length s0_0)) then
        bif ((((UInt8.toNat (List.getD s0_0 (Int.toNat s6_2) (0 : UInt8))) : Nat) : Int) == (58 : Int)) then
          bif (inside (IntKind.wrap IntKind.i64 (s6_2 + (1 : Int))) (List.length s0_0)) then
            bif ((((UInt8.toNat (List.getD s0_0 (Int.toNat (IntKind.wrap IntKind.i64 (s6_2 + (1 : Int)))) (0 : UInt8))) : Nat) : Int) == (58 : Int)) then
              bif (decide (s6_2 < (0 : Int))) then
                (c_ref05_run (s0_0, true)).bind fun y0 =>
                  bif (!y0.2) then
                    some (b1_4, (55 : Int))
                  else
                    bif ((((List.length y0.1) : Nat) : Int) != (8 : Int)) then
                      some (b1_4, (55 : Int))
                    else
                      p_ref05_IPv6_2 s0_0 (0 : Int) b0_3 b1_4 y0.1
              else
                bif (cutOk none (some s6_2) (List.length s0_0)) then
                  (c_ref05_run ((cutList none (some s6_2) s0_0), false)).bind fun y0 =>
                    bif (cutOk (some (IntKind.wrap IntKind.i64 (s6_2 + (2 : Int)))) none (List.length s0_0)) then
                      (c_ref05_run ((cutList (some (IntKind.wrap IntKind.i64 (s6_2 + (2 : Int)))) none s0_0), true)).bind fun y1 =>
                        bif (!y0.2) then
                          some (b1_4, (55 : Int))
                        else
                          bif (!y1.2) then
                            some (b1_4, (55 : Int))
                          else
                            bif (decide ((IntKind.wrap IntKind.i64 ((((List.length y0.1) : Nat) : Int) + (((List.length y1.1) : Nat) : Int))) > (7 : Int))) then
                              some (b1_4, (55 : Int))
                            else
                              p_ref05_IPv6_3 s0_0 (0 : Int) b0_3 b1_4 y0.1 y1.1
                    else
                      none
                else
                  none
            else
              p_ref05_IPv6_1 s0_0 s5_1 (IntKind.wrap IntKind.i64 (s6_2 + (1 : Int))) b0_3 b1_4
          else
            none
        else
          p_ref05_IPv6_1 s0_0 s5_1 (IntKind.wrap IntKind.i64 (s6_2 + (1 : Int))) b0_3 b1_4
      else
        none
    else
      bif (decide (s5_1 < (0 : Int))) then
        (c_ref05_run (s0_0, true)).bind fun y0 =>
          bif (!y0.2) then
            some (b1_4, (55 : Int))
          else
            bif ((((List.length y0.1) : Nat) : Int) != (8 : Int)) then
              some (b1_4, (55 : Int))
            else
              p_ref05_IPv6_2 s0_0 (0 : Int) b0_3 b1_4 y0.1
      else
        bif (cutOk none (some s5_1) (List.length s0_0)) then
          (c_ref05_run ((cutList none (some s5_1) s0_0), false)).bind fun y0 =>
            bif (cutOk (some (IntKind.wrap IntKind.i64 (s5_1 + (2 : Int)))) none (List.length s0_0)) then
              (c_ref05_run ((cutList (some (IntKind.wrap IntKind.i64 (s5_1 + (2 : Int)))) none s0_0), true)).bind fun y1 =>
                bif (!y0.2) then
                  some (b1_4, (55 : Int))
                else
                  bif (!y1.2) then
                    some (b1_4, (55 : Int))
                  else
                    bif (decide ((IntKind.wrap IntKind.i64 ((((List.length y0.1) : Nat) : Int) + (((List.length y1.1) : Nat) : Int))) > (7 : Int))) then
                      some (b1_4, (55 : Int))
                    else
                      p_ref05_IPv6_3 s0_0 (0 : Int) b0_3 b1_4 y0.1 y1.1
            else
              none
        else
          none := of_eq (by kernel_rfl) (Run_unfold E 43 (E.at 43 [1, 1, 1, 0, 1, 0, 7]) ⟨mkSlots [(0, (.val .str s0_0)), (2, (.addr (.box 0) [])), (4, (.addr (.box 1) [])), (5, (.val (.int .i64) s5_1)), (6, (.val (.int .i64) s6_2))], mkBoxes [.cells (.arr 8 (.int .u16)) .live (.val (.arr 8 (.int .u16)) b0_3), .cells (.arr 8 (.int .u16)) .live (.val (.arr 8 (.int .u16)) b1_4)], mkRows []⟩)
theorem p_ref05_IPv6_2_eq (s0_0 : List UInt8) (s9_1 : Int) (b0_2 : (List Int)) (b1_3 : (List Int)) (r0_4 : List Int) : p_ref05_IPv6_2 s0_0 s9_1 b0_2 b1_3 r0_4 =
    bif (decide (s9_1 < (8 : Int))) then
      bif (inside s9_1 (List.length r0_4)) then
        bif (inside s9_1 8) then
          p_ref05_IPv6_2 s0_0 (IntKind.wrap IntKind.i64 (s9_1 + (1 : Int))) b0_2 (List.set b1_3 (Int.toNat s9_1) (List.getD r0_4 (Int.toNat s9_1) (Ty.zero (.int .u16)))) r0_4
        else
          none
      else
        none
    else
      some (b1_3, (0 : Int)) := of_eq (by kernel_rfl) (Run_unfold E 43 (E.at 43 [1, 1, 1, 1, 0, 1, 0, 1, 1, 0, 1, 0, 7]) ⟨mkSlots [(0, (.val .str s0_0)), (2, (.addr (.box 0) [])), (4, (.addr (.box 1) [])), (7, (.row 0)), (9, (.val (.int .i64) s9_1))], mkBoxes [.cells (.arr 8 (.int .u16)) .live (.val (.arr 8 (.int .u16)) b0_2), .cells (.arr 8 (.int .u16)) .live (.val (.arr 8 (.int .u16)) b1_3)], mkRows [.mk (.int .u16) .live r0_4]⟩)
theorem p_ref05_IPv6_3_eq (s0_0 : List UInt8) (s14_1 : Int) (b0_2 : (List Int)) (b1_3 : (List Int)) (r0_4 : List Int) (r1_5 : List Int) : p_ref05_IPv6_3 s0_0 s14_1 b0_2 b1_3 r0_4 r1_5 =
    bif (decide (s14_1 < (((List.length r0_4) : Nat) : Int))) then
      bif (inside s14_1 (List.length r0_4)) then
        bif (inside s14_1 8) then
          p_ref05_IPv6_3 s0_0 (IntKind.wrap IntKind.i64 (s14_1 + (1 : Int))) b0_2 (List.set b1_3 (Int.toNat s14_1) (List.getD r0_4 (Int.toNat s14_1) (Ty.zero (.int .u16)))) r0_4 r1_5
        else
          none
      else
        none
    else
      p_ref05_IPv6_4 s0_0 (0 : Int) b0_2 b1_3 r1_5 := of_eq (by kernel_rfl) (Run_unfold E 43 (E.at 43 [1, 1, 1, 1, 1, 1, 1, 1, 0, 1, 0, 7]) ⟨mkSlots [(0, (.val .str s0_0)), (2, (.addr (.box 0) [])), (4, (.addr (.box 1) [])), (10, (.row 0)), (12, (.row 1)), (14, (.val (.int .i64) s14_1))], mkBoxes [.cells (.arr 8 (.int .u16)) .live (.val (.arr 8 (.int .u16)) b0_2), .cells (.arr 8 (.int .u16)) .live (.val (.arr 8 (.int .u16)) b1_3)], mkRows [.mk (.int .u16) .live r0_4, .mk (.int .u16) .live r1_5]⟩)
theorem p_ref05_IPv6_4_eq (s0_0 : List UInt8) (s15_1 : Int) (b0_2 : (List Int)) (b1_3 : (List Int)) (r0_4 : List Int) : p_ref05_IPv6_4 s0_0 s15_1 b0_2 b1_3 r0_4 =
    bif (decide (s15_1 < (((List.length r0_4) : Nat) : Int))) then
      bif (inside s15_1 (List.length r0_4)) then
        bif (inside (IntKind.wrap IntKind.i64 ((IntKind.wrap IntKind.i64 ((8 : Int) - (((List.length r0_4) : Nat) : Int))) + s15_1)) 8) then
          p_ref05_IPv6_4 s0_0 (IntKind.wrap IntKind.i64 (s15_1 + (1 : Int))) b0_2 (List.set b1_3 (Int.toNat (IntKind.wrap IntKind.i64 ((IntKind.wrap IntKind.i64 ((8 : Int) - (((List.length r0_4) : Nat) : Int))) + s15_1))) (List.getD r0_4 (Int.toNat s15_1) (Ty.zero (.int .u16)))) r0_4
        else
          none
      else
        none
    else
      some (b1_3, (0 : Int)) := of_eq (by kernel_rfl) (Run_unfold E 43 (E.at 43 [1, 1, 1, 1, 1, 1, 1, 1, 1, 0, 1, 0, 7]) ⟨mkSlots [(0, (.val .str s0_0)), (2, (.addr (.box 0) [])), (4, (.addr (.box 1) [])), (12, (.row 0)), (15, (.val (.int .i64) s15_1))], mkBoxes [.cells (.arr 8 (.int .u16)) .live (.val (.arr 8 (.int .u16)) b0_2), .cells (.arr 8 (.int .u16)) .live (.val (.arr 8 (.int .u16)) b1_3)], mkRows [.mk (.int .u16) .live r0_4]⟩)
theorem c_law05_num_eq (x : Int) : c_law05_num x =
    p_law05_num_0 x := by kernel_rfl
theorem p_law05_num_0_eq (s0_0 : Int) : p_law05_num_0 s0_0 =
    some s0_0 := of_eq (by kernel_rfl) (Run_unfold E 44 (E.at 44 []) ⟨mkSlots [(0, (.val (.int .i64) s0_0))], assocB [], assocR []⟩)
theorem c_host_EndsInNumber_eq (x : List UInt8) : c_host_EndsInNumber x =
    p_host_EndsInNumber_0 x := by kernel_rfl
theorem p_host_EndsInNumber_0_eq (s0_0 : List UInt8) : p_host_EndsInNumber_0 s0_0 =
    bif (s0_0 == ([] : List UInt8)) then
      some false
    else
      (c_host_parts s0_0).bind fun y0 =>
        bif (inside (IntKind.wrap IntKind.i64 ((((List.length y0) : Nat) : Int) - (1 : Int))) (List.length y0)) then
          (c_octets_Lower (List.getD y0 (Int.toNat (IntKind.wrap IntKind.i64 ((((List.length y0) : Nat) : Int) - (1 : Int)))) (Ty.zero .str))).bind fun y1 =>
            (c_strings_HasPrefix (y1, ([(48 : UInt8), (120 : UInt8)] : List UInt8))).bind fun y2 =>
              bif y2 then
                bif (cutOk (some (2 : Int)) none (List.length y1)) then
                  (c_host_all ((cutList (some (2 : Int)) none y1), ([(48 : UInt8), (49 : UInt8), (50 : UInt8), (51 : UInt8), (52 : UInt8), (53 : UInt8), (54 : UInt8), (55 : UInt8), (56 : UInt8), (57 : UInt8), (97 : UInt8), (98 : UInt8), (99 : UInt8), (100 : UInt8), (101 : UInt8), (102 : UInt8)] : List UInt8))).bind fun y3 =>
                    some y3
                else
                  none
              else
                bif (!(y1 == ([] : List UInt8))) then
                  (c_host_all (y1, ([(48 : UInt8), (49 : UInt8), (50 : UInt8), (51 : UInt8), (52 : UInt8), (53 : UInt8), (54 : UInt8), (55 : UInt8), (56 : UInt8), (57 : UInt8)] : List UInt8))).bind fun y3 =>
                    some y3
                else
                  some false
        else
          none := of_eq (by kernel_rfl) (Run_unfold E 45 (E.at 45 []) ⟨mkSlots [(0, (.val .str s0_0))], assocB [], assocR []⟩)
theorem c_ref05_EndsInNumber_eq (x : List UInt8) : c_ref05_EndsInNumber x =
    p_ref05_EndsInNumber_0 x := by kernel_rfl
theorem p_ref05_EndsInNumber_0_eq (s0_0 : List UInt8) : p_ref05_EndsInNumber_0 s0_0 =
    bif (s0_0 == ([] : List UInt8)) then
      some false
    else
      (c_ref05_parts s0_0).bind fun y0 =>
        bif (inside (IntKind.wrap IntKind.i64 ((((List.length y0) : Nat) : Int) - (1 : Int))) (List.length y0)) then
          p_ref05_EndsInNumber_1 s0_0 (List.getD y0 (Int.toNat (IntKind.wrap IntKind.i64 ((((List.length y0) : Nat) : Int) - (1 : Int)))) (Ty.zero .str)) (!((List.getD y0 (Int.toNat (IntKind.wrap IntKind.i64 ((((List.length y0) : Nat) : Int) - (1 : Int)))) (Ty.zero .str)) == ([] : List UInt8))) (0 : Int)
        else
          none := of_eq (by kernel_rfl) (Run_unfold E 46 (E.at 46 []) ⟨mkSlots [(0, (.val .str s0_0))], assocB [], assocR []⟩)
theorem p_ref05_EndsInNumber_1_eq (s0_0 : List UInt8) (s4_1 : List UInt8) (s5_2 : Bool) (s6_3 : Int) : p_ref05_EndsInNumber_1 s0_0 s4_1 s5_2 s6_3 =
    bif (decide (s6_3 < (((List.length s4_1) : Nat) : Int))) then
      bif s5_2 then
        bif (inside s6_3 (List.length s4_1)) then
          bif (decide ((((UInt8.toNat (List.getD s4_1 (Int.toNat s6_3) (0 : UInt8))) : Nat) : Int) ≥ (48 : Int))) then
            bif (inside s6_3 (List.length s4_1)) then
              p_ref05_EndsInNumber_1 s0_0 s4_1 (decide ((((UInt8.toNat (List.getD s4_1 (Int.toNat s6_3) (0 : UInt8))) : Nat) : Int) ≤ (57 : Int))) (IntKind.wrap IntKind.i64 (s6_3 + (1 : Int)))
            else
              none
          else
            p_ref05_EndsInNumber_1 s0_0 s4_1 false (IntKind.wrap IntKind.i64 (s6_3 + (1 : Int)))
        else
          none
      else
        p_ref05_EndsInNumber_1 s0_0 s4_1 false (IntKind.wrap IntKind.i64 (s6_3 + (1 : Int)))
    else
      bif (decide ((((List.length s4_1) : Nat) : Int) ≥ (2 : Int))) then
        bif (inside (0 : Int) (List.length s4_1)) then
          bif ((((UInt8.toNat (List.getD s4_1 (Int.toNat (0 : Int)) (0 : UInt8))) : Nat) : Int) == (48 : Int)) then
            bif (inside (1 : Int) (List.length s4_1)) then
              bif ((((UInt8.toNat (List.getD s4_1 (Int.toNat (1 : Int)) (0 : UInt8))) : Nat) : Int) == (120 : Int)) then
                p_ref05_EndsInNumber_2 s0_0 s4_1 s5_2 true (2 : Int)
              else
                bif (inside (1 : Int) (List.length s4_1)) then
                  p_ref05_EndsInNumber_2 s0_0 s4_1 s5_2 ((((UInt8.toNat (List.getD s4_1 (Int.toNat (1 : Int)) (0 : UInt8))) : Nat) : Int) == (88 : Int)) (2 : Int)
                else
                  none
            else
              none
          else
            p_ref05_EndsInNumber_2 s0_0 s4_1 s5_2 false (2 : Int)
        else
          none
      else
        p_ref05_EndsInNumber_2 s0_0 s4_1 s5_2 false (2 : Int) := of_eq (by kernel_rfl) (Run_unfold E 46 (E.at 46 [1, 1, 1, 1, 1, 0, 1, 0, 7]) ⟨mkSlots [(0, (.val .str s0_0)), (4, (.val .str s4_1)), (5, (.val .bool s5_2)), (6, (.val (.int .i64) s6_3))], mkBoxes [], mkRows []⟩)
theorem p_ref05_EndsInNumber_2_eq (s0_0 : List UInt8) (s4_1 : List UInt8) (s5_2 : Bool) (s7_3 : Bool) (s8_4 : Int) : p_ref05_EndsInNumber_2 s0_0 s4_1 s5_2 s7_3 s8_4 =
    bif (decide (s8_4 < (((List.length s4_1) : Nat) : Int))) then
      bif s7_3 then
        bif (inside s8_4 (List.length s4_1)) then
          (c_ref01_Nibble (((UInt8.toNat (List.getD s4_1 (Int.toNat s8_4) (0 : UInt8))) : Nat) : Int)).bind fun y0 =>
            p_ref05_EndsInNumber_2 s0_0 s4_1 s5_2 (decide (y0 ≥ (0 : Int))) (IntKind.wrap IntKind.i64 (s8_4 + (1 : Int)))
        else
          none
      else
        p_ref05_EndsInNumber_2 s0_0 s4_1 s5_2 false (IntKind.wrap IntKind.i64 (s8_4 + (1 : Int)))
    else
      bif s5_2 then
        some true
      else
        some s7_3 := of_eq (by kernel_rfl) (Run_unfold E 46 (E.at 46 [1, 1, 1, 1, 1, 1, 1, 0, 1, 0, 7]) ⟨mkSlots [(0, (.val .str s0_0)), (4, (.val .str s4_1)), (5, (.val .bool s5_2)), (7, (.val .bool s7_3)), (8, (.val (.int .i64) s8_4))], mkBoxes [], mkRows []⟩)
theorem c_host_parts_eq (x : List UInt8) : c_host_parts x =
    p_host_parts_0 x := by kernel_rfl
theorem p_host_parts_0_eq (s0_0 : List UInt8) : p_host_parts_0 s0_0 =
    (c_octets_Split (s0_0, (46 : Int))).bind fun y0 =>
      bif (decide ((((List.length y0) : Nat) : Int) > (1 : Int))) then
        bif (inside (IntKind.wrap IntKind.i64 ((((List.length y0) : Nat) : Int) - (1 : Int))) (List.length y0)) then
          bif ((List.getD y0 (Int.toNat (IntKind.wrap IntKind.i64 ((((List.length y0) : Nat) : Int) - (1 : Int)))) (Ty.zero .str)) == ([] : List UInt8)) then
            bif (cutOk none (some (IntKind.wrap IntKind.i64 ((((List.length y0) : Nat) : Int) - (1 : Int)))) (List.length y0)) then
              some (List.take (Option.getD (Option.map (Int.toNat) (some (IntKind.wrap IntKind.i64 ((((List.length y0) : Nat) : Int) - (1 : Int))))) (List.length y0)) y0)
            else
              none
          else
            some y0
        else
          none
      else
        some y0 := of_eq (by kernel_rfl) (Run_unfold E 112 (E.at 112 []) ⟨mkSlots [(0, (.val .str s0_0))], assocB [], assocR []⟩)
theorem c_host_number_eq (x : List UInt8) : c_host_number x =
    p_host_number_0 x := by kernel_rfl
theorem p_host_number_0_eq (s0_0 : List UInt8) : p_host_number_0 s0_0 =
    bif (decide ((((List.length s0_0) : Nat) : Int) ≥ (2 : Int))) then
      bif (inside (0 : Int) (List.length s0_0)) then
        bif ((((UInt8.toNat (List.getD s0_0 (Int.toNat (0 : Int)) (0 : UInt8))) : Nat) : Int) == (48 : Int)) then
          bif (inside (1 : Int) (List.length s0_0)) then
            bif ((bits Go.BinOp.or IntKind.u8 (((UInt8.toNat (List.getD s0_0 (Int.toNat (1 : Int)) (0 : UInt8))) : Nat) : Int) (32 : Int)) == (120 : Int)) then
              bif (cutOk (some (2 : Int)) none (List.length s0_0)) then
                p_host_number_1 (cutList (some (2 : Int)) none s0_0) (16 : Int)
              else
                none
            else
              bif (decide ((((List.length s0_0) : Nat) : Int) ≥ (2 : Int))) then
                bif (inside (0 : Int) (List.length s0_0)) then
                  bif ((((UInt8.toNat (List.getD s0_0 (Int.toNat (0 : Int)) (0 : UInt8))) : Nat) : Int) == (48 : Int)) then
                    bif (cutOk (some (1 : Int)) none (List.length s0_0)) then
                      p_host_number_2 (cutList (some (1 : Int)) none s0_0) (8 : Int)
                    else
                      none
                  else
                    bif (s0_0 == ([] : List UInt8)) then
                      some ((0 : Int), false)
                    else
                      p_host_number_2 s0_0 (10 : Int)
                else
                  none
              else
                bif (s0_0 == ([] : List UInt8)) then
                  some ((0 : Int), false)
                else
                  p_host_number_2 s0_0 (10 : Int)
          else
            none
        else
          bif (decide ((((List.length s0_0) : Nat) : Int) ≥ (2 : Int))) then
            bif (inside (0 : Int) (List.length s0_0)) then
              bif ((((UInt8.toNat (List.getD s0_0 (Int.toNat (0 : Int)) (0 : UInt8))) : Nat) : Int) == (48 : Int)) then
                bif (cutOk (some (1 : Int)) none (List.length s0_0)) then
                  p_host_number_2 (cutList (some (1 : Int)) none s0_0) (8 : Int)
                else
                  none
              else
                bif (s0_0 == ([] : List UInt8)) then
                  some ((0 : Int), false)
                else
                  p_host_number_2 s0_0 (10 : Int)
            else
              none
          else
            bif (s0_0 == ([] : List UInt8)) then
              some ((0 : Int), false)
            else
              p_host_number_2 s0_0 (10 : Int)
      else
        none
    else
      bif (decide ((((List.length s0_0) : Nat) : Int) ≥ (2 : Int))) then
        bif (inside (0 : Int) (List.length s0_0)) then
          bif ((((UInt8.toNat (List.getD s0_0 (Int.toNat (0 : Int)) (0 : UInt8))) : Nat) : Int) == (48 : Int)) then
            bif (cutOk (some (1 : Int)) none (List.length s0_0)) then
              p_host_number_2 (cutList (some (1 : Int)) none s0_0) (8 : Int)
            else
              none
          else
            bif (s0_0 == ([] : List UInt8)) then
              some ((0 : Int), false)
            else
              p_host_number_2 s0_0 (10 : Int)
        else
          none
      else
        bif (s0_0 == ([] : List UInt8)) then
          some ((0 : Int), false)
        else
          p_host_number_2 s0_0 (10 : Int) := of_eq (by kernel_rfl) (Run_unfold E 113 (E.at 113 []) ⟨mkSlots [(0, (.val .str s0_0))], assocB [], assocR []⟩)
theorem p_host_number_1_eq (s0_0 : List UInt8) (s4_1 : Int) : p_host_number_1 s0_0 s4_1 =
    p_host_number_3 s0_0 s4_1 (0 : Int) (((List.length s0_0) : Nat) : Int) (0 : Int) := of_eq (by kernel_rfl) (Run_unfold E 113 (E.at 113 [1, 1, 0, 0, 1, 9]) ⟨mkSlots [(0, (.val .str s0_0)), (4, (.val (.int .i64) s4_1))], mkBoxes [], mkRows []⟩)
theorem p_host_number_2_eq (s0_0 : List UInt8) (s4_1 : Int) : p_host_number_2 s0_0 s4_1 =
    p_host_number_1 s0_0 s4_1 := of_eq (by kernel_rfl) (Run_unfold E 113 (E.at 113 [1, 1, 0, 0, 1, 1, 1, 9]) ⟨mkSlots [(0, (.val .str s0_0)), (4, (.val (.int .i64) s4_1))], mkBoxes [], mkRows []⟩)
theorem p_host_number_3_eq (s0_0 : List UInt8) (s4_1 : Int) (s5_2 : Int) (s40_3 : Int) (s41_4 : Int) : p_host_number_3 s0_0 s4_1 s5_2 s40_3 s41_4 =
    bif (decide (s41_4 < s40_3)) then
      bif (cutOk (some s41_4) (some (IntKind.wrap IntKind.i64 (s41_4 + (1 : Int)))) (List.length s0_0)) then
        (c_octets_Lower (cutList (some s41_4) (some (IntKind.wrap IntKind.i64 (s41_4 + (1 : Int)))) s0_0)).bind fun y0 =>
          bif (inside (0 : Int) (List.length y0)) then
            (c_strings_IndexByte (([(48 : UInt8), (49 : UInt8), (50 : UInt8), (51 : UInt8), (52 : UInt8), (53 : UInt8), (54 : UInt8), (55 : UInt8), (56 : UInt8), (57 : UInt8), (97 : UInt8), (98 : UInt8), (99 : UInt8), (100 : UInt8), (101 : UInt8), (102 : UInt8)] : List UInt8), (((UInt8.toNat (List.getD y0 (Int.toNat (0 : Int)) (0 : UInt8))) : Nat) : Int))).bind fun y1 =>
              bif (decide (y1 < (0 : Int))) then
                some ((0 : Int), false)
              else
                bif (decide (y1 ≥ s4_1)) then
                  some ((0 : Int), false)
                else
                  p_host_number_3 s0_0 s4_1 (if ((IntKind.wrap IntKind.i64 ((IntKind.wrap IntKind.i64 (s5_2 * s4_1)) + y1)) < (1099511627776 : Int)) then (IntKind.wrap IntKind.i64 ((IntKind.wrap IntKind.i64 (s5_2 * s4_1)) + y1)) else (1099511627776 : Int)) s40_3 (IntKind.wrap IntKind.i64 (s41_4 + (1 : Int)))
          else
            none
      else
        none
    else
      some (s5_2, true) := of_eq (by kernel_rfl) (Run_unfold E 113 (E.at 113 [1, 1, 1, 1, 0, 1, 0, 7]) ⟨mkSlots [(0, (.val .str s0_0)), (4, (.val (.int .i64) s4_1)), (5, (.val (.int .i64) s5_2)), (40, (.val (.int .i64) s40_3)), (41, (.val (.int .i64) s41_4))], mkBoxes [], mkRows []⟩)
theorem c_ref05_parts_eq (x : List UInt8) : c_ref05_parts x =
    p_ref05_parts_0 x := by kernel_rfl
theorem p_ref05_parts_0_eq (s0_0 : List UInt8) : p_ref05_parts_0 s0_0 =
    (c_ref01_Split (s0_0, (46 : Int))).bind fun y0 =>
      bif (decide ((((List.length y0) : Nat) : Int) > (1 : Int))) then
        bif (inside (IntKind.wrap IntKind.i64 ((((List.length y0) : Nat) : Int) - (1 : Int))) (List.length y0)) then
          bif ((List.getD y0 (Int.toNat (IntKind.wrap IntKind.i64 ((((List.length y0) : Nat) : Int) - (1 : Int)))) (Ty.zero .str)) == ([] : List UInt8)) then
            bif (cutOk none (some (IntKind.wrap IntKind.i64 ((((List.length y0) : Nat) : Int) - (1 : Int)))) (List.length y0)) then
              some (List.take (Option.getD (Option.map (Int.toNat) (some (IntKind.wrap IntKind.i64 ((((List.length y0) : Nat) : Int) - (1 : Int))))) (List.length y0)) y0)
            else
              none
          else
            some y0
        else
          none
      else
        some y0 := of_eq (by kernel_rfl) (Run_unfold E 114 (E.at 114 []) ⟨mkSlots [(0, (.val .str s0_0))], assocB [], assocR []⟩)
theorem c_ref05_number_eq (x : List UInt8) : c_ref05_number x =
    p_ref05_number_0 x := by kernel_rfl
theorem p_ref05_number_0_eq (s0_0 : List UInt8) : p_ref05_number_0 s0_0 =
    bif ((((List.length s0_0) : Nat) : Int) == (0 : Int)) then
      some (-(1 : Int))
    else
      bif (decide ((((List.length s0_0) : Nat) : Int) ≥ (2 : Int))) then
        bif (inside (0 : Int) (List.length s0_0)) then
          bif ((((UInt8.toNat (List.getD s0_0 (Int.toNat (0 : Int)) (0 : UInt8))) : Nat) : Int) == (48 : Int)) then
            bif (inside (1 : Int) (List.length s0_0)) then
              bif ((((UInt8.toNat (List.getD s0_0 (Int.toNat (1 : Int)) (0 : UInt8))) : Nat) : Int) == (120 : Int)) then
                bif (cutOk (some (2 : Int)) none (List.length s0_0)) then
                  p_ref05_number_1 (cutList (some (2 : Int)) none s0_0) (16 : Int)
                else
                  none
              else
                bif (inside (1 : Int) (List.length s0_0)) then
                  bif ((((UInt8.toNat (List.getD s0_0 (Int.toNat (1 : Int)) (0 : UInt8))) : Nat) : Int) == (88 : Int)) then
                    bif (cutOk (some (2 : Int)) none (List.length s0_0)) then
                      p_ref05_number_1 (cutList (some (2 : Int)) none s0_0) (16 : Int)
                    else
                      none
                  else
                    bif (decide ((((List.length s0_0) : Nat) : Int) ≥ (2 : Int))) then
                      bif (inside (0 : Int) (List.length s0_0)) then
                        bif ((((UInt8.toNat (List.getD s0_0 (Int.toNat (0 : Int)) (0 : UInt8))) : Nat) : Int) == (48 : Int)) then
                          bif (cutOk (some (1 : Int)) none (List.length s0_0)) then
                            p_ref05_number_2 (cutList (some (1 : Int)) none s0_0) (8 : Int)
                          else
                            none
                        else
                          p_ref05_number_2 s0_0 (10 : Int)
                      else
                        none
                    else
                      p_ref05_number_2 s0_0 (10 : Int)
                else
                  none
            else
              none
          else
            bif (decide ((((List.length s0_0) : Nat) : Int) ≥ (2 : Int))) then
              bif (inside (0 : Int) (List.length s0_0)) then
                bif ((((UInt8.toNat (List.getD s0_0 (Int.toNat (0 : Int)) (0 : UInt8))) : Nat) : Int) == (48 : Int)) then
                  bif (cutOk (some (1 : Int)) none (List.length s0_0)) then
                    p_ref05_number_2 (cutList (some (1 : Int)) none s0_0) (8 : Int)
                  else
                    none
                else
                  p_ref05_number_2 s0_0 (10 : Int)
              else
                none
            else
              p_ref05_number_2 s0_0 (10 : Int)
        else
          none
      else
        bif (decide ((((List.length s0_0) : Nat) : Int) ≥ (2 : Int))) then
          bif (inside (0 : Int) (List.length s0_0)) then
            bif ((((UInt8.toNat (List.getD s0_0 (Int.toNat (0 : Int)) (0 : UInt8))) : Nat) : Int) == (48 : Int)) then
              bif (cutOk (some (1 : Int)) none (List.length s0_0)) then
                p_ref05_number_2 (cutList (some (1 : Int)) none s0_0) (8 : Int)
              else
                none
            else
              p_ref05_number_2 s0_0 (10 : Int)
          else
            none
        else
          p_ref05_number_2 s0_0 (10 : Int) := of_eq (by kernel_rfl) (Run_unfold E 115 (E.at 115 []) ⟨mkSlots [(0, (.val .str s0_0))], assocB [], assocR []⟩)
theorem p_ref05_number_1_eq (s0_0 : List UInt8) (s3_1 : Int) : p_ref05_number_1 s0_0 s3_1 =
    p_ref05_number_3 s0_0 s3_1 (0 : Int) (0 : Int) := of_eq (by kernel_rfl) (Run_unfold E 115 (E.at 115 [1, 1, 0, 0, 1, 9]) ⟨mkSlots [(0, (.val .str s0_0)), (3, (.val (.int .i64) s3_1))], mkBoxes [], mkRows []⟩)
theorem p_ref05_number_2_eq (s0_0 : List UInt8) (s3_1 : Int) : p_ref05_number_2 s0_0 s3_1 =
    p_ref05_number_1 s0_0 s3_1 := of_eq (by kernel_rfl) (Run_unfold E 115 (E.at 115 [1, 1, 0, 0, 1, 1, 1, 1, 1, 9]) ⟨mkSlots [(0, (.val .str s0_0)), (3, (.val (.int .i64) s3_1))], mkBoxes [], mkRows []⟩)
theorem p_ref05_number_3_eq (s0_0 : List UInt8) (s3_1 : Int) (s4_2 : Int) (s5_3 : Int) : p_ref05_number_3 s0_0 s3_1 s4_2 s5_3 =
    bif (decide (s5_3 < (((List.length s0_0) : Nat) : Int))) then
      bif (inside s5_3 (List.length s0_0)) then
        (c_ref01_Nibble (((UInt8.toNat (List.getD s0_0 (Int.toNat s5_3) (0 : UInt8))) : Nat) : Int)).bind fun y0 =>
          bif (decide (y0 < (0 : Int))) then
            some (-(1 : Int))
          else
            bif (decide (y0 ≥ s3_1)) then
              some (-(1 : Int))
            else
              bif (decide ((IntKind.wrap IntKind.i64 ((IntKind.wrap IntKind.i64 (s4_2 * s3_1)) + y0)) > (1099511627776 : Int))) then
                p_ref05_number_3 s0_0 s3_1 (1099511627776 : Int) (IntKind.wrap IntKind.i64 (s5_3 + (1 : Int)))
              else
                p_ref05_number_3 s0_0 s3_1 (IntKind.wrap IntKind.i64 ((IntKind.wrap IntKind.i64 (s4_2 * s3_1)) + y0)) (IntKind.wrap IntKind.i64 (s5_3 + (1 : Int)))
      else
        none
    else
      some s4_2 := of_eq (by kernel_rfl) (Run_unfold E 115 (E.at 115 [1, 1, 1, 1, 0, 1, 0, 7]) ⟨mkSlots [(0, (.val .str s0_0)), (3, (.val (.int .i64) s3_1)), (4, (.val (.int .i64) s4_2)), (5, (.val (.int .i64) s5_3))], mkBoxes [], mkRows []⟩)
theorem c_strings_Cut_eq (x : (List UInt8 × List UInt8)) : c_strings_Cut x =
    p_strings_Cut_0 x.1 x.2 := by kernel_rfl
theorem p_strings_Cut_0_eq (s0_0 : List UInt8) (s1_1 : List UInt8) : p_strings_Cut_0 s0_0 s1_1 =
    (c_istringslite_Cut (s0_0, s1_1)).bind fun y0 =>
      some (y0.1, (y0.2.1, y0.2.2)) := of_eq (by kernel_rfl) (Run_unfold E 116 (E.at 116 []) ⟨mkSlots [(1, (.val .str s1_1)), (0, (.val .str s0_0))], assocB [], assocR []⟩)
theorem c_host_pieces_eq (x : (List UInt8 × Bool)) : c_host_pieces x =
    p_host_pieces_0 x.1 x.2 := by kernel_rfl
theorem p_host_pieces_0_eq (s0_0 : List UInt8) (s1_1 : Bool) : p_host_pieces_0 s0_0 s1_1 =
    bif (s0_0 == ([] : List UInt8)) then
      some (([] : List Int), true)
    else
      (c_octets_Split (s0_0, (58 : Int))).bind fun y0 =>
        p_host_pieces_1 s0_0 s1_1 (((List.length y0) : Nat) : Int) (0 : Int) ([] : List Int) y0 := of_eq (by kernel_rfl) (Run_unfold E 117 (E.at 117 []) ⟨mkSlots [(1, (.val .bool s1_1)), (0, (.val .str s0_0))], assocB [], assocR []⟩)
theorem p_host_pieces_1_eq (s0_0 : List UInt8) (s1_1 : Bool) (s19_2 : Int) (s20_3 : Int) (r0_4 : List Int) (r1_5 : List (List UInt8)) : p_host_pieces_1 s0_0 s1_1 s19_2 s20_3 r0_4 r1_5 =
    bif (decide (s20_3 < s19_2)) then
      bif (inside s20_3 (List.length r1_5)) then
        bif s1_1 then
          bif (s20_3 == (IntKind.wrap IntKind.i64 ((((List.length r1_5) : Nat) : Int) - (1 : Int)))) then
            (c_strings_Contains ((List.getD r1_5 (Int.toNat s20_3) (Ty.zero .str)), ([(46 : UInt8)] : List UInt8))).bind fun y0 =>
              bif y0 then
                (c_host_tail (List.getD r1_5 (Int.toNat s20_3) (Ty.zero .str))).bind fun y1 =>
                  bif (decide (((List.length r0_4) + (List.length y1.1)) ≤ (lim))) then
                    some ((r0_4 ++ y1.1), y1.2)
                  else
                    none
              else
                bif ((List.getD r1_5 (Int.toNat s20_3) (Ty.zero .str)) == ([] : List UInt8)) then
                  some (([] : List Int), false)
                else
                  bif (decide ((((List.length (List.getD r1_5 (Int.toNat s20_3) (Ty.zero .str))) : Nat) : Int) > (4 : Int))) then
                    some (([] : List Int), false)
                  else
                    bif (decide (((List.length ([(48 : UInt8), (120 : UInt8)] : List UInt8)) + (List.length (List.getD r1_5 (Int.toNat s20_3) (Ty.zero .str)))) ≤ (2 ^ 62))) then
                      (c_host_number (([(48 : UInt8), (120 : UInt8)] : List UInt8) ++ (List.getD r1_5 (Int.toNat s20_3) (Ty.zero .str)))).bind fun y1 =>
                        bif (!y1.2) then
                          some (([] : List Int), false)
                        else
                          bif (decide (((List.length r0_4) + (List.length ([(IntKind.wrap IntKind.u16 y1.1)] : List Int))) ≤ (lim))) then
                            p_host_pieces_1 s0_0 s1_1 s19_2 (IntKind.wrap IntKind.i64 (s20_3 + (1 : Int))) (r0_4 ++ ([(IntKind.wrap IntKind.u16 y1.1)] : List Int)) r1_5
                          else
                            none
                    else
                      none
          else
            bif ((List.getD r1_5 (Int.toNat s20_3) (Ty.zero .str)) == ([] : List UInt8)) then
              some (([] : List Int), false)
            else
              bif (decide ((((List.length (List.getD r1_5 (Int.toNat s20_3) (Ty.zero .str))) : Nat) : Int) > (4 : Int))) then
                some (([] : List Int), false)
              else
                bif (decide (((List.length ([(48 : UInt8), (120 : UInt8)] : List UInt8)) + (List.length (List.getD r1_5 (Int.toNat s20_3) (Ty.zero .str)))) ≤ (2 ^ 62))) then
                  (c_host_number (([(48 : UInt8), (120 : UInt8)] : List UInt8) ++ (List.getD r1_5 (Int.toNat s20_3) (Ty.zero .str)))).bind fun y0 =>
                    bif (!y0.2) then
                      some (([] : List Int), false)
                    else
                      bif (decide (((List.length r0_4) + (List.length ([(IntKind.wrap IntKind.u16 y0.1)] : List Int))) ≤ (lim))) then
                        p_host_pieces_1 s0_0 s1_1 s19_2 (IntKind.wrap IntKind.i64 (s20_3 + (1 : Int))) (r0_4 ++ ([(IntKind.wrap IntKind.u16 y0.1)] : List Int)) r1_5
                      else
                        none
                else
                  none
        else
          bif ((List.getD r1_5 (Int.toNat s20_3) (Ty.zero .str)) == ([] : List UInt8)) then
            some (([] : List Int), false)
          else
            bif (decide ((((List.length (List.getD r1_5 (Int.toNat s20_3) (Ty.zero .str))) : Nat) : Int) > (4 : Int))) then
              some (([] : List Int), false)
            else
              bif (decide (((List.length ([(48 : UInt8), (120 : UInt8)] : List UInt8)) + (List.length (List.getD r1_5 (Int.toNat s20_3) (Ty.zero .str)))) ≤ (2 ^ 62))) then
                (c_host_number (([(48 : UInt8), (120 : UInt8)] : List UInt8) ++ (List.getD r1_5 (Int.toNat s20_3) (Ty.zero .str)))).bind fun y0 =>
                  bif (!y0.2) then
                    some (([] : List Int), false)
                  else
                    bif (decide (((List.length r0_4) + (List.length ([(IntKind.wrap IntKind.u16 y0.1)] : List Int))) ≤ (lim))) then
                      p_host_pieces_1 s0_0 s1_1 s19_2 (IntKind.wrap IntKind.i64 (s20_3 + (1 : Int))) (r0_4 ++ ([(IntKind.wrap IntKind.u16 y0.1)] : List Int)) r1_5
                    else
                      none
              else
                none
      else
        none
    else
      some (r0_4, true) := of_eq (by kernel_rfl) (Run_unfold E 117 (E.at 117 [1, 1, 1, 1, 0, 1, 0, 7]) ⟨mkSlots [(0, (.val .str s0_0)), (1, (.val .bool s1_1)), (6, (.row 0)), (7, (.row 1)), (18, (.row 1)), (19, (.val (.int .i64) s19_2)), (20, (.val (.int .i64) s20_3))], mkBoxes [], mkRows [.mk (.int .u16) .live r0_4, .mk .str .live r1_5]⟩)
theorem c_ref05_run_eq (x : (List UInt8 × Bool)) : c_ref05_run x =
    p_ref05_run_0 x.1 x.2 := by kernel_rfl
theorem p_ref05_run_0_eq (s0_0 : List UInt8) (s1_1 : Bool) : p_ref05_run_0 s0_0 s1_1 =
    bif (s0_0 == ([] : List UInt8)) then
      some (([] : List Int), true)
    else
      (c_ref01_Split (s0_0, (58 : Int))).bind fun y0 =>
        p_ref05_run_1 s0_0 s1_1 (0 : Int) y0 ([] : List Int) := of_eq (by kernel_rfl) (Run_unfold E 118 (E.at 118 []) ⟨mkSlots [(1, (.val .bool s1_1)), (0, (.val .str s0_0))], assocB [], assocR []⟩)
theorem p_ref05_run_1_eq (s0_0 : List UInt8) (s1_1 : Bool) (s8_2 : Int) (r0_3 : List (List UInt8)) (r1_4 : List Int) : p_ref05_run_1 s0_0 s1_1 s8_2 r0_3 r1_4 =
    bif (decide (s8_2 < (((List.length r0_3) : Nat) : Int))) then
      bif s1_1 then
        bif (s8_2 == (IntKind.wrap IntKind.i64 ((((List.length r0_3) : Nat) : Int) - (1 : Int)))) then
          bif (inside s8_2 (List.length r0_3)) then
            (c_ref01_Has ((List.getD r0_3 (Int.toNat s8_2) (Ty.zero .str)), (46 : Int))).bind fun y0 =>
              bif y0 then
                bif (inside s8_2 (List.length r0_3)) then
                  (c_ref01_Split ((List.getD r0_3 (Int.toNat s8_2) (Ty.zero .str)), (46 : Int))).bind fun y1 =>
                    bif ((((List.length y1) : Nat) : Int) != (4 : Int)) then
                      some (([] : List Int), false)
                    else
                      p_ref05_run_2 s0_0 s1_1 s8_2 (0 : Int) (0 : Int) r0_3 r1_4 y1
                else
                  none
              else
                bif (inside s8_2 (List.length r0_3)) then
                  bif (decide ((((List.length (List.getD r0_3 (Int.toNat s8_2) (Ty.zero .str))) : Nat) : Int) < (1 : Int))) then
                    some (([] : List Int), false)
                  else
                    bif (inside s8_2 (List.length r0_3)) then
                      bif (decide ((((List.length (List.getD r0_3 (Int.toNat s8_2) (Ty.zero .str))) : Nat) : Int) > (4 : Int))) then
                        some (([] : List Int), false)
                      else
                        p_ref05_run_3 s0_0 s1_1 s8_2 (0 : Int) (0 : Int) r0_3 r1_4
                    else
                      none
                else
                  none
          else
            none
        else
          bif (inside s8_2 (List.length r0_3)) then
            bif (decide ((((List.length (List.getD r0_3 (Int.toNat s8_2) (Ty.zero .str))) : Nat) : Int) < (1 : Int))) then
              some (([] : List Int), false)
            else
              bif (inside s8_2 (List.length r0_3)) then
                bif (decide ((((List.length (List.getD r0_3 (Int.toNat s8_2) (Ty.zero .str))) : Nat) : Int) > (4 : Int))) then
                  some (([] : List Int), false)
                else
                  p_ref05_run_3 s0_0 s1_1 s8_2 (0 : Int) (0 : Int) r0_3 r1_4
              else
                none
          else
            none
      else
        bif (inside s8_2 (List.length r0_3)) then
          bif (decide ((((List.length (List.getD r0_3 (Int.toNat s8_2) (Ty.zero .str))) : Nat) : Int) < (1 : Int))) then
            some (([] : List Int), false)
          else
            bif (inside s8_2 (List.length r0_3)) then
              bif (decide ((((List.length (List.getD r0_3 (Int.toNat s8_2) (Ty.zero .str))) : Nat) : Int) > (4 : Int))) then
                some (([] : List Int), false)
              else
                p_ref05_run_3 s0_0 s1_1 s8_2 (0 : Int) (0 : Int) r0_3 r1_4
            else
              none
        else
          none
    else
      some (r1_4, true) := of_eq (by kernel_rfl) (Run_unfold E 118 (E.at 118 [1, 1, 1, 1, 0, 1, 0, 7]) ⟨mkSlots [(0, (.val .str s0_0)), (1, (.val .bool s1_1)), (6, (.row 0)), (7, (.row 1)), (8, (.val (.int .i64) s8_2))], mkBoxes [], mkRows [.mk .str .live r0_3, .mk (.int .u16) .live r1_4]⟩)
theorem p_ref05_run_2_eq (s0_0 : List UInt8) (s1_1 : Bool) (s8_2 : Int) (s10_3 : Int) (s11_4 : Int) (r0_5 : List (List UInt8)) (r1_6 : List Int) (r2_7 : List (List UInt8)) : p_ref05_run_2 s0_0 s1_1 s8_2 s10_3 s11_4 r0_5 r1_6 r2_7 =
    bif (decide (s11_4 < (4 : Int))) then
      bif (inside s11_4 (List.length r2_7)) then
        (c_ref05_small (List.getD r2_7 (Int.toNat s11_4) (Ty.zero .str))).bind fun y0 =>
          bif (decide (y0 < (0 : Int))) then
            some (([] : List Int), false)
          else
            p_ref05_run_2 s0_0 s1_1 s8_2 (IntKind.wrap IntKind.i64 ((shl IntKind.i64 s10_3 (8 : Int)) + y0)) (IntKind.wrap IntKind.i64 (s11_4 + (1 : Int))) r0_5 r1_6 r2_7
      else
        none
    else
      bif (decide (((List.length r1_6) + (List.length ([(IntKind.wrap IntKind.u16 (shr IntKind.i64 s10_3 (16 : Int))), (IntKind.wrap IntKind.u16 (bits Go.BinOp.and IntKind.i64 s10_3 (65535 : Int)))] : List Int))) ≤ (lim))) then
        p_ref05_run_1 s0_0 s1_1 (IntKind.wrap IntKind.i64 (s8_2 + (1 : Int))) r0_5 (r1_6 ++ ([(IntKind.wrap IntKind.u16 (shr IntKind.i64 s10_3 (16 : Int))), (IntKind.wrap IntKind.u16 (bits Go.BinOp.and IntKind.i64 s10_3 (65535 : Int)))] : List Int))
      else
        none := of_eq (by kernel_rfl) (Run_unfold E 118 (E.at 118 [1, 1, 1, 1, 0, 1, 0, 0, 1, 0, 0, 0, 1, 0, 1, 1, 1, 0, 1, 0, 7]) ⟨mkSlots [(0, (.val .str s0_0)), (1, (.val .bool s1_1)), (6, (.row 0)), (7, (.row 1)), (8, (.val (.int .i64) s8_2)), (9, (.row 2)), (10, (.val (.int .i64) s10_3)), (11, (.val (.int .i64) s11_4))], mkBoxes [], mkRows [.mk .str .live r0_5, .mk (.int .u16) .live r1_6, .mk .str .live r2_7]⟩)
theorem p_ref05_run_3_eq (s0_0 : List UInt8) (s1_1 : Bool) (s8_2 : Int) (s13_3 : Int) (s14_4 : Int) (r0_5 : List (List UInt8)) (r1_6 : List Int) : p_ref05_run_3 s0_0 s1_1 s8_2 s13_3 s14_4 r0_5 r1_6 =
    bif (inside s8_2 (List.length r0_5)) then
      bif (decide (s14_4 < (((List.length (List.getD r0_5 (Int.toNat s8_2) (Ty.zero .str))) : Nat) : Int))) then
        bif (inside s8_2 (List.length r0_5)) then
          bif (inside s14_4 (List.length (List.getD r0_5 (Int.toNat s8_2) (Ty.zero .str)))) then
            (c_ref01_Nibble (((UInt8.toNat (List.getD (List.getD r0_5 (Int.toNat s8_2) (Ty.zero .str)) (Int.toNat s14_4) (0 : UInt8))) : Nat) : Int)).bind fun y0 =>
              bif (decide (y0 < (0 : Int))) then
                some (([] : List Int), false)
              else
                p_ref05_run_3 s0_0 s1_1 s8_2 (IntKind.wrap IntKind.i64 ((shl IntKind.i64 s13_3 (4 : Int)) + y0)) (IntKind.wrap IntKind.i64 (s14_4 + (1 : Int))) r0_5 r1_6
          else
            none
        else
          none
      else
        bif (decide (((List.length r1_6) + (List.length ([(IntKind.wrap IntKind.u16 s13_3)] : List Int))) ≤ (lim))) then
          p_ref05_run_1 s0_0 s1_1 (IntKind.wrap IntKind.i64 (s8_2 + (1 : Int))) r0_5 (r1_6 ++ ([(IntKind.wrap IntKind.u16 s13_3)] : List Int))
        else
          none
    else
      none := of_eq (by kernel_rfl) (Run_unfold E 118 (E.at 118 [1, 1, 1, 1, 0, 1, 0, 0, 1, 0, 0, 1, 1, 1, 0, 1, 0, 7]) ⟨mkSlots [(0, (.val .str s0_0)), (1, (.val .bool s1_1)), (6, (.row 0)), (7, (.row 1)), (8, (.val (.int .i64) s8_2)), (13, (.val (.int .i64) s13_3)), (14, (.val (.int .i64) s14_4))], mkBoxes [], mkRows [.mk .str .live r0_5, .mk (.int .u16) .live r1_6]⟩)
theorem c_octets_Lower_eq (x : List UInt8) : c_octets_Lower x =
    p_octets_Lower_0 x := by kernel_rfl
theorem p_octets_Lower_0_eq (s0_0 : List UInt8) : p_octets_Lower_0 s0_0 =
    (c_octets_turned (s0_0, ((65 : Int), (90 : Int)))).bind fun y0 =>
      some y0 := of_eq (by kernel_rfl) (Run_unfold E 119 (E.at 119 []) ⟨mkSlots [(0, (.val .str s0_0))], assocB [], assocR []⟩)
theorem c_strings_HasPrefix_eq (x : (List UInt8 × List UInt8)) : c_strings_HasPrefix x =
    p_strings_HasPrefix_0 x.1 x.2 := by kernel_rfl
theorem p_strings_HasPrefix_0_eq (s0_0 : List UInt8) (s1_1 : List UInt8) : p_strings_HasPrefix_0 s0_0 s1_1 =
    (c_istringslite_HasPrefix (s0_0, s1_1)).bind fun y0 =>
      some y0 := of_eq (by kernel_rfl) (Run_unfold E 120 (E.at 120 []) ⟨mkSlots [(1, (.val .str s1_1)), (0, (.val .str s0_0))], assocB [], assocR []⟩)
theorem c_host_all_eq (x : (List UInt8 × List UInt8)) : c_host_all x =
    p_host_all_0 x.1 x.2 := by kernel_rfl
theorem p_host_all_0_eq (s0_0 : List UInt8) (s1_1 : List UInt8) : p_host_all_0 s0_0 s1_1 =
    (c_host_cutLeft (s0_0, s1_1)).bind fun y0 =>
      (c_host_cutRight (y0, s1_1)).bind fun y1 =>
        some (y1 == ([] : List UInt8)) := of_eq (by kernel_rfl) (Run_unfold E 121 (E.at 121 []) ⟨mkSlots [(1, (.val .str s1_1)), (0, (.val .str s0_0))], assocB [], assocR []⟩)
theorem c_ref01_Nibble_eq (x : Int) : c_ref01_Nibble x =
    p_ref01_Nibble_0 x := by kernel_rfl
theorem p_ref01_Nibble_0_eq (s0_0 : Int) : p_ref01_Nibble_0 s0_0 =
    (c_ref01_digit s0_0).bind fun y0 =>
      bif y0 then
        some (IntKind.wrap IntKind.i64 (IntKind.wrap IntKind.u8 (s0_0 - (48 : Int))))
      else
        bif (decide (s0_0 ≥ (97 : Int))) then
          bif (decide (s0_0 ≤ (102 : Int))) then
            some (IntKind.wrap IntKind.i64 ((IntKind.wrap IntKind.i64 (IntKind.wrap IntKind.u8 (s0_0 - (97 : Int)))) + (10 : Int)))
          else
            bif (decide (s0_0 ≥ (65 : Int))) then
              bif (decide (s0_0 ≤ (70 : Int))) then
                some (IntKind.wrap IntKind.i64 ((IntKind.wrap IntKind.i64 (IntKind.wrap IntKind.u8 (s0_0 - (65 : Int)))) + (10 : Int)))
              else
                some (-(1 : Int))
            else
              some (-(1 : Int))
        else
          bif (decide (s0_0 ≥ (65 : Int))) then
            bif (decide (s0_0 ≤ (70 : Int))) then
              some (IntKind.wrap IntKind.i64 ((IntKind.wrap IntKind.i64 (IntKind.wrap IntKind.u8 (s0_0 - (65 : Int)))) + (10 : Int)))
            else
              some (-(1 : Int))
          else
            some (-(1 : Int)) := of_eq (by kernel_rfl) (Run_unfold E 122 (E.at 122 []) ⟨mkSlots [(0, (.val (.int .u8) s0_0))], assocB [], assocR []⟩)
theorem c_octets_Split_eq (x : (List UInt8 × Int)) : c_octets_Split x =
    p_octets_Split_0 x.1 x.2 := by kernel_rfl
theorem p_octets_Split_0_eq (s0_0 : List UInt8) (s1_1 : Int) : p_octets_Split_0 s0_0 s1_1 =
    p_octets_Split_1 s0_0 s1_1 (0 : Int) (((List.length s0_0) : Nat) : Int) (0 : Int) ([] : List (List UInt8)) := of_eq (by kernel_rfl) (Run_unfold E 142 (E.at 142 []) ⟨mkSlots [(1, (.val (.int .u8) s1_1)), (0, (.val .str s0_0))], assocB [], assocR []⟩)
theorem p_octets_Split_1_eq (s0_0 : List UInt8) (s1_1 : Int) (s6_2 : Int) (s9_3 : Int) (s10_4 : Int) (r0_5 : List (List UInt8)) : p_octets_Split_1 s0_0 s1_1 s6_2 s9_3 s10_4 r0_5 =
    bif (decide (s10_4 < s9_3)) then
      bif (inside s10_4 (List.length s0_0)) then
        bif ((((UInt8.toNat (List.getD s0_0 (Int.toNat s10_4) (0 : UInt8))) : Nat) : Int) == s1_1) then
          bif (cutOk (some s6_2) (some s10_4) (List.length s0_0)) then
            bif (decide (((List.length r0_5) + (List.length ([(cutList (some s6_2) (some s10_4) s0_0)] : List (List UInt8)))) ≤ (lim))) then
              p_octets_Split_1 s0_0 s1_1 (IntKind.wrap IntKind.i64 (s10_4 + (1 : Int))) s9_3 (IntKind.wrap IntKind.i64 (s10_4 + (1 : Int))) (r0_5 ++ ([(cutList (some s6_2) (some s10_4) s0_0)] : List (List UInt8)))
            else
              none
          else
            none
        else
          p_octets_Split_1 s0_0 s1_1 s6_2 s9_3 (IntKind.wrap IntKind.i64 (s10_4 + (1 : Int))) r0_5
      else
        none
    else
      bif (cutOk (some s6_2) none (List.length s0_0)) then
        bif (decide (((List.length r0_5) + (List.length ([(cutList (some s6_2) none s0_0)] : List (List UInt8)))) ≤ (lim))) then
          some (r0_5 ++ ([(cutList (some s6_2) none s0_0)] : List (List UInt8)))
        else
          none
      else
        none := of_eq (by kernel_rfl) (Run_unfold E 142 (E.at 142 [1, 1, 1, 0, 1, 0, 7]) ⟨mkSlots [(0, (.val .str s0_0)), (1, (.val (.int .u8) s1_1)), (5, (.row 0)), (6, (.val (.int .i64) s6_2)), (9, (.val (.int .i64) s9_3)), (10, (.val (.int .i64) s10_4))], mkBoxes [], mkRows [.mk .str .live r0_5]⟩)
theorem c_ref01_Split_eq (x : (List UInt8 × Int)) : c_ref01_Split x =
    p_ref01_Split_0 x.1 x.2 := by kernel_rfl
theorem p_ref01_Split_0_eq (s0_0 : List UInt8) (s1_1 : Int) : p_ref01_Split_0 s0_0 s1_1 =
    p_ref01_Split_1 s0_0 s1_1 (0 : Int) (0 : Int) ([] : List (List UInt8)) := of_eq (by kernel_rfl) (Run_unfold E 144 (E.at 144 []) ⟨mkSlots [(1, (.val (.int .u8) s1_1)), (0, (.val .str s0_0))], assocB [], assocR []⟩)
theorem p_ref01_Split_1_eq (s0_0 : List UInt8) (s1_1 : Int) (s6_2 : Int) (s7_3 : Int) (r0_4 : List (List UInt8)) : p_ref01_Split_1 s0_0 s1_1 s6_2 s7_3 r0_4 =
    bif (decide (s7_3 < (((List.length s0_0) : Nat) : Int))) then
      bif (inside s7_3 (List.length s0_0)) then
        bif ((((UInt8.toNat (List.getD s0_0 (Int.toNat s7_3) (0 : UInt8))) : Nat) : Int) == s1_1) then
          bif (cutOk (some s6_2) (some s7_3) (List.length s0_0)) then
            bif (decide (((List.length r0_4) + (List.length ([(cutList (some s6_2) (some s7_3) s0_0)] : List (List UInt8)))) ≤ (lim))) then
              p_ref01_Split_1 s0_0 s1_1 (IntKind.wrap IntKind.i64 (s7_3 + (1 : Int))) (IntKind.wrap IntKind.i64 (s7_3 + (1 : Int))) (r0_4 ++ ([(cutList (some s6_2) (some s7_3) s0_0)] : List (List UInt8)))
            else
              none
          else
            none
        else
          p_ref01_Split_1 s0_0 s1_1 s6_2 (IntKind.wrap IntKind.i64 (s7_3 + (1 : Int))) r0_4
      else
        none
    else
      bif (cutOk (some s6_2) none (List.length s0_0)) then
        bif (decide (((List.length r0_4) + (List.length ([(cutList (some s6_2) none s0_0)] : List (List UInt8)))) ≤ (lim))) then
          some (r0_4 ++ ([(cutList (some s6_2) none s0_0)] : List (List UInt8)))
        else
          none
      else
        none := of_eq (by kernel_rfl) (Run_unfold E 144 (E.at 144 [1, 1, 1, 0, 1, 0, 7]) ⟨mkSlots [(0, (.val .str s0_0)), (1, (.val (.int .u8) s1_1)), (5, (.row 0)), (6, (.val (.int .i64) s6_2)), (7, (.val (.int .i64) s7_3))], mkBoxes [], mkRows [.mk .str .live r0_4]⟩)
theorem c_istringslite_Cut_eq (x : (List UInt8 × List UInt8)) : c_istringslite_Cut x =
    p_istringslite_Cut_0 x.1 x.2 := by kernel_rfl
theorem p_istringslite_Cut_0_eq (s0_0 : List UInt8) (s1_1 : List UInt8) : p_istringslite_Cut_0 s0_0 s1_1 =
    (c_istringslite_Index (s0_0, s1_1)).bind fun y0 =>
      bif (decide (y0 ≥ (0 : Int))) then
        bif (cutOk none (some y0) (List.length s0_0)) then
          bif (cutOk (some (IntKind.wrap IntKind.i64 (y0 + (((List.length s1_1) : Nat) : Int)))) none (List.length s0_0)) then
            some ((cutList none (some y0) s0_0), ((cutList (some (IntKind.wrap IntKind.i64 (y0 + (((List.length s1_1) : Nat) : Int)))) none s0_0), true))
          else
            none
        else
          none
      else
        some (s0_0, (([] : List UInt8), false)) := of_eq (by kernel_rfl) (Run_unfold E 169 (E.at 169 []) ⟨mkSlots [(1, (.val .str s1_1)), (0, (.val .str s0_0))], assocB [], assocR []⟩)
theorem c_strings_Contains_eq (x : (List UInt8 × List UInt8)) : c_strings_Contains x =
    p_strings_Contains_0 x.1 x.2 := by kernel_rfl
theorem p_strings_Contains_0_eq (s0_0 : List UInt8) (s1_1 : List UInt8) : p_strings_Contains_0 s0_0 s1_1 =
    (c_strings_Index (s0_0, s1_1)).bind fun y0 =>
      some (decide (y0 ≥ (0 : Int))) := of_eq (by kernel_rfl) (Run_unfold E 170 (E.at 170 []) ⟨mkSlots [(1, (.val .str s1_1)), (0, (.val .str s0_0))], assocB [], assocR []⟩)
theorem c_host_tail_eq (x : List UInt8) : c_host_tail x =
    p_host_tail_0 x := by kernel_rfl
theorem p_host_tail_0_eq (s0_0 : List UInt8) : p_host_tail_0 s0_0 =
    (c_octets_Split (s0_0, (46 : Int))).bind fun y0 =>
      bif ((((List.length y0) : Nat) : Int) != (4 : Int)) then
        some (([] : List Int), false)
      else
        p_host_tail_1 s0_0 (((List.length y0) : Nat) : Int) (0 : Int) (Ty.zero (.arr 4 (.int .u16))) y0 := of_eq (by kernel_rfl) (Run_unfold E 171 (E.at 171 []) ⟨mkSlots [(0, (.val .str s0_0))], assocB [], assocR []⟩)
theorem p_host_tail_1_eq (s0_0 : List UInt8) (s15_1 : Int) (s16_2 : Int) (b0_3 : (List Int)) (r0_4 : List (List UInt8)) : p_host_tail_1 s0_0 s15_1 s16_2 b0_3 r0_4 =
    bif (decide (s16_2 < s15_1)) then
      bif (inside s16_2 (List.length r0_4)) then
        bif ((List.getD r0_4 (Int.toNat s16_2) (Ty.zero .str)) == ([] : List UInt8)) then
          some (([] : List Int), false)
        else
          bif (decide ((((List.length (List.getD r0_4 (Int.toNat s16_2) (Ty.zero .str))) : Nat) : Int) > (3 : Int))) then
            some (([] : List Int), false)
          else
            (c_host_all ((List.getD r0_4 (Int.toNat s16_2) (Ty.zero .str)), ([(48 : UInt8), (49 : UInt8), (50 : UInt8), (51 : UInt8), (52 : UInt8), (53 : UInt8), (54 : UInt8), (55 : UInt8), (56 : UInt8), (57 : UInt8)] : List UInt8))).bind fun y0 =>
              bif (!y0) then
                some (([] : List Int), false)
              else
                bif (inside (0 : Int) (List.length (List.getD r0_4 (Int.toNat s16_2) (Ty.zero .str)))) then
                  bif ((((UInt8.toNat (List.getD (List.getD r0_4 (Int.toNat s16_2) (Ty.zero .str)) (Int.toNat (0 : Int)) (0 : UInt8))) : Nat) : Int) == (48 : Int)) then
                    bif (decide ((((List.length (List.getD r0_4 (Int.toNat s16_2) (Ty.zero .str))) : Nat) : Int) > (1 : Int))) then
                      some (([] : List Int), false)
                    else
                      p_host_tail_2 s0_0 s16_2 (List.getD r0_4 (Int.toNat s16_2) (Ty.zero .str)) s15_1 s16_2 (((List.length (List.getD r0_4 (Int.toNat s16_2) (Ty.zero .str))) : Nat) : Int) (0 : Int) b0_3 r0_4
                  else
                    p_host_tail_2 s0_0 s16_2 (List.getD r0_4 (Int.toNat s16_2) (Ty.zero .str)) s15_1 s16_2 (((List.length (List.getD r0_4 (Int.toNat s16_2) (Ty.zero .str))) : Nat) : Int) (0 : Int) b0_3 r0_4
                else
                  none
      else
        none
    else
      some (([(bits Go.BinOp.or IntKind.u16 (shl IntKind.u16 (List.getD b0_3 (Int.toNat (0 : Int)) (Ty.zero (.int .u16))) (8 : Int)) (List.getD b0_3 (Int.toNat (1 : Int)) (Ty.zero (.int .u16)))), (bits Go.BinOp.or IntKind.u16 (shl IntKind.u16 (List.getD b0_3 (Int.toNat (2 : Int)) (Ty.zero (.int .u16))) (8 : Int)) (List.getD b0_3 (Int.toNat (3 : Int)) (Ty.zero (.int .u16))))] : List Int), true) := of_eq (by kernel_rfl) (Run_unfold E 171 (E.at 171 [1, 1, 1, 1, 0, 1, 0, 7]) ⟨mkSlots [(0, (.val .str s0_0)), (5, (.addr (.box 0) [])), (14, (.row 0)), (15, (.val (.int .i64) s15_1)), (16, (.val (.int .i64) s16_2))], mkBoxes [.cells (.arr 4 (.int .u16)) .live (.val (.arr 4 (.int .u16)) b0_3)], mkRows [.mk .str .live r0_4]⟩)
theorem p_host_tail_2_eq (s0_0 : List UInt8) (s6_1 : Int) (s7_2 : List UInt8) (s15_3 : Int) (s16_4 : Int) (s44_5 : Int) (s45_6 : Int) (b0_7 : (List Int)) (r0_8 : List (List UInt8)) : p_host_tail_2 s0_0 s6_1 s7_2 s15_3 s16_4 s44_5 s45_6 b0_7 r0_8 =
    bif (decide (s45_6 < s44_5)) then
      bif (inside s6_1 4) then
        bif (inside s45_6 (List.length s7_2)) then
          bif (inside s6_1 4) then
            p_host_tail_2 s0_0 s6_1 s7_2 s15_3 s16_4 s44_5 (IntKind.wrap IntKind.i64 (s45_6 + (1 : Int))) (List.set b0_7 (Int.toNat s6_1) (IntKind.wrap IntKind.u16 ((IntKind.wrap IntKind.u16 ((10 : Int) * (List.getD b0_7 (Int.toNat s6_1) (Ty.zero (.int .u16))))) + (IntKind.wrap IntKind.u16 (IntKind.wrap IntKind.u8 ((((UInt8.toNat (List.getD s7_2 (Int.toNat s45_6) (0 : UInt8))) : Nat) : Int) - (48 : Int))))))) r0_8
          else
            none
        else
          none
      else
        none
    else
      bif (inside s6_1 4) then
        bif (decide ((List.getD b0_7 (Int.toNat s6_1) (Ty.zero (.int .u16))) > (255 : Int))) then
          some (([] : List Int), false)
        else
          p_host_tail_1 s0_0 s15_3 (IntKind.wrap IntKind.i64 (s16_4 + (1 : Int))) b0_7 r0_8
      else
        none := of_eq (by kernel_rfl) (Run_unfold E 171 (E.at 171 [1, 1, 1, 1, 0, 1, 0, 0, 1, 1, 0, 0, 1, 1, 0, 1, 0, 7]) ⟨mkSlots [(0, (.val .str s0_0)), (5, (.addr (.box 0) [])), (6, (.val (.int .i64) s6_1)), (7, (.val .str s7_2)), (14, (.row 0)), (15, (.val (.int .i64) s15_3)), (16, (.val (.int .i64) s16_4)), (44, (.val (.int .i64) s44_5)), (45, (.val (.int .i64) s45_6))], mkBoxes [.cells (.arr 4 (.int .u16)) .live (.val (.arr 4 (.int .u16)) b0_7)], mkRows [.mk .str .live r0_8]⟩)
theorem c_ref01_Has_eq (x : (List UInt8 × Int)) : c_ref01_Has x =
    p_ref01_Has_0 x.1 x.2 := by kernel_rfl
theorem p_ref01_Has_0_eq (s0_0 : List UInt8) (s1_1 : Int) : p_ref01_Has_0 s0_0 s1_1 =
    p_ref01_Has_1 s0_0 s1_1 (0 : Int) := of_eq (by kernel_rfl) (Run_unfold E 52 (E.at 52 []) ⟨mkSlots [(1, (.val (.int .u8) s1_1)), (0, (.val .str s0_0))], assocB [], assocR []⟩)
theorem p_ref01_Has_1_eq (s0_0 : List UInt8) (s1_1 : Int) (s5_2 : Int) : p_ref01_Has_1 s0_0 s1_1 s5_2 =
    bif (decide (s5_2 < (((List.length s0_0) : Nat) : Int))) then
      bif (inside s5_2 (List.length s0_0)) then
        bif ((((UInt8.toNat (List.getD s0_0 (Int.toNat s5_2) (0 : UInt8))) : Nat) : Int) == s1_1) then
          some true
        else
          p_ref01_Has_1 s0_0 s1_1 (IntKind.wrap IntKind.i64 (s5_2 + (1 : Int)))
      else
        none
    else
      some false := of_eq (by kernel_rfl) (Run_unfold E 52 (E.at 52 [1, 0, 1, 0, 7]) ⟨mkSlots [(0, (.val .str s0_0)), (1, (.val (.int .u8) s1_1)), (5, (.val (.int .i64) s5_2))], mkBoxes [], mkRows []⟩)
theorem c_ref05_small_eq (x : List UInt8) : c_ref05_small x =
    p_ref05_small_0 x := by kernel_rfl
theorem p_ref05_small_0_eq (s0_0 : List UInt8) : p_ref05_small_0 s0_0 =
    bif ((((List.length s0_0) : Nat) : Int) == (0 : Int)) then
      some (-(1 : Int))
    else
      bif (decide ((((List.length s0_0) : Nat) : Int) > (3 : Int))) then
        some (-(1 : Int))
      else
        bif (inside (0 : Int) (List.length s0_0)) then
          bif ((((UInt8.toNat (List.getD s0_0 (Int.toNat (0 : Int)) (0 : UInt8))) : Nat) : Int) == (48 : Int)) then
            bif (decide ((((List.length s0_0) : Nat) : Int) > (1 : Int))) then
              some (-(1 : Int))
            else
              p_ref05_small_1 s0_0 (0 : Int) (0 : Int)
          else
            p_ref05_small_1 s0_0 (0 : Int) (0 : Int)
        else
          none := of_eq (by kernel_rfl) (Run_unfold E 172 (E.at 172 []) ⟨mkSlots [(0, (.val .str s0_0))], assocB [], assocR []⟩)
theorem p_ref05_small_1_eq (s0_0 : List UInt8) (s3_1 : Int) (s4_2 : Int) : p_ref05_small_1 s0_0 s3_1 s4_2 =
    bif (decide (s4_2 < (((List.length s0_0) : Nat) : Int))) then
      bif (inside s4_2 (List.length s0_0)) then
        bif (decide ((((UInt8.toNat (List.getD s0_0 (Int.toNat s4_2) (0 : UInt8))) : Nat) : Int) < (48 : Int))) then
          some (-(1 : Int))
        else
          bif (inside s4_2 (List.length s0_0)) then
            bif (decide ((((UInt8.toNat (List.getD s0_0 (Int.toNat s4_2) (0 : UInt8))) : Nat) : Int) > (57 : Int))) then
              some (-(1 : Int))
            else
              bif (inside s4_2 (List.length s0_0)) then
                p_ref05_small_1 s0_0 (IntKind.wrap IntKind.i64 ((IntKind.wrap IntKind.i64 (s3_1 * (10 : Int))) + (IntKind.wrap IntKind.i64 (IntKind.wrap IntKind.u8 ((((UInt8.toNat (List.getD s0_0 (Int.toNat s4_2) (0 : UInt8))) : Nat) : Int) - (48 : Int)))))) (IntKind.wrap IntKind.i64 (s4_2 + (1 : Int)))
              else
                none
          else
            none
      else
        none
    else
      bif (decide (s3_1 > (255 : Int))) then
        some (-(1 : Int))
      else
        some s3_1 := of_eq (by kernel_rfl) (Run_unfold E 172 (E.at 172 [1, 1, 1, 0, 1, 0, 7]) ⟨mkSlots [(0, (.val .str s0_0)), (3, (.val (.int .i64) s3_1)), (4, (.val (.int .i64) s4_2))], mkBoxes [], mkRows []⟩)
theorem c_octets_turned_eq (x : (List UInt8 × (Int × Int))) : c_octets_turned x =
    p_octets_turned_0 x.1 x.2.1 x.2.2 := by kernel_rfl
theorem p_octets_turned_0_eq (s0_0 : List UInt8) (s1_1 : Int) (s2_2 : Int) : p_octets_turned_0 s0_0 s1_1 s2_2 =
    p_octets_turned_1 s0_0 s1_1 s2_2 (((List.length (bytesOf s0_0)) : Nat) : Int) (0 : Int) (bytesOf s0_0) := of_eq (by kernel_rfl) (Run_unfold E 129 (E.at 129 []) ⟨mkSlots [(2, (.val (.int .u8) s2_2)), (1, (.val (.int .u8) s1_1)), (0, (.val .str s0_0))], assocB [], assocR []⟩)
theorem p_octets_turned_1_eq (s0_0 : List UInt8) (s1_1 : Int) (s2_2 : Int) (s13_3 : Int) (s14_4 : Int) (r0_5 : List Int) : p_octets_turned_1 s0_0 s1_1 s2_2 s13_3 s14_4 r0_5 =
    bif (decide (s14_4 < s13_3)) then
      bif (inside s14_4 (List.length r0_5)) then
        bif (decide ((List.getD r0_5 (Int.toNat s14_4) (Ty.zero (.int .u8))) ≥ s1_1)) then
          bif (decide ((List.getD r0_5 (Int.toNat s14_4) (Ty.zero (.int .u8))) ≤ s2_2)) then
            bif (inside s14_4 (List.length r0_5)) then
              p_octets_turned_1 s0_0 s1_1 s2_2 s13_3 (IntKind.wrap IntKind.i64 (s14_4 + (1 : Int))) (List.set r0_5 (Int.toNat s14_4) (bits Go.BinOp.xor IntKind.u8 (List.getD r0_5 (Int.toNat s14_4) (Ty.zero (.int .u8))) (32 : Int)))
            else
              none
          else
            p_octets_turned_1 s0_0 s1_1 s2_2 s13_3 (IntKind.wrap IntKind.i64 (s14_4 + (1 : Int))) r0_5
        else
          p_octets_turned_1 s0_0 s1_1 s2_2 s13_3 (IntKind.wrap IntKind.i64 (s14_4 + (1 : Int))) r0_5
      else
        none
    else
      some (strOf r0_5) := of_eq (by kernel_rfl) (Run_unfold E 129 (E.at 129 [1, 1, 0, 1, 0, 7]) ⟨mkSlots [(0, (.val .str s0_0)), (1, (.val (.int .u8) s1_1)), (2, (.val (.int .u8) s2_2)), (7, (.row 0)), (12, (.row 0)), (13, (.val (.int .i64) s13_3)), (14, (.val (.int .i64) s14_4))], mkBoxes [], mkRows [.mk (.int .u8) .live r0_5]⟩)
theorem c_istringslite_HasPrefix_eq (x : (List UInt8 × List UInt8)) : c_istringslite_HasPrefix x =
    p_istringslite_HasPrefix_0 x.1 x.2 := by kernel_rfl
theorem p_istringslite_HasPrefix_0_eq (s0_0 : List UInt8) (s1_1 : List UInt8) : p_istringslite_HasPrefix_0 s0_0 s1_1 =
    bif (decide ((((List.length s0_0) : Nat) : Int) ≥ (((List.length s1_1) : Nat) : Int))) then
      bif (cutOk none (some (((List.length s1_1) : Nat) : Int)) (List.length s0_0)) then
        some ((cutList none (some (((List.length s1_1) : Nat) : Int)) s0_0) == s1_1)
      else
        none
    else
      some false := of_eq (by kernel_rfl) (Run_unfold E 173 (E.at 173 []) ⟨mkSlots [(1, (.val .str s1_1)), (0, (.val .str s0_0))], assocB [], assocR []⟩)
theorem c_host_cutLeft_eq (x : (List UInt8 × List UInt8)) : c_host_cutLeft x =
    p_host_cutLeft_0 x.1 x.2 := by kernel_rfl
theorem p_host_cutLeft_0_eq (s0_0 : List UInt8) (s1_1 : List UInt8) : p_host_cutLeft_0 s0_0 s1_1 =
    p_host_cutLeft_1 s0_0 s1_1 s0_0 0 := of_eq (by kernel_rfl) (Run_unfold E 175 (E.at 175 []) ⟨mkSlots [(1, (.val .str s1_1)), (0, (.val .str s0_0))], assocB [], assocR []⟩)
theorem p_host_cutLeft_1_eq (s0_0 : List UInt8) (s1_1 : List UInt8) (t0_2 : List UInt8) (n0_3 : Nat) : p_host_cutLeft_1 s0_0 s1_1 t0_2 n0_3 =
    bif (decide (n0_3 < (List.length t0_2))) then
      p_host_cutLeft_2 s0_0 s1_1 ((n0_3 : Nat) : Int) (((decRune t0_2 n0_3).1 : Nat) : Int) false t0_2 (n0_3 + (decRune t0_2 n0_3).2) s1_1 0
    else
      some ([] : List UInt8) := of_eq (by kernel_rfl) (Run_unfold E 175 (E.at 175 [1, 0, 1, 0, 7]) ⟨mkSlots [(0, (.val .str s0_0)), (1, (.val .str s1_1)), (11, (.addr (.box 0) []))], mkBoxes [.iter t0_2 n0_3], mkRows []⟩)
theorem p_host_cutLeft_2_eq (s0_0 : List UInt8) (s1_1 : List UInt8) (s5_2 : Int) (s6_3 : Int) (s7_4 : Bool) (t0_5 : List UInt8) (n0_6 : Nat) (t1_7 : List UInt8) (n1_8 : Nat) : p_host_cutLeft_2 s0_0 s1_1 s5_2 s6_3 s7_4 t0_5 n0_6 t1_7 n1_8 =
    bif (decide (n1_8 < (List.length t1_7))) then
      bif s7_4 then
        p_host_cutLeft_2 s0_0 s1_1 s5_2 s6_3 true t0_5 n0_6 t1_7 (n1_8 + (decRune t1_7 n1_8).2)
      else
        p_host_cutLeft_2 s0_0 s1_1 s5_2 s6_3 (s6_3 == (((decRune t1_7 n1_8).1 : Nat) : Int)) t0_5 n0_6 t1_7 (n1_8 + (decRune t1_7 n1_8).2)
    else
      bif (!s7_4) then
        bif (cutOk (some s5_2) none (List.length s0_0)) then
          some (cutList (some s5_2) none s0_0)
        else
          none
      else
        p_host_cutLeft_1 s0_0 s1_1 t0_5 n0_6 := of_eq (by kernel_rfl) (Run_unfold E 175 (E.at 175 [1, 0, 1, 0, 0, 1, 1, 0, 1, 1, 0, 1, 0, 7]) ⟨mkSlots [(0, (.val .str s0_0)), (1, (.val .str s1_1)), (5, (.val (.int .i64) s5_2)), (6, (.val (.int .i32) s6_3)), (7, (.val .bool s7_4)), (11, (.addr (.box 0) [])), (17, (.addr (.box 1) []))], mkBoxes [.iter t0_5 n0_6, .iter t1_7 n1_8], mkRows []⟩)
theorem c_host_cutRight_eq (x : (List UInt8 × List UInt8)) : c_host_cutRight x =
    p_host_cutRight_0 x.1 x.2 := by kernel_rfl
theorem p_host_cutRight_0_eq (s0_0 : List UInt8) (s1_1 : List UInt8) : p_host_cutRight_0 s0_0 s1_1 =
    p_host_cutRight_1 s0_0 s1_1 := of_eq (by kernel_rfl) (Run_unfold E 174 (E.at 174 []) ⟨mkSlots [(1, (.val .str s1_1)), (0, (.val .str s0_0))], assocB [], assocR []⟩)
theorem p_host_cutRight_1_eq (s0_0 : List UInt8) (s1_1 : List UInt8) : p_host_cutRight_1 s0_0 s1_1 =
    bif (decide ((((List.length s0_0) : Nat) : Int) > (0 : Int))) then
      (c_utf8_DecodeLastRuneInString s0_0).bind fun y0 =>
        p_host_cutRight_2 s0_0 s1_1 y0.1 y0.2 false s1_1 0
    else
      some s0_0 := of_eq (by kernel_rfl) (Run_unfold E 174 (E.at 174 [1, 0, 0, 7]) ⟨mkSlots [(0, (.val .str s0_0)), (1, (.val .str s1_1))], mkBoxes [], mkRows []⟩)
theorem p_host_cutRight_2_eq (s0_0 : List UInt8) (s1_1 : List UInt8) (s5_2 : Int) (s6_3 : Int) (s7_4 : Bool) (t0_5 : List UInt8) (n0_6 : Nat) : p_host_cutRight_2 s0_0 s1_1 s5_2 s6_3 s7_4 t0_5 n0_6 =
    bif (decide (n0_6 < (List.length t0_5))) then
      bif s7_4 then
        p_host_cutRight_2 s0_0 s1_1 s5_2 s6_3 true t0_5 (n0_6 + (decRune t0_5 n0_6).2)
      else
        p_host_cutRight_2 s0_0 s1_1 s5_2 s6_3 (s5_2 == (((decRune t0_5 n0_6).1 : Nat) : Int)) t0_5 (n0_6 + (decRune t0_5 n0_6).2)
    else
      bif (!s7_4) then
        some s0_0
      else
        bif (cutOk none (some (IntKind.wrap IntKind.i64 ((((List.length s0_0) : Nat) : Int) - s6_3))) (List.length s0_0)) then
          p_host_cutRight_1 (cutList none (some (IntKind.wrap IntKind.i64 ((((List.length s0_0) : Nat) : Int) - s6_3))) s0_0) s1_1
        else
          none := of_eq (by kernel_rfl) (Run_unfold E 174 (E.at 174 [1, 0, 0, 0, 1, 0, 1, 1, 0, 1, 0, 7]) ⟨mkSlots [(0, (.val .str s0_0)), (1, (.val .str s1_1)), (5, (.val (.int .i32) s5_2)), (6, (.val (.int .i64) s6_3)), (7, (.val .bool s7_4)), (19, (.addr (.box 0) []))], mkBoxes [.iter t0_5 n0_6], mkRows []⟩)
theorem c_ref01_digit_eq (x : Int) : c_ref01_digit x =
    p_ref01_digit_0 x := by kernel_rfl
theorem p_ref01_digit_0_eq (s0_0 : Int) : p_ref01_digit_0 s0_0 =
    bif (decide (s0_0 ≥ (48 : Int))) then
      some (decide (s0_0 ≤ (57 : Int)))
    else
      some false := of_eq (by kernel_rfl) (Run_unfold E 176 (E.at 176 []) ⟨mkSlots [(0, (.val (.int .u8) s0_0))], assocB [], assocR []⟩)
theorem c_utf8_DecodeLastRuneInString_eq (x : List UInt8) : c_utf8_DecodeLastRuneInString x = primDecodeLast x := by kernel_rfl
theorem c_strings_IndexByte_eq (x : (List UInt8 × Int)) : c_strings_IndexByte x = primIndexByte x := by kernel_rfl
theorem c_istringslite_Index_eq (x : (List UInt8 × List UInt8)) : c_istringslite_Index x = primIndex x := by kernel_rfl
theorem c_strings_Index_eq (x : (List UInt8 × List UInt8)) : c_strings_Index x = primIndex x := by kernel_rfl
end Go.Abs
