/- Part Q3 of the proof: see the last text of the claim. No condition of its own. -/
import Derived.Test.YtddagflhafkbnaaGreatDoorQ1
set_option linter.all false
namespace Go.Abs
set_option autoImplicit false
set_option linter.all false
noncomputable def c_host_ToASCII (x : List UInt8) : Option (List UInt8 × Int) := Abs.Call E 56 x
noncomputable def p_host_ToASCII_0 (s0_0 : List UInt8) : Option (List UInt8 × Int) := (Abs.Run E 56 (E.at 56 []) ⟨mkSlots [(0, (.val .str s0_0))], assocB [], assocR []⟩)
noncomputable def p_host_ToASCII_1 (s0_0 : List UInt8) (s7_1 : Int) (t0_2 : List UInt8) (n0_3 : Nat) (r0_4 : List (List UInt8)) : Option (List UInt8 × Int) := (Abs.Run E 56 (E.at 56 [1, 1, 1, 1, 1, 1, 0, 1, 0, 7]) ⟨mkSlots [(0, (.val .str s0_0)), (6, (.row 0)), (7, (.val (.int .i64) s7_1)), (27, (.addr (.box 0) []))], mkBoxes [.iter t0_2 n0_3], mkRows [.mk .str .live r0_4]⟩)
noncomputable def p_host_ToASCII_2 (s0_0 : List UInt8) (s53_1 : Int) (s54_2 : Int) (r0_3 : List (List UInt8)) : Option (List UInt8 × Int) := (Abs.Run E 56 (E.at 56 [1, 1, 1, 1, 1, 1, 1, 1, 0, 1, 0, 7]) ⟨mkSlots [(0, (.val .str s0_0)), (6, (.row 0)), (53, (.val (.int .i64) s53_1)), (54, (.val (.int .i64) s54_2))], mkBoxes [], mkRows [.mk .str .live r0_3]⟩)
noncomputable def c_host_ToUnicode (x : List UInt8) : Option (List UInt8) := Abs.Call E 58 x
noncomputable def p_host_ToUnicode_0 (s0_0 : List UInt8) : Option (List UInt8) := (Abs.Run E 58 (E.at 58 []) ⟨mkSlots [(0, (.val .str s0_0))], assocB [], assocR []⟩)
noncomputable def p_host_ToUnicode_1 (s0_0 : List UInt8) (s11_1 : Int) (s12_2 : Int) (r0_3 : List (List UInt8)) : Option (List UInt8) := (Abs.Run E 58 (E.at 58 [1, 1, 0, 1, 0, 7]) ⟨mkSlots [(0, (.val .str s0_0)), (3, (.row 0)), (10, (.row 0)), (11, (.val (.int .i64) s11_1)), (12, (.val (.int .i64) s12_2))], mkBoxes [], mkRows [.mk .str .live r0_3]⟩)
noncomputable def c_utf_Valid (x : List UInt8) : Option (Bool × Int) := Abs.Call E 134 x
noncomputable def p_utf_Valid_0 (s0_0 : List UInt8) : Option (Bool × Int) := (Abs.Run E 134 (E.at 134 []) ⟨mkSlots [(0, (.val .str s0_0))], assocB [], assocR []⟩)
noncomputable def p_utf_Valid_1 (s0_0 : List UInt8) (t0_1 : List UInt8) (n0_2 : Nat) : Option (Bool × Int) := (Abs.Run E 134 (E.at 134 [1, 0, 1, 0, 7]) ⟨mkSlots [(0, (.val .str s0_0)), (6, (.addr (.box 0) []))], mkBoxes [.iter t0_1 n0_2], mkRows []⟩)
noncomputable def c_host_dot (x : Int) : Option Bool := Abs.Call E 135 x
noncomputable def p_host_dot_0 (s0_0 : Int) : Option Bool := (Abs.Run E 135 (E.at 135 []) ⟨mkSlots [(0, (.val (.int .i32) s0_0))], assocB [], assocR []⟩)
noncomputable def c_host_label (x : (List UInt8 × Bool)) : Option (List UInt8 × Int) := Abs.Call E 136 x
noncomputable def p_host_label_0 (s0_0 : List UInt8) (s1_1 : Bool) : Option (List UInt8 × Int) := (Abs.Run E 136 (E.at 136 []) ⟨mkSlots [(1, (.val .bool s1_1)), (0, (.val .str s0_0))], assocB [], assocR []⟩)
noncomputable def p_host_label_1 (s0_0 : List UInt8) (s1_1 : Bool) (s6_2 : Bool) : Option (List UInt8 × Int) := (Abs.Run E 136 (E.at 136 [1, 1, 1, 0, 1, 9]) ⟨mkSlots [(0, (.val .str s0_0)), (1, (.val .bool s1_1)), (6, (.val .bool s6_2))], mkBoxes [], mkRows []⟩)
noncomputable def c_strings_Join (x : ((List (List UInt8)) × List UInt8)) : Option (List UInt8) := Abs.Call E 137 x
noncomputable def c_strings_TrimSuffix (x : (List UInt8 × List UInt8)) : Option (List UInt8) := Abs.Call E 138 x
noncomputable def p_strings_TrimSuffix_0 (s0_0 : List UInt8) (s1_1 : List UInt8) : Option (List UInt8) := (Abs.Run E 138 (E.at 138 []) ⟨mkSlots [(1, (.val .str s1_1)), (0, (.val .str s0_0))], assocB [], assocR []⟩)
noncomputable def c_puny_Unlabel (x : List UInt8) : Option (List UInt8 × Int) := Abs.Call E 143 x
noncomputable def p_puny_Unlabel_0 (s0_0 : List UInt8) : Option (List UInt8 × Int) := (Abs.Run E 143 (E.at 143 []) ⟨mkSlots [(0, (.val .str s0_0))], assocB [], assocR []⟩)
noncomputable def c_utf_at (x : (List UInt8 × Int)) : Option D181 := Abs.Call E 190 x
noncomputable def p_utf_at_0 (s0_0 : List UInt8) (s1_1 : Int) : Option D181 := (Abs.Run E 190 (E.at 190 []) ⟨mkSlots [(1, (.val (.int .i64) s1_1)), (0, (.val .str s0_0))], assocB [], assocR []⟩)
noncomputable def c_host_hasRune (x : (List UInt8 × Int)) : Option Bool := Abs.Call E 191 x
noncomputable def p_host_hasRune_0 (s0_0 : List UInt8) (s1_1 : Int) : Option Bool := (Abs.Run E 191 (E.at 191 []) ⟨mkSlots [(1, (.val (.int .i32) s1_1)), (0, (.val .str s0_0))], assocB [], assocR []⟩)
noncomputable def p_host_hasRune_1 (s0_0 : List UInt8) (s1_1 : Int) (t0_2 : List UInt8) (n0_3 : Nat) : Option Bool := (Abs.Run E 191 (E.at 191 [1, 0, 1, 0, 7]) ⟨mkSlots [(0, (.val .str s0_0)), (1, (.val (.int .i32) s1_1)), (8, (.addr (.box 0) []))], mkBoxes [.iter t0_2 n0_3], mkRows []⟩)
noncomputable def c_host_basic (x : List UInt8) : Option Bool := Abs.Call E 192 x
noncomputable def p_host_basic_0 (s0_0 : List UInt8) : Option Bool := (Abs.Run E 192 (E.at 192 []) ⟨mkSlots [(0, (.val .str s0_0))], assocB [], assocR []⟩)
noncomputable def c_puny_Label (x : List UInt8) : Option (List UInt8 × Int) := Abs.Call E 193 x
noncomputable def p_puny_Label_0 (s0_0 : List UInt8) : Option (List UInt8 × Int) := (Abs.Run E 193 (E.at 193 []) ⟨mkSlots [(0, (.val .str s0_0))], assocB [], assocR []⟩)
noncomputable def c_strings_IndexFunc (x : (List UInt8 × Unit)) : Option Int := Abs.Call E 194 x
noncomputable def p_strings_IndexFunc_0 (s0_0 : List UInt8) (s1_1 : Unit) : Option Int := (Abs.Run E 194 (E.at 194 []) ⟨mkSlots [(1, (.cl 239 0 (.val .unit s1_1))), (0, (.val .str s0_0))], assocB [], assocR []⟩)
noncomputable def c_strings_IndexFunc__puny_basic_1 (x : (List UInt8 × Unit)) : Option Int := Abs.Call E 1194 x
noncomputable def p_strings_IndexFunc__puny_basic_1_0 (s0_0 : List UInt8) (s1_1 : Unit) : Option Int := (Abs.Run E 1194 (E.at 1194 []) ⟨mkSlots [(1, (.cl 248 0 (.val .unit s1_1))), (0, (.val .str s0_0))], assocB [], assocR []⟩)
noncomputable def c_strings_IndexFunc__host_dot (x : (List UInt8 × Unit)) : Option Int := Abs.Call E 2194 x
noncomputable def p_strings_IndexFunc__host_dot_0 (s0_0 : List UInt8) (s1_1 : Unit) : Option Int := (Abs.Run E 2194 (E.at 2194 []) ⟨mkSlots [(1, (.cl 135 0 (.val .unit s1_1))), (0, (.val .str s0_0))], assocB [], assocR []⟩)
noncomputable def c_istringslite_TrimSuffix (x : (List UInt8 × List UInt8)) : Option (List UInt8) := Abs.Call E 198 x
noncomputable def p_istringslite_TrimSuffix_0 (s0_0 : List UInt8) (s1_1 : List UInt8) : Option (List UInt8) := (Abs.Run E 198 (E.at 198 []) ⟨mkSlots [(1, (.val .str s1_1)), (0, (.val .str s0_0))], assocB [], assocR []⟩)
noncomputable def c_puny_Decode (x : List UInt8) : Option (List UInt8 × (Int × Int)) := Abs.Call E 204 x
noncomputable def p_puny_Decode_0 (s0_0 : List UInt8) : Option (List UInt8 × (Int × Int)) := (Abs.Run E 204 (E.at 204 []) ⟨mkSlots [(0, (.val .str s0_0))], assocB [], assocR []⟩)
noncomputable def c_puny_basic (x : List UInt8) : Option Bool := Abs.Call E 205 x
noncomputable def p_puny_basic_0 (s0_0 : List UInt8) : Option Bool := (Abs.Run E 205 (E.at 205 []) ⟨mkSlots [(0, (.val .str s0_0))], assocB [], assocR []⟩)
noncomputable def c_octets_Same (x : (List UInt8 × List UInt8)) : Option Bool := Abs.Call E 206 x
noncomputable def p_octets_Same_0 (s0_0 : List UInt8) (s1_1 : List UInt8) : Option Bool := (Abs.Run E 206 (E.at 206 []) ⟨mkSlots [(1, (.val .str s1_1)), (0, (.val .str s0_0))], assocB [], assocR []⟩)
noncomputable def c_utf8_DecodeRuneInString (x : List UInt8) : Option (Int × Int) := Abs.Call E 238 x
noncomputable def c_host_basic_1 (x : Int) : Option Bool := Abs.Call E 239 x
noncomputable def p_host_basic_1_0 (s0_0 : Int) : Option Bool := (Abs.Run E 239 (E.at 239 []) ⟨mkSlots [(0, (.val (.int .i32) s0_0))], assocB [], assocR []⟩)
noncomputable def c_puny_Encode (x : List UInt8) : Option (List UInt8 × Int) := Abs.Call E 240 x
noncomputable def p_puny_Encode_0 (s0_0 : List UInt8) : Option (List UInt8 × Int) := (Abs.Run E 240 (E.at 240 []) ⟨mkSlots [(0, (.val .str s0_0))], assocB [], assocR []⟩)
noncomputable def p_puny_Encode_1 (s0_0 : List UInt8) (s36_1 : Int) (s37_2 : Int) (r0_3 : List Int) (r1_4 : List Int) : Option (List UInt8 × Int) := (Abs.Run E 240 (E.at 240 [1, 1, 1, 1, 1, 0, 1, 0, 7]) ⟨mkSlots [(0, (.val .str s0_0)), (6, (.row 0)), (7, (.row 1)), (35, (.row 0)), (36, (.val (.int .i64) s36_1)), (37, (.val (.int .i64) s37_2))], mkBoxes [], mkRows [.mk (.int .i32) .live r0_3, .mk (.int .u8) .live r1_4]⟩)
noncomputable def p_puny_Encode_2 (s0_0 : List UInt8) (s10_1 : Int) (s11_2 : Int) (r0_3 : List Int) (r1_4 : List Int) : Option (List UInt8 × Int) := (Abs.Run E 240 (E.at 240 [1, 1, 1, 1, 1, 1, 1, 1, 0, 1, 9]) ⟨mkSlots [(0, (.val .str s0_0)), (6, (.row 0)), (7, (.row 1)), (10, (.val (.int .i64) s10_1)), (11, (.val (.int .i64) s11_2))], mkBoxes [], mkRows [.mk (.int .i32) .live r0_3, .mk (.int .u8) .live r1_4]⟩)
noncomputable def p_puny_Encode_3 (s0_0 : List UInt8) (s10_1 : Int) (s11_2 : Int) (s12_3 : Int) (s13_4 : Int) (s14_5 : Int) (r0_6 : List Int) (r1_7 : List Int) : Option (List UInt8 × Int) := (Abs.Run E 240 (E.at 240 [1, 1, 1, 1, 1, 1, 1, 1, 1, 1, 0, 0, 7]) ⟨mkSlots [(0, (.val .str s0_0)), (6, (.row 0)), (7, (.row 1)), (10, (.val (.int .i64) s10_1)), (11, (.val (.int .i64) s11_2)), (12, (.val (.int .i32) s12_3)), (13, (.val (.int .i64) s13_4)), (14, (.val (.int .i64) s14_5))], mkBoxes [], mkRows [.mk (.int .i32) .live r0_6, .mk (.int .u8) .live r1_7]⟩)
noncomputable def p_puny_Encode_4 (s0_0 : List UInt8) (s10_1 : Int) (s11_2 : Int) (s12_3 : Int) (s13_4 : Int) (s14_5 : Int) (s15_6 : Int) (s62_7 : Int) (s63_8 : Int) (r0_9 : List Int) (r1_10 : List Int) : Option (List UInt8 × Int) := (Abs.Run E 240 (E.at 240 [1, 1, 1, 1, 1, 1, 1, 1, 1, 1, 0, 0, 0, 1, 0, 1, 0, 1, 0, 7]) ⟨mkSlots [(0, (.val .str s0_0)), (6, (.row 0)), (7, (.row 1)), (10, (.val (.int .i64) s10_1)), (11, (.val (.int .i64) s11_2)), (12, (.val (.int .i32) s12_3)), (13, (.val (.int .i64) s13_4)), (14, (.val (.int .i64) s14_5)), (15, (.val (.int .i32) s15_6)), (61, (.row 0)), (62, (.val (.int .i64) s62_7)), (63, (.val (.int .i64) s63_8))], mkBoxes [], mkRows [.mk (.int .i32) .live r0_9, .mk (.int .u8) .live r1_10]⟩)
noncomputable def p_puny_Encode_5 (s0_0 : List UInt8) (s10_1 : Int) (s11_2 : Int) (s12_3 : Int) (s13_4 : Int) (s14_5 : Int) (s88_6 : Int) (s89_7 : Int) (r0_8 : List Int) (r1_9 : List Int) : Option (List UInt8 × Int) := (Abs.Run E 240 (E.at 240 [1, 1, 1, 1, 1, 1, 1, 1, 1, 1, 0, 0, 0, 1, 0, 1, 1, 1, 1, 0, 1, 0, 7]) ⟨mkSlots [(0, (.val .str s0_0)), (6, (.row 0)), (7, (.row 1)), (10, (.val (.int .i64) s10_1)), (11, (.val (.int .i64) s11_2)), (12, (.val (.int .i32) s12_3)), (13, (.val (.int .i64) s13_4)), (14, (.val (.int .i64) s14_5)), (87, (.row 0)), (88, (.val (.int .i64) s88_6)), (89, (.val (.int .i64) s89_7))], mkBoxes [], mkRows [.mk (.int .i32) .live r0_8, .mk (.int .u8) .live r1_9]⟩)
noncomputable def p_puny_Encode_6 (s0_0 : List UInt8) (s10_1 : Int) (s11_2 : Int) (s12_3 : Int) (s13_4 : Int) (s14_5 : Int) (s19_6 : Int) (s88_7 : Int) (s89_8 : Int) (r0_9 : List Int) (r1_10 : List Int) : Option (List UInt8 × Int) := (Abs.Run E 240 (E.at 240 [1, 1, 1, 1, 1, 1, 1, 1, 1, 1, 0, 0, 0, 1, 0, 1, 1, 1, 1, 0, 1, 0, 0, 1, 1, 0, 0, 1, 0, 1, 9]) ⟨mkSlots [(0, (.val .str s0_0)), (6, (.row 0)), (7, (.row 1)), (10, (.val (.int .i64) s10_1)), (11, (.val (.int .i64) s11_2)), (12, (.val (.int .i32) s12_3)), (13, (.val (.int .i64) s13_4)), (14, (.val (.int .i64) s14_5)), (19, (.val (.int .i32) s19_6)), (87, (.row 0)), (88, (.val (.int .i64) s88_7)), (89, (.val (.int .i64) s89_8))], mkBoxes [], mkRows [.mk (.int .i32) .live r0_9, .mk (.int .u8) .live r1_10]⟩)
noncomputable def c_strings_indexFunc (x : (List UInt8 × (Unit × Bool))) : Option Int := Abs.Call E 241 x
noncomputable def p_strings_indexFunc_0 (s0_0 : List UInt8) (s1_1 : Unit) (s2_2 : Bool) : Option Int := (Abs.Run E 241 (E.at 241 []) ⟨mkSlots [(2, (.val .bool s2_2)), (1, (.cl 239 0 (.val .unit s1_1))), (0, (.val .str s0_0))], assocB [], assocR []⟩)
noncomputable def p_strings_indexFunc_1 (s0_0 : List UInt8) (s1_1 : Unit) (s2_2 : Bool) (t0_3 : List UInt8) (n0_4 : Nat) : Option Int := (Abs.Run E 241 (E.at 241 [1, 0, 1, 0, 7]) ⟨mkSlots [(0, (.val .str s0_0)), (1, (.cl 239 0 (.val .unit s1_1))), (2, (.val .bool s2_2)), (10, (.addr (.box 0) []))], mkBoxes [.iter t0_3 n0_4], mkRows []⟩)
noncomputable def c_strings_indexFunc__puny_basic_1 (x : (List UInt8 × (Unit × Bool))) : Option Int := Abs.Call E 1241 x
noncomputable def p_strings_indexFunc__puny_basic_1_0 (s0_0 : List UInt8) (s1_1 : Unit) (s2_2 : Bool) : Option Int := (Abs.Run E 1241 (E.at 1241 []) ⟨mkSlots [(2, (.val .bool s2_2)), (1, (.cl 248 0 (.val .unit s1_1))), (0, (.val .str s0_0))], assocB [], assocR []⟩)
noncomputable def p_strings_indexFunc__puny_basic_1_1 (s0_0 : List UInt8) (s1_1 : Unit) (s2_2 : Bool) (t0_3 : List UInt8) (n0_4 : Nat) : Option Int := (Abs.Run E 1241 (E.at 1241 [1, 0, 1, 0, 7]) ⟨mkSlots [(0, (.val .str s0_0)), (1, (.cl 248 0 (.val .unit s1_1))), (2, (.val .bool s2_2)), (10, (.addr (.box 0) []))], mkBoxes [.iter t0_3 n0_4], mkRows []⟩)
noncomputable def c_strings_indexFunc__host_dot (x : (List UInt8 × (Unit × Bool))) : Option Int := Abs.Call E 2241 x
noncomputable def p_strings_indexFunc__host_dot_0 (s0_0 : List UInt8) (s1_1 : Unit) (s2_2 : Bool) : Option Int := (Abs.Run E 2241 (E.at 2241 []) ⟨mkSlots [(2, (.val .bool s2_2)), (1, (.cl 135 0 (.val .unit s1_1))), (0, (.val .str s0_0))], assocB [], assocR []⟩)
noncomputable def p_strings_indexFunc__host_dot_1 (s0_0 : List UInt8) (s1_1 : Unit) (s2_2 : Bool) (t0_3 : List UInt8) (n0_4 : Nat) : Option Int := (Abs.Run E 2241 (E.at 2241 [1, 0, 1, 0, 7]) ⟨mkSlots [(0, (.val .str s0_0)), (1, (.cl 135 0 (.val .unit s1_1))), (2, (.val .bool s2_2)), (10, (.addr (.box 0) []))], mkBoxes [.iter t0_3 n0_4], mkRows []⟩)
noncomputable def c_istringslite_HasSuffix (x : (List UInt8 × List UInt8)) : Option Bool := Abs.Call E 244 x
noncomputable def p_istringslite_HasSuffix_0 (s0_0 : List UInt8) (s1_1 : List UInt8) : Option Bool := (Abs.Run E 244 (E.at 244 []) ⟨mkSlots [(1, (.val .str s1_1)), (0, (.val .str s0_0))], assocB [], assocR []⟩)
noncomputable def c_puny_decode (x : List UInt8) : Option (List UInt8 × (Int × Int)) := Abs.Call E 247 x
noncomputable def p_puny_decode_0 (s0_0 : List UInt8) : Option (List UInt8 × (Int × Int)) := (Abs.Run E 247 (E.at 247 []) ⟨mkSlots [(0, (.val .str s0_0))], assocB [], assocR []⟩)
noncomputable def p_puny_decode_1 (s0_0 : List UInt8) (s19_1 : Int) (s20_2 : Int) : Option (List UInt8 × (Int × Int)) := (Abs.Run E 247 (E.at 247 [1, 0, 1, 0, 7]) ⟨mkSlots [(0, (.val .str s0_0)), (19, (.val (.int .i64) s19_1)), (20, (.val (.int .i64) s20_2))], mkBoxes [], mkRows []⟩)
noncomputable def p_puny_decode_2 (s0_0 : List UInt8) (s7_1 : Int) (r0_2 : List Int) : Option (List UInt8 × (Int × Int)) := (Abs.Run E 247 (E.at 247 [1, 1, 1, 1, 0, 1, 9]) ⟨mkSlots [(0, (.val .str s0_0)), (6, (.row 0)), (7, (.val (.int .i64) s7_1))], mkBoxes [], mkRows [.mk (.int .i32) .live r0_2]⟩)
noncomputable def p_puny_decode_3 (s0_0 : List UInt8) (s7_1 : Int) : Option (List UInt8 × (Int × Int)) := (Abs.Run E 247 (E.at 247 [1, 1, 1, 1, 0, 1, 9]) ⟨mkSlots [(0, (.val .str s0_0)), (6, .nils), (7, (.val (.int .i64) s7_1))], mkBoxes [], mkRows []⟩)
noncomputable def p_puny_decode_4 (s0_0 : List UInt8) (s7_1 : Int) (s8_2 : Int) (s9_3 : Int) (s10_4 : Int) (s11_5 : Int) (r0_6 : List Int) : Option (List UInt8 × (Int × Int)) := (Abs.Run E 247 (E.at 247 [1, 1, 1, 1, 1, 1, 1, 0, 0, 7]) ⟨mkSlots [(0, (.val .str s0_0)), (6, (.row 0)), (7, (.val (.int .i64) s7_1)), (8, (.val (.int .i64) s8_2)), (9, (.val (.int .i64) s9_3)), (10, (.val (.int .i64) s10_4)), (11, (.val (.int .i64) s11_5))], mkBoxes [], mkRows [.mk (.int .i32) .live r0_6]⟩)
noncomputable def p_puny_decode_5 (s0_0 : List UInt8) (s7_1 : Int) (s8_2 : Int) (s9_3 : Int) (s10_4 : Int) (s11_5 : Int) : Option (List UInt8 × (Int × Int)) := (Abs.Run E 247 (E.at 247 [1, 1, 1, 1, 1, 1, 1, 0, 0, 7]) ⟨mkSlots [(0, (.val .str s0_0)), (6, .nils), (7, (.val (.int .i64) s7_1)), (8, (.val (.int .i64) s8_2)), (9, (.val (.int .i64) s9_3)), (10, (.val (.int .i64) s10_4)), (11, (.val (.int .i64) s11_5))], mkBoxes [], mkRows []⟩)
noncomputable def c_puny_basic_1 (x : Int) : Option Bool := Abs.Call E 248 x
noncomputable def p_puny_basic_1_0 (s0_0 : Int) : Option Bool := (Abs.Run E 248 (E.at 248 []) ⟨mkSlots [(0, (.val (.int .i32) s0_0))], assocB [], assocR []⟩)
noncomputable def c_puny_lay (x : ((List Int) × (Int × Int))) : Option (List Int) := Abs.Call E 270 x
noncomputable def p_puny_lay_0 (s1_0 : Int) (s2_1 : Int) (r0_2 : List Int) : Option (List Int) := (Abs.Run E 270 (E.at 270 []) ⟨mkSlots [(2, (.val (.int .i64) s2_1)), (1, (.val (.int .i64) s1_0)), (0, (.row 1073741824))], assocB [], assocR [(1073741824, .mk (.int .u8) .live r0_2)]⟩)
noncomputable def p_puny_lay_1 (s1_0 : Int) (s2_1 : Int) (s7_2 : Int) (r0_3 : List Int) : Option (List Int) := (Abs.Run E 270 (E.at 270 [1, 1, 0, 7]) ⟨mkSlots [(0, (.row 0)), (1, (.val (.int .i64) s1_0)), (2, (.val (.int .i64) s2_1)), (7, (.val (.int .i64) s7_2))], mkBoxes [], mkRows [.mk (.int .u8) .live r0_3]⟩)
noncomputable def c_puny_adapt (x : (Int × (Int × Bool))) : Option Int := Abs.Call E 271 x
noncomputable def p_puny_adapt_0 (s0_0 : Int) (s1_1 : Int) (s2_2 : Bool) : Option Int := (Abs.Run E 271 (E.at 271 []) ⟨mkSlots [(2, (.val .bool s2_2)), (1, (.val (.int .i64) s1_1)), (0, (.val (.int .i64) s0_0))], assocB [], assocR []⟩)
noncomputable def p_puny_adapt_1 (s0_0 : Int) (s1_1 : Int) (s2_2 : Bool) : Option Int := (Abs.Run E 271 (E.at 271 [1, 0, 1, 9]) ⟨mkSlots [(0, (.val (.int .i64) s0_0)), (1, (.val (.int .i64) s1_1)), (2, (.val .bool s2_2))], mkBoxes [], mkRows []⟩)
noncomputable def p_puny_adapt_2 (s0_0 : Int) (s1_1 : Int) (s2_2 : Bool) (s7_3 : Int) : Option Int := (Abs.Run E 271 (E.at 271 [1, 1, 1, 1, 0, 0, 7]) ⟨mkSlots [(0, (.val (.int .i64) s0_0)), (1, (.val (.int .i64) s1_1)), (2, (.val .bool s2_2)), (7, (.val (.int .i64) s7_3))], mkBoxes [], mkRows []⟩)
noncomputable def c_strings_LastIndexByte (x : (List UInt8 × Int)) : Option Int := Abs.Call E 275 x
noncomputable def p_strings_LastIndexByte_0 (s0_0 : List UInt8) (s1_1 : Int) : Option Int := (Abs.Run E 275 (E.at 275 []) ⟨mkSlots [(1, (.val (.int .u8) s1_1)), (0, (.val .str s0_0))], assocB [], assocR []⟩)
noncomputable def c_puny_number (x : (List UInt8 × (Int × (Int × Int)))) : Option (Int × (Int × (Int × Int))) := Abs.Call E 276 x
noncomputable def p_puny_number_0 (s0_0 : List UInt8) (s1_1 : Int) (s2_2 : Int) (s3_3 : Int) : Option (Int × (Int × (Int × Int))) := (Abs.Run E 276 (E.at 276 []) ⟨mkSlots [(3, (.val (.int .i64) s3_3)), (2, (.val (.int .i64) s2_2)), (1, (.val (.int .i64) s1_1)), (0, (.val .str s0_0))], assocB [], assocR []⟩)
noncomputable def p_puny_number_1 (s0_0 : List UInt8) (s1_1 : Int) (s2_2 : Int) (s3_3 : Int) (s12_4 : Int) (s13_5 : Int) (s14_6 : Int) : Option (Int × (Int × (Int × Int))) := (Abs.Run E 276 (E.at 276 [1, 1, 1, 1, 0, 7]) ⟨mkSlots [(0, (.val .str s0_0)), (1, (.val (.int .i64) s1_1)), (2, (.val (.int .i64) s2_2)), (3, (.val (.int .i64) s3_3)), (12, (.val (.int .i64) s12_4)), (13, (.val (.int .i64) s13_5)), (14, (.val (.int .i64) s14_6))], mkBoxes [], mkRows []⟩)
noncomputable def p_puny_number_2 (s0_0 : List UInt8) (s1_1 : Int) (s2_2 : Int) (s3_3 : Int) (s12_4 : Int) (s13_5 : Int) (s14_6 : Int) (s15_7 : Int) : Option (Int × (Int × (Int × Int))) := (Abs.Run E 276 (E.at 276 [1, 1, 1, 1, 0, 0, 0, 0, 1, 1, 0, 1, 1, 9]) ⟨mkSlots [(0, (.val .str s0_0)), (1, (.val (.int .i64) s1_1)), (2, (.val (.int .i64) s2_2)), (3, (.val (.int .i64) s3_3)), (12, (.val (.int .i64) s12_4)), (13, (.val (.int .i64) s13_5)), (14, (.val (.int .i64) s14_6)), (15, (.val (.int .i64) s15_7))], mkBoxes [], mkRows []⟩)
noncomputable def c_slices_Insert_rune_rune (x : ((List Int) × (Int × (List Int)))) : Option (List Int) := Abs.Call E 277 x
noncomputable def c_puny_threshold (x : (Int × Int)) : Option Int := Abs.Call E 290 x
noncomputable def p_puny_threshold_0 (s0_0 : Int) (s1_1 : Int) : Option Int := (Abs.Run E 290 (E.at 290 []) ⟨mkSlots [(1, (.val (.int .i64) s1_1)), (0, (.val (.int .i64) s0_0))], assocB [], assocR []⟩)
noncomputable def c_ibytealg_LastIndexByteString (x : (List UInt8 × Int)) : Option Int := Abs.Call E 292 x
noncomputable def p_ibytealg_LastIndexByteString_0 (s0_0 : List UInt8) (s1_1 : Int) : Option Int := (Abs.Run E 292 (E.at 292 []) ⟨mkSlots [(1, (.val (.int .u8) s1_1)), (0, (.val .str s0_0))], assocB [], assocR []⟩)
noncomputable def p_ibytealg_LastIndexByteString_1 (s0_0 : List UInt8) (s1_1 : Int) (s5_2 : Int) : Option Int := (Abs.Run E 292 (E.at 292 [1, 0, 1, 0, 7]) ⟨mkSlots [(0, (.val .str s0_0)), (1, (.val (.int .u8) s1_1)), (5, (.val (.int .i64) s5_2))], mkBoxes [], mkRows []⟩)
theorem c_host_ToASCII_eq (x : List UInt8) : c_host_ToASCII x =
    p_host_ToASCII_0 x := by kernel_rfl
theorem p_host_ToASCII_0_eq (s0_0 : List UInt8) : p_host_ToASCII_0 s0_0 =
    (c_utf_Valid s0_0).bind fun y0 =>
      bif (!y0.1) then
        some (([] : List UInt8), (21 : Int))
      else
        bif (decide ((((List.length s0_0) : Nat) : Int) > (65536 : Int))) then
          some (([] : List UInt8), (5 : Int))
        else
          bif (s0_0 == ([] : List UInt8)) then
            some (([] : List UInt8), (0 : Int))
          else
            p_host_ToASCII_1 s0_0 (0 : Int) s0_0 0 ([] : List (List UInt8)) := of_eq (by kernel_rfl) (Run_unfold E 56 (E.at 56 []) ⟨mkSlots [(0, (.val .str s0_0))], assocB [], assocR []⟩)
theorem p_host_ToASCII_1_eq (s0_0 : List UInt8) (s7_1 : Int) (t0_2 : List UInt8) (n0_3 : Nat) (r0_4 : List (List UInt8)) : p_host_ToASCII_1 s0_0 s7_1 t0_2 n0_3 r0_4 =
    bif (decide (n0_3 < (List.length t0_2))) then
      (c_host_dot (((decRune t0_2 n0_3).1 : Nat) : Int)).bind fun y0 =>
        bif y0 then
          bif (cutOk (some s7_1) (some ((n0_3 : Nat) : Int)) (List.length s0_0)) then
            bif (decide (((List.length r0_4) + (List.length ([(cutList (some s7_1) (some ((n0_3 : Nat) : Int)) s0_0)] : List (List UInt8)))) ≤ (lim))) then
              p_host_ToASCII_1 s0_0 (IntKind.wrap IntKind.i64 (((n0_3 : Nat) : Int) + (((List.length (encRune (((decRune t0_2 n0_3).1 : Nat) : Int))) : Nat) : Int))) t0_2 (n0_3 + (decRune t0_2 n0_3).2) (r0_4 ++ ([(cutList (some s7_1) (some ((n0_3 : Nat) : Int)) s0_0)] : List (List UInt8)))
            else
              none
          else
            none
        else
          p_host_ToASCII_1 s0_0 s7_1 t0_2 (n0_3 + (decRune t0_2 n0_3).2) r0_4
    else
      bif (cutOk (some s7_1) none (List.length s0_0)) then
        bif (decide (((List.length r0_4) + (List.length ([(cutList (some s7_1) none s0_0)] : List (List UInt8)))) ≤ (lim))) then
          p_host_ToASCII_2 s0_0 (((List.length (r0_4 ++ ([(cutList (some s7_1) none s0_0)] : List (List UInt8)))) : Nat) : Int) (0 : Int) (r0_4 ++ ([(cutList (some s7_1) none s0_0)] : List (List UInt8)))
        else
          none
      else
        none := of_eq (by kernel_rfl) (Run_unfold E 56 (E.at 56 [1, 1, 1, 1, 1, 1, 0, 1, 0, 7]) ⟨mkSlots [(0, (.val .str s0_0)), (6, (.row 0)), (7, (.val (.int .i64) s7_1)), (27, (.addr (.box 0) []))], mkBoxes [.iter t0_2 n0_3], mkRows [.mk .str .live r0_4]⟩)
theorem p_host_ToASCII_2_eq (s0_0 : List UInt8) (s53_1 : Int) (s54_2 : Int) (r0_3 : List (List UInt8)) : p_host_ToASCII_2 s0_0 s53_1 s54_2 r0_3 =
    bif (decide (s54_2 < s53_1)) then
      bif (inside s54_2 (List.length r0_3)) then
        bif (s54_2 == (IntKind.wrap IntKind.i64 ((((List.length r0_3) : Nat) : Int) - (1 : Int)))) then
          (c_host_label ((List.getD r0_3 (Int.toNat s54_2) (Ty.zero .str)), (decide (s54_2 > (0 : Int))))).bind fun y0 =>
            bif (y0.2 != (0 : Int)) then
              some (([] : List UInt8), y0.2)
            else
              bif (inside s54_2 (List.length r0_3)) then
                p_host_ToASCII_2 s0_0 s53_1 (IntKind.wrap IntKind.i64 (s54_2 + (1 : Int))) (List.set r0_3 (Int.toNat s54_2) y0.1)
              else
                none
        else
          (c_host_label ((List.getD r0_3 (Int.toNat s54_2) (Ty.zero .str)), false)).bind fun y0 =>
            bif (y0.2 != (0 : Int)) then
              some (([] : List UInt8), y0.2)
            else
              bif (inside s54_2 (List.length r0_3)) then
                p_host_ToASCII_2 s0_0 s53_1 (IntKind.wrap IntKind.i64 (s54_2 + (1 : Int))) (List.set r0_3 (Int.toNat s54_2) y0.1)
              else
                none
      else
        none
    else
      (c_strings_Join (r0_3, ([(46 : UInt8)] : List UInt8))).bind fun y0 =>
        (c_strings_TrimSuffix (y0, ([(46 : UInt8)] : List UInt8))).bind fun y1 =>
          bif (decide ((((List.length y1) : Nat) : Int) > (253 : Int))) then
            some (([] : List UInt8), (5 : Int))
          else
            some (y0, (0 : Int)) := of_eq (by kernel_rfl) (Run_unfold E 56 (E.at 56 [1, 1, 1, 1, 1, 1, 1, 1, 0, 1, 0, 7]) ⟨mkSlots [(0, (.val .str s0_0)), (6, (.row 0)), (53, (.val (.int .i64) s53_1)), (54, (.val (.int .i64) s54_2))], mkBoxes [], mkRows [.mk .str .live r0_3]⟩)
theorem c_host_ToUnicode_eq (x : List UInt8) : c_host_ToUnicode x =
    p_host_ToUnicode_0 x := by kernel_rfl
theorem p_host_ToUnicode_0_eq (s0_0 : List UInt8) : p_host_ToUnicode_0 s0_0 =
    (c_octets_Split (s0_0, (46 : Int))).bind fun y0 =>
      p_host_ToUnicode_1 s0_0 (((List.length y0) : Nat) : Int) (0 : Int) y0 := of_eq (by kernel_rfl) (Run_unfold E 58 (E.at 58 []) ⟨mkSlots [(0, (.val .str s0_0))], assocB [], assocR []⟩)
theorem p_host_ToUnicode_1_eq (s0_0 : List UInt8) (s11_1 : Int) (s12_2 : Int) (r0_3 : List (List UInt8)) : p_host_ToUnicode_1 s0_0 s11_1 s12_2 r0_3 =
    bif (decide (s12_2 < s11_1)) then
      bif (inside s12_2 (List.length r0_3)) then
        (c_puny_Unlabel (List.getD r0_3 (Int.toNat s12_2) (Ty.zero .str))).bind fun y0 =>
          bif (y0.2 == (0 : Int)) then
            bif (inside s12_2 (List.length r0_3)) then
              p_host_ToUnicode_1 s0_0 s11_1 (IntKind.wrap IntKind.i64 (s12_2 + (1 : Int))) (List.set r0_3 (Int.toNat s12_2) y0.1)
            else
              none
          else
            p_host_ToUnicode_1 s0_0 s11_1 (IntKind.wrap IntKind.i64 (s12_2 + (1 : Int))) r0_3
      else
        none
    else
      (c_strings_Join (r0_3, ([(46 : UInt8)] : List UInt8))).bind fun y0 =>
        some y0 := of_eq (by kernel_rfl) (Run_unfold E 58 (E.at 58 [1, 1, 0, 1, 0, 7]) ⟨mkSlots [(0, (.val .str s0_0)), (3, (.row 0)), (10, (.row 0)), (11, (.val (.int .i64) s11_1)), (12, (.val (.int .i64) s12_2))], mkBoxes [], mkRows [.mk .str .live r0_3]⟩)
theorem c_utf_Valid_eq (x : List UInt8) : c_utf_Valid x =
    p_utf_Valid_0 x := by kernel_rfl
theorem p_utf_Valid_0_eq (s0_0 : List UInt8) : p_utf_Valid_0 s0_0 =
    p_utf_Valid_1 s0_0 s0_0 0 := of_eq (by kernel_rfl) (Run_unfold E 134 (E.at 134 []) ⟨mkSlots [(0, (.val .str s0_0))], assocB [], assocR []⟩)
theorem p_utf_Valid_1_eq (s0_0 : List UInt8) (t0_1 : List UInt8) (n0_2 : Nat) : p_utf_Valid_1 s0_0 t0_1 n0_2 =
    bif (decide (n0_2 < (List.length t0_1))) then
      (c_utf_at (s0_0, ((n0_2 : Nat) : Int))).bind fun y0 =>
        bif y0.2.2.2 then
          some (false, ((n0_2 : Nat) : Int))
        else
          p_utf_Valid_1 s0_0 t0_1 (n0_2 + (decRune t0_1 n0_2).2)
    else
      some (true, (0 : Int)) := of_eq (by kernel_rfl) (Run_unfold E 134 (E.at 134 [1, 0, 1, 0, 7]) ⟨mkSlots [(0, (.val .str s0_0)), (6, (.addr (.box 0) []))], mkBoxes [.iter t0_1 n0_2], mkRows []⟩)
theorem c_host_dot_eq (x : Int) : c_host_dot x =
    p_host_dot_0 x := by kernel_rfl
theorem p_host_dot_0_eq (s0_0 : Int) : p_host_dot_0 s0_0 =
    bif (s0_0 == (46 : Int)) then
      some true
    else
      bif (s0_0 == (12290 : Int)) then
        some true
      else
        bif (s0_0 == (65294 : Int)) then
          some true
        else
          some (s0_0 == (65377 : Int)) := of_eq (by kernel_rfl) (Run_unfold E 135 (E.at 135 []) ⟨mkSlots [(0, (.val (.int .i32) s0_0))], assocB [], assocR []⟩)
theorem c_host_label_eq (x : (List UInt8 × Bool)) : c_host_label x =
    p_host_label_0 x.1 x.2 := by kernel_rfl
theorem p_host_label_0_eq (s0_0 : List UInt8) (s1_1 : Bool) : p_host_label_0 s0_0 s1_1 =
    (c_octets_Lower s0_0).bind fun y0 =>
      (c_host_hasRune (y0, (65533 : Int))).bind fun y1 =>
        (c_host_basic y0).bind fun y2 =>
          bif (!y2) then
            bif (!y1) then
              (c_puny_Label y0).bind fun y3 =>
                bif (y3.2 != (0 : Int)) then
                  some (([] : List UInt8), (53 : Int))
                else
                  p_host_label_1 y3.1 s1_1 y1
            else
              p_host_label_1 y0 s1_1 y1
          else
            p_host_label_1 y0 s1_1 y1 := of_eq (by kernel_rfl) (Run_unfold E 136 (E.at 136 []) ⟨mkSlots [(1, (.val .bool s1_1)), (0, (.val .str s0_0))], assocB [], assocR []⟩)
theorem p_host_label_1_eq (s0_0 : List UInt8) (s1_1 : Bool) (s6_2 : Bool) : p_host_label_1 s0_0 s1_1 s6_2 =
    bif s6_2 then
      some (([] : List UInt8), (53 : Int))
    else
      bif (decide ((((List.length s0_0) : Nat) : Int) > (63 : Int))) then
        some (([] : List UInt8), (53 : Int))
      else
        bif (s0_0 == ([] : List UInt8)) then
          bif (!s1_1) then
            some (([] : List UInt8), (53 : Int))
          else
            (c_strings_HasPrefix (s0_0, ([(120 : UInt8), (110 : UInt8), (45 : UInt8), (45 : UInt8)] : List UInt8))).bind fun y0 =>
              bif y0 then
                (c_puny_Unlabel s0_0).bind fun y1 =>
                  bif (y1.2 != (0 : Int)) then
                    some (([] : List UInt8), (53 : Int))
                  else
                    (c_host_hasRune (y1.1, (65533 : Int))).bind fun y2 =>
                      bif y2 then
                        some (([] : List UInt8), (53 : Int))
                      else
                        (c_strings_IndexFunc__host_dot (y1.1, ())).bind fun y3 =>
                          bif (decide (y3 ≥ (0 : Int))) then
                            some (([] : List UInt8), (53 : Int))
                          else
                            some (s0_0, (0 : Int))
              else
                some (s0_0, (0 : Int))
        else
          (c_strings_HasPrefix (s0_0, ([(120 : UInt8), (110 : UInt8), (45 : UInt8), (45 : UInt8)] : List UInt8))).bind fun y0 =>
            bif y0 then
              (c_puny_Unlabel s0_0).bind fun y1 =>
                bif (y1.2 != (0 : Int)) then
                  some (([] : List UInt8), (53 : Int))
                else
                  (c_host_hasRune (y1.1, (65533 : Int))).bind fun y2 =>
                    bif y2 then
                      some (([] : List UInt8), (53 : Int))
                    else
                      (c_strings_IndexFunc__host_dot (y1.1, ())).bind fun y3 =>
                        bif (decide (y3 ≥ (0 : Int))) then
                          some (([] : List UInt8), (53 : Int))
                        else
                          some (s0_0, (0 : Int))
            else
              some (s0_0, (0 : Int)) := of_eq (by kernel_rfl) (Run_unfold E 136 (E.at 136 [1, 1, 1, 0, 1, 9]) ⟨mkSlots [(0, (.val .str s0_0)), (1, (.val .bool s1_1)), (6, (.val .bool s6_2))], mkBoxes [], mkRows []⟩)
theorem c_strings_Join_eq (x : ((List (List UInt8)) × List UInt8)) : c_strings_Join x = primJoin x := by kernel_rfl
theorem c_strings_TrimSuffix_eq (x : (List UInt8 × List UInt8)) : c_strings_TrimSuffix x =
    p_strings_TrimSuffix_0 x.1 x.2 := by kernel_rfl
theorem p_strings_TrimSuffix_0_eq (s0_0 : List UInt8) (s1_1 : List UInt8) : p_strings_TrimSuffix_0 s0_0 s1_1 =
    (c_istringslite_TrimSuffix (s0_0, s1_1)).bind fun y0 =>
      some y0 := of_eq (by kernel_rfl) (Run_unfold E 138 (E.at 138 []) ⟨mkSlots [(1, (.val .str s1_1)), (0, (.val .str s0_0))], assocB [], assocR []⟩)
theorem c_puny_Unlabel_eq (x : List UInt8) : c_puny_Unlabel x =
    p_puny_Unlabel_0 x := by kernel_rfl
theorem p_puny_Unlabel_0_eq (s0_0 : List UInt8) : p_puny_Unlabel_0 s0_0 =
    bif (decide ((((List.length s0_0) : Nat) : Int) < (4 : Int))) then
      some (s0_0, (0 : Int))
    else
      bif (cutOk none (some (4 : Int)) (List.length s0_0)) then
        (c_octets_Lower (cutList none (some (4 : Int)) s0_0)).bind fun y0 =>
          bif (!(y0 == ([(120 : UInt8), (110 : UInt8), (45 : UInt8), (45 : UInt8)] : List UInt8))) then
            some (s0_0, (0 : Int))
          else
            bif (cutOk (some (4 : Int)) none (List.length s0_0)) then
              (c_puny_Decode (cutList (some (4 : Int)) none s0_0)).bind fun y1 =>
                bif (y1.2.1 != (0 : Int)) then
                  some (([] : List UInt8), y1.2.1)
                else
                  (c_puny_Label y1.1).bind fun y2 =>
                    bif (y2.2 != (0 : Int)) then
                      some (([] : List UInt8), (31 : Int))
                    else
                      (c_puny_basic y1.1).bind fun y3 =>
                        bif y3 then
                          some (([] : List UInt8), (31 : Int))
                        else
                          (c_octets_Same (y2.1, s0_0)).bind fun y4 =>
                            bif (!y4) then
                              some (([] : List UInt8), (31 : Int))
                            else
                              some (y1.1, (0 : Int))
            else
              none
      else
        none := of_eq (by kernel_rfl) (Run_unfold E 143 (E.at 143 []) ⟨mkSlots [(0, (.val .str s0_0))], assocB [], assocR []⟩)
theorem c_utf_at_eq (x : (List UInt8 × Int)) : c_utf_at x =
    p_utf_at_0 x.1 x.2 := by kernel_rfl
theorem p_utf_at_0_eq (s0_0 : List UInt8) (s1_1 : Int) : p_utf_at_0 s0_0 s1_1 =
    bif (cutOk (some s1_1) none (List.length s0_0)) then
      (c_utf8_DecodeRuneInString (cutList (some s1_1) none s0_0)).bind fun y0 =>
        bif (y0.1 == (65533 : Int)) then
          some (s1_1, (y0.2, (y0.1, (y0.2 == (1 : Int)))))
        else
          some (s1_1, (y0.2, (y0.1, false)))
    else
      none := of_eq (by kernel_rfl) (Run_unfold E 190 (E.at 190 []) ⟨mkSlots [(1, (.val (.int .i64) s1_1)), (0, (.val .str s0_0))], assocB [], assocR []⟩)
theorem c_host_hasRune_eq (x : (List UInt8 × Int)) : c_host_hasRune x =
    p_host_hasRune_0 x.1 x.2 := by kernel_rfl
theorem p_host_hasRune_0_eq (s0_0 : List UInt8) (s1_1 : Int) : p_host_hasRune_0 s0_0 s1_1 =
    p_host_hasRune_1 s0_0 s1_1 s0_0 0 := of_eq (by kernel_rfl) (Run_unfold E 191 (E.at 191 []) ⟨mkSlots [(1, (.val (.int .i32) s1_1)), (0, (.val .str s0_0))], assocB [], assocR []⟩)
theorem p_host_hasRune_1_eq (s0_0 : List UInt8) (s1_1 : Int) (t0_2 : List UInt8) (n0_3 : Nat) : p_host_hasRune_1 s0_0 s1_1 t0_2 n0_3 =
    bif (decide (n0_3 < (List.length t0_2))) then
      bif ((((decRune t0_2 n0_3).1 : Nat) : Int) == s1_1) then
        some true
      else
        p_host_hasRune_1 s0_0 s1_1 t0_2 (n0_3 + (decRune t0_2 n0_3).2)
    else
      some false := of_eq (by kernel_rfl) (Run_unfold E 191 (E.at 191 [1, 0, 1, 0, 7]) ⟨mkSlots [(0, (.val .str s0_0)), (1, (.val (.int .i32) s1_1)), (8, (.addr (.box 0) []))], mkBoxes [.iter t0_2 n0_3], mkRows []⟩)
theorem c_host_basic_eq (x : List UInt8) : c_host_basic x =
    p_host_basic_0 x := by kernel_rfl
theorem p_host_basic_0_eq (s0_0 : List UInt8) : p_host_basic_0 s0_0 =
    (c_strings_IndexFunc (s0_0, ())).bind fun y0 =>
      some (decide (y0 < (0 : Int))) := of_eq (by kernel_rfl) (Run_unfold E 192 (E.at 192 []) ⟨mkSlots [(0, (.val .str s0_0))], assocB [], assocR []⟩)
theorem c_puny_Label_eq (x : List UInt8) : c_puny_Label x =
    p_puny_Label_0 x := by kernel_rfl
theorem p_puny_Label_0_eq (s0_0 : List UInt8) : p_puny_Label_0 s0_0 =
    (c_puny_Encode s0_0).bind fun y0 =>
      bif (y0.2 != (0 : Int)) then
        some (([] : List UInt8), y0.2)
      else
        (c_puny_basic s0_0).bind fun y1 =>
          bif y1 then
            some (s0_0, (0 : Int))
          else
            bif (decide (((List.length ([(120 : UInt8), (110 : UInt8), (45 : UInt8), (45 : UInt8)] : List UInt8)) + (List.length y0.1)) ≤ (2 ^ 62))) then
              some ((([(120 : UInt8), (110 : UInt8), (45 : UInt8), (45 : UInt8)] : List UInt8) ++ y0.1), (0 : Int))
            else
              none := of_eq (by kernel_rfl) (Run_unfold E 193 (E.at 193 []) ⟨mkSlots [(0, (.val .str s0_0))], assocB [], assocR []⟩)
theorem c_strings_IndexFunc_eq (x : (List UInt8 × Unit)) : c_strings_IndexFunc x =
    p_strings_IndexFunc_0 x.1 x.2 := by kernel_rfl
theorem p_strings_IndexFunc_0_eq (s0_0 : List UInt8) (s1_1 : Unit) : p_strings_IndexFunc_0 s0_0 s1_1 =
    (c_strings_indexFunc (s0_0, (s1_1, true))).bind fun y0 =>
      some y0 := of_eq (by kernel_rfl) (Run_unfold E 194 (E.at 194 []) ⟨mkSlots [(1, (.cl 239 0 (.val .unit s1_1))), (0, (.val .str s0_0))], assocB [], assocR []⟩)
theorem c_strings_IndexFunc__puny_basic_1_eq (x : (List UInt8 × Unit)) : c_strings_IndexFunc__puny_basic_1 x =
    p_strings_IndexFunc__puny_basic_1_0 x.1 x.2 := by kernel_rfl
theorem p_strings_IndexFunc__puny_basic_1_0_eq (s0_0 : List UInt8) (s1_1 : Unit) : p_strings_IndexFunc__puny_basic_1_0 s0_0 s1_1 =
    (c_strings_indexFunc__puny_basic_1 (s0_0, (s1_1, true))).bind fun y0 =>
      some y0 := of_eq (by kernel_rfl) (Run_unfold E 1194 (E.at 1194 []) ⟨mkSlots [(1, (.cl 248 0 (.val .unit s1_1))), (0, (.val .str s0_0))], assocB [], assocR []⟩)
theorem c_strings_IndexFunc__host_dot_eq (x : (List UInt8 × Unit)) : c_strings_IndexFunc__host_dot x =
    p_strings_IndexFunc__host_dot_0 x.1 x.2 := by kernel_rfl
theorem p_strings_IndexFunc__host_dot_0_eq (s0_0 : List UInt8) (s1_1 : Unit) : p_strings_IndexFunc__host_dot_0 s0_0 s1_1 =
    (c_strings_indexFunc__host_dot (s0_0, (s1_1, true))).bind fun y0 =>
      some y0 := of_eq (by kernel_rfl) (Run_unfold E 2194 (E.at 2194 []) ⟨mkSlots [(1, (.cl 135 0 (.val .unit s1_1))), (0, (.val .str s0_0))], assocB [], assocR []⟩)
theorem c_istringslite_TrimSuffix_eq (x : (List UInt8 × List UInt8)) : c_istringslite_TrimSuffix x =
    p_istringslite_TrimSuffix_0 x.1 x.2 := by kernel_rfl
theorem p_istringslite_TrimSuffix_0_eq (s0_0 : List UInt8) (s1_1 : List UInt8) : p_istringslite_TrimSuffix_0 s0_0 s1_1 =
    (c_istringslite_HasSuffix (s0_0, s1_1)).bind fun y0 =>
      bif y0 then
        bif (cutOk none (some (IntKind.wrap IntKind.i64 ((((List.length s0_0) : Nat) : Int) - (((List.length s1_1) : Nat) : Int)))) (List.length s0_0)) then
          some (cutList none (some (IntKind.wrap IntKind.i64 ((((List.length s0_0) : Nat) : Int) - (((List.length s1_1) : Nat) : Int)))) s0_0)
        else
          none
      else
        some s0_0 := of_eq (by kernel_rfl) (Run_unfold E 198 (E.at 198 []) ⟨mkSlots [(1, (.val .str s1_1)), (0, (.val .str s0_0))], assocB [], assocR []⟩)
theorem c_puny_Decode_eq (x : List UInt8) : c_puny_Decode x =
    p_puny_Decode_0 x := by kernel_rfl
theorem p_puny_Decode_0_eq (s0_0 : List UInt8) : p_puny_Decode_0 s0_0 =
    bif (decide ((((List.length s0_0) : Nat) : Int) > (65536 : Int))) then
      some (([] : List UInt8), ((5 : Int), (0 : Int)))
    else
      (c_puny_decode s0_0).bind fun y0 =>
        some (y0.1, (y0.2.1, y0.2.2)) := of_eq (by kernel_rfl) (Run_unfold E 204 (E.at 204 []) ⟨mkSlots [(0, (.val .str s0_0))], assocB [], assocR []⟩)
theorem c_puny_basic_eq (x : List UInt8) : c_puny_basic x =
    p_puny_basic_0 x := by kernel_rfl
theorem p_puny_basic_0_eq (s0_0 : List UInt8) : p_puny_basic_0 s0_0 =
    (c_strings_IndexFunc__puny_basic_1 (s0_0, ())).bind fun y0 =>
      some (decide (y0 < (0 : Int))) := of_eq (by kernel_rfl) (Run_unfold E 205 (E.at 205 []) ⟨mkSlots [(0, (.val .str s0_0))], assocB [], assocR []⟩)
theorem c_octets_Same_eq (x : (List UInt8 × List UInt8)) : c_octets_Same x =
    p_octets_Same_0 x.1 x.2 := by kernel_rfl
theorem p_octets_Same_0_eq (s0_0 : List UInt8) (s1_1 : List UInt8) : p_octets_Same_0 s0_0 s1_1 =
    (c_octets_Lower s0_0).bind fun y0 =>
      (c_octets_Lower s1_1).bind fun y1 =>
        some (y0 == y1) := of_eq (by kernel_rfl) (Run_unfold E 206 (E.at 206 []) ⟨mkSlots [(1, (.val .str s1_1)), (0, (.val .str s0_0))], assocB [], assocR []⟩)
theorem c_utf8_DecodeRuneInString_eq (x : List UInt8) : c_utf8_DecodeRuneInString x = primDecode x := by kernel_rfl
theorem c_host_basic_1_eq (x : Int) : c_host_basic_1 x =
    p_host_basic_1_0 x := by kernel_rfl
theorem p_host_basic_1_0_eq (s0_0 : Int) : p_host_basic_1_0 s0_0 =
    some (decide (s0_0 > (127 : Int))) := of_eq (by kernel_rfl) (Run_unfold E 239 (E.at 239 []) ⟨mkSlots [(0, (.val (.int .i32) s0_0))], assocB [], assocR []⟩)
theorem c_puny_Encode_eq (x : List UInt8) : c_puny_Encode x =
    p_puny_Encode_0 x := by kernel_rfl
theorem p_puny_Encode_0_eq (s0_0 : List UInt8) : p_puny_Encode_0 s0_0 =
    (c_utf_Valid s0_0).bind fun y0 =>
      bif (!y0.1) then
        some (([] : List UInt8), (21 : Int))
      else
        bif (decide ((((List.length s0_0) : Nat) : Int) > (65536 : Int))) then
          some (([] : List UInt8), (5 : Int))
        else
          bif (decide ((List.length s0_0) ≤ (lim))) then
            p_puny_Encode_1 s0_0 (((List.length (runesOf s0_0)) : Nat) : Int) (0 : Int) (runesOf s0_0) ([] : List Int)
          else
            none := of_eq (by kernel_rfl) (Run_unfold E 240 (E.at 240 []) ⟨mkSlots [(0, (.val .str s0_0))], assocB [], assocR []⟩)
theorem p_puny_Encode_1_eq (s0_0 : List UInt8) (s36_1 : Int) (s37_2 : Int) (r0_3 : List Int) (r1_4 : List Int) : p_puny_Encode_1 s0_0 s36_1 s37_2 r0_3 r1_4 =
    bif (decide (s37_2 < s36_1)) then
      bif (inside s37_2 (List.length r0_3)) then
        bif (decide ((List.getD r0_3 (Int.toNat s37_2) (Ty.zero (.int .i32))) < (128 : Int))) then
          bif (decide (((List.length r1_4) + (List.length ([(IntKind.wrap IntKind.u8 (List.getD r0_3 (Int.toNat s37_2) (Ty.zero (.int .i32))))] : List Int))) ≤ (lim))) then
            p_puny_Encode_1 s0_0 s36_1 (IntKind.wrap IntKind.i64 (s37_2 + (1 : Int))) r0_3 (r1_4 ++ ([(IntKind.wrap IntKind.u8 (List.getD r0_3 (Int.toNat s37_2) (Ty.zero (.int .i32))))] : List Int))
          else
            none
        else
          p_puny_Encode_1 s0_0 s36_1 (IntKind.wrap IntKind.i64 (s37_2 + (1 : Int))) r0_3 r1_4
      else
        none
    else
      bif (decide ((((List.length r1_4) : Nat) : Int) > (0 : Int))) then
        bif (decide (((List.length r1_4) + (List.length ([(45 : Int)] : List Int))) ≤ (lim))) then
          p_puny_Encode_2 s0_0 (((List.length r1_4) : Nat) : Int) (((List.length r1_4) : Nat) : Int) r0_3 (r1_4 ++ ([(45 : Int)] : List Int))
        else
          none
      else
        p_puny_Encode_2 s0_0 (((List.length r1_4) : Nat) : Int) (((List.length r1_4) : Nat) : Int) r0_3 r1_4 := of_eq (by kernel_rfl) (Run_unfold E 240 (E.at 240 [1, 1, 1, 1, 1, 0, 1, 0, 7]) ⟨mkSlots [(0, (.val .str s0_0)), (6, (.row 0)), (7, (.row 1)), (35, (.row 0)), (36, (.val (.int .i64) s36_1)), (37, (.val (.int .i64) s37_2))], mkBoxes [], mkRows [.mk (.int .i32) .live r0_3, .mk (.int .u8) .live r1_4]⟩)
theorem p_puny_Encode_2_eq (s0_0 : List UInt8) (s10_1 : Int) (s11_2 : Int) (r0_3 : List Int) (r1_4 : List Int) : p_puny_Encode_2 s0_0 s10_1 s11_2 r0_3 r1_4 =
    p_puny_Encode_3 s0_0 s10_1 s11_2 (128 : Int) (72 : Int) (0 : Int) r0_3 r1_4 := of_eq (by kernel_rfl) (Run_unfold E 240 (E.at 240 [1, 1, 1, 1, 1, 1, 1, 1, 0, 1, 9]) ⟨mkSlots [(0, (.val .str s0_0)), (6, (.row 0)), (7, (.row 1)), (10, (.val (.int .i64) s10_1)), (11, (.val (.int .i64) s11_2))], mkBoxes [], mkRows [.mk (.int .i32) .live r0_3, .mk (.int .u8) .live r1_4]⟩)
theorem p_puny_Encode_3_eq (s0_0 : List UInt8) (s10_1 : Int) (s11_2 : Int) (s12_3 : Int) (s13_4 : Int) (s14_5 : Int) (r0_6 : List Int) (r1_7 : List Int) : p_puny_Encode_3 s0_0 s10_1 s11_2 s12_3 s13_4 s14_5 r0_6 r1_7 =
    bif (decide (s10_1 < (((List.length r0_6) : Nat) : Int))) then
      p_puny_Encode_4 s0_0 s10_1 s11_2 s12_3 s13_4 s14_5 (1114112 : Int) (((List.length r0_6) : Nat) : Int) (0 : Int) r0_6 r1_7
    else
      (c_puny_decode (strOf r1_7)).bind fun y0 =>
        bif (y0.2.1 == (32 : Int)) then
          some (([] : List UInt8), y0.2.1)
        else
          some ((strOf r1_7), (0 : Int)) := of_eq (by kernel_rfl) (Run_unfold E 240 (E.at 240 [1, 1, 1, 1, 1, 1, 1, 1, 1, 1, 0, 0, 7]) ⟨mkSlots [(0, (.val .str s0_0)), (6, (.row 0)), (7, (.row 1)), (10, (.val (.int .i64) s10_1)), (11, (.val (.int .i64) s11_2)), (12, (.val (.int .i32) s12_3)), (13, (.val (.int .i64) s13_4)), (14, (.val (.int .i64) s14_5))], mkBoxes [], mkRows [.mk (.int .i32) .live r0_6, .mk (.int .u8) .live r1_7]⟩)
theorem p_puny_Encode_4_eq (s0_0 : List UInt8) (s10_1 : Int) (s11_2 : Int) (s12_3 : Int) (s13_4 : Int) (s14_5 : Int) (s15_6 : Int) (s62_7 : Int) (s63_8 : Int) (r0_9 : List Int) (r1_10 : List Int) : p_puny_Encode_4 s0_0 s10_1 s11_2 s12_3 s13_4 s14_5 s15_6 s62_7 s63_8 r0_9 r1_10 =
    bif (decide (s63_8 < s62_7)) then
      bif (inside s63_8 (List.length r0_9)) then
        bif (decide ((List.getD r0_9 (Int.toNat s63_8) (Ty.zero (.int .i32))) ≥ s12_3)) then
          bif (decide ((List.getD r0_9 (Int.toNat s63_8) (Ty.zero (.int .i32))) < s15_6)) then
            p_puny_Encode_4 s0_0 s10_1 s11_2 s12_3 s13_4 s14_5 (List.getD r0_9 (Int.toNat s63_8) (Ty.zero (.int .i32))) s62_7 (IntKind.wrap IntKind.i64 (s63_8 + (1 : Int))) r0_9 r1_10
          else
            p_puny_Encode_4 s0_0 s10_1 s11_2 s12_3 s13_4 s14_5 s15_6 s62_7 (IntKind.wrap IntKind.i64 (s63_8 + (1 : Int))) r0_9 r1_10
        else
          p_puny_Encode_4 s0_0 s10_1 s11_2 s12_3 s13_4 s14_5 s15_6 s62_7 (IntKind.wrap IntKind.i64 (s63_8 + (1 : Int))) r0_9 r1_10
      else
        none
    else
      p_puny_Encode_5 s0_0 s10_1 s11_2 s15_6 s13_4 (IntKind.wrap IntKind.i64 (s14_5 + (IntKind.wrap IntKind.i64 ((IntKind.wrap IntKind.i64 (IntKind.wrap IntKind.i32 (s15_6 - s12_3))) * (IntKind.wrap IntKind.i64 (s10_1 + (1 : Int))))))) (((List.length r0_9) : Nat) : Int) (0 : Int) r0_9 r1_10 := of_eq (by kernel_rfl) (Run_unfold E 240 (E.at 240 [1, 1, 1, 1, 1, 1, 1, 1, 1, 1, 0, 0, 0, 1, 0, 1, 0, 1, 0, 7]) ⟨mkSlots [(0, (.val .str s0_0)), (6, (.row 0)), (7, (.row 1)), (10, (.val (.int .i64) s10_1)), (11, (.val (.int .i64) s11_2)), (12, (.val (.int .i32) s12_3)), (13, (.val (.int .i64) s13_4)), (14, (.val (.int .i64) s14_5)), (15, (.val (.int .i32) s15_6)), (61, (.row 0)), (62, (.val (.int .i64) s62_7)), (63, (.val (.int .i64) s63_8))], mkBoxes [], mkRows [.mk (.int .i32) .live r0_9, .mk (.int .u8) .live r1_10]⟩)
theorem p_puny_Encode_5_eq (s0_0 : List UInt8) (s10_1 : Int) (s11_2 : Int) (s12_3 : Int) (s13_4 : Int) (s14_5 : Int) (s88_6 : Int) (s89_7 : Int) (r0_8 : List Int) (r1_9 : List Int) : p_puny_Encode_5 s0_0 s10_1 s11_2 s12_3 s13_4 s14_5 s88_6 s89_7 r0_8 r1_9 =
    bif (decide (s89_7 < s88_6)) then
      bif (inside s89_7 (List.length r0_8)) then
        bif (decide ((List.getD r0_8 (Int.toNat s89_7) (Ty.zero (.int .i32))) < s12_3)) then
          p_puny_Encode_6 s0_0 s10_1 s11_2 s12_3 s13_4 (IntKind.wrap IntKind.i64 (s14_5 + (1 : Int))) (List.getD r0_8 (Int.toNat s89_7) (Ty.zero (.int .i32))) s88_6 s89_7 r0_8 r1_9
        else
          p_puny_Encode_6 s0_0 s10_1 s11_2 s12_3 s13_4 s14_5 (List.getD r0_8 (Int.toNat s89_7) (Ty.zero (.int .i32))) s88_6 s89_7 r0_8 r1_9
      else
        none
    else
      p_puny_Encode_3 s0_0 s10_1 s11_2 (IntKind.wrap IntKind.i32 (s12_3 + (1 : Int))) s13_4 (IntKind.wrap IntKind.i64 (s14_5 + (1 : Int))) r0_8 r1_9 := of_eq (by kernel_rfl) (Run_unfold E 240 (E.at 240 [1, 1, 1, 1, 1, 1, 1, 1, 1, 1, 0, 0, 0, 1, 0, 1, 1, 1, 1, 0, 1, 0, 7]) ⟨mkSlots [(0, (.val .str s0_0)), (6, (.row 0)), (7, (.row 1)), (10, (.val (.int .i64) s10_1)), (11, (.val (.int .i64) s11_2)), (12, (.val (.int .i32) s12_3)), (13, (.val (.int .i64) s13_4)), (14, (.val (.int .i64) s14_5)), (87, (.row 0)), (88, (.val (.int .i64) s88_6)), (89, (.val (.int .i64) s89_7))], mkBoxes [], mkRows [.mk (.int .i32) .live r0_8, .mk (.int .u8) .live r1_9]⟩)
theorem p_puny_Encode_6_eq (s0_0 : List UInt8) (s10_1 : Int) (s11_2 : Int) (s12_3 : Int) (s13_4 : Int) (s14_5 : Int) (s19_6 : Int) (s88_7 : Int) (s89_8 : Int) (r0_9 : List Int) (r1_10 : List Int) : p_puny_Encode_6 s0_0 s10_1 s11_2 s12_3 s13_4 s14_5 s19_6 s88_7 s89_8 r0_9 r1_10 =
    bif (s19_6 == s12_3) then
      (c_puny_lay (r1_10, (s14_5, s13_4))).bind fun y0 =>
        (c_puny_adapt (s14_5, ((IntKind.wrap IntKind.i64 (s10_1 + (1 : Int))), (s10_1 == s11_2)))).bind fun y1 =>
          p_puny_Encode_5 s0_0 (IntKind.wrap IntKind.i64 (s10_1 + (1 : Int))) s11_2 s12_3 y1 (0 : Int) s88_7 (IntKind.wrap IntKind.i64 (s89_8 + (1 : Int))) r0_9 y0
    else
      p_puny_Encode_5 s0_0 s10_1 s11_2 s12_3 s13_4 s14_5 s88_7 (IntKind.wrap IntKind.i64 (s89_8 + (1 : Int))) r0_9 r1_10 := of_eq (by kernel_rfl) (Run_unfold E 240 (E.at 240 [1, 1, 1, 1, 1, 1, 1, 1, 1, 1, 0, 0, 0, 1, 0, 1, 1, 1, 1, 0, 1, 0, 0, 1, 1, 0, 0, 1, 0, 1, 9]) ⟨mkSlots [(0, (.val .str s0_0)), (6, (.row 0)), (7, (.row 1)), (10, (.val (.int .i64) s10_1)), (11, (.val (.int .i64) s11_2)), (12, (.val (.int .i32) s12_3)), (13, (.val (.int .i64) s13_4)), (14, (.val (.int .i64) s14_5)), (19, (.val (.int .i32) s19_6)), (87, (.row 0)), (88, (.val (.int .i64) s88_7)), (89, (.val (.int .i64) s89_8))], mkBoxes [], mkRows [.mk (.int .i32) .live r0_9, .mk (.int .u8) .live r1_10]⟩)
theorem c_strings_indexFunc_eq (x : (List UInt8 × (Unit × Bool))) : c_strings_indexFunc x =
    p_strings_indexFunc_0 x.1 x.2.1 x.2.2 := by kernel_rfl
theorem p_strings_indexFunc_0_eq (s0_0 : List UInt8) (s1_1 : Unit) (s2_2 : Bool) : p_strings_indexFunc_0 s0_0 s1_1 s2_2 =
    p_strings_indexFunc_1 s0_0 s1_1 s2_2 s0_0 0 := of_eq (by kernel_rfl) (Run_unfold E 241 (E.at 241 []) ⟨mkSlots [(2, (.val .bool s2_2)), (1, (.cl 239 0 (.val .unit s1_1))), (0, (.val .str s0_0))], assocB [], assocR []⟩)
theorem p_strings_indexFunc_1_eq (s0_0 : List UInt8) (s1_1 : Unit) (s2_2 : Bool) (t0_3 : List UInt8) (n0_4 : Nat) : p_strings_indexFunc_1 s0_0 s1_1 s2_2 t0_3 n0_4 =
    bif (decide (n0_4 < (List.length t0_3))) then
      (c_host_basic_1 (((decRune t0_3 n0_4).1 : Nat) : Int)).bind fun y0 =>
        bif (y0 == s2_2) then
          some ((n0_4 : Nat) : Int)
        else
          p_strings_indexFunc_1 s0_0 s1_1 s2_2 t0_3 (n0_4 + (decRune t0_3 n0_4).2)
    else
      some (-(1 : Int)) := of_eq (by kernel_rfl) (Run_unfold E 241 (E.at 241 [1, 0, 1, 0, 7]) ⟨mkSlots [(0, (.val .str s0_0)), (1, (.cl 239 0 (.val .unit s1_1))), (2, (.val .bool s2_2)), (10, (.addr (.box 0) []))], mkBoxes [.iter t0_3 n0_4], mkRows []⟩)
theorem c_strings_indexFunc__puny_basic_1_eq (x : (List UInt8 × (Unit × Bool))) : c_strings_indexFunc__puny_basic_1 x =
    p_strings_indexFunc__puny_basic_1_0 x.1 x.2.1 x.2.2 := by kernel_rfl
theorem p_strings_indexFunc__puny_basic_1_0_eq (s0_0 : List UInt8) (s1_1 : Unit) (s2_2 : Bool) : p_strings_indexFunc__puny_basic_1_0 s0_0 s1_1 s2_2 =
    p_strings_indexFunc__puny_basic_1_1 s0_0 s1_1 s2_2 s0_0 0 := of_eq (by kernel_rfl) (Run_unfold E 1241 (E.at 1241 []) ⟨mkSlots [(2, (.val .bool s2_2)), (1, (.cl 248 0 (.val .unit s1_1))), (0, (.val .str s0_0))], assocB [], assocR []⟩)
theorem p_strings_indexFunc__puny_basic_1_1_eq (s0_0 : List UInt8) (s1_1 : Unit) (s2_2 : Bool) (t0_3 : List UInt8) (n0_4 : Nat) : p_strings_indexFunc__puny_basic_1_1 s0_0 s1_1 s2_2 t0_3 n0_4 =
    bif (decide (n0_4 < (List.length t0_3))) then
      (c_puny_basic_1 (((decRune t0_3 n0_4).1 : Nat) : Int)).bind fun y0 =>
        bif (y0 == s2_2) then
          some ((n0_4 : Nat) : Int)
        else
          p_strings_indexFunc__puny_basic_1_1 s0_0 s1_1 s2_2 t0_3 (n0_4 + (decRune t0_3 n0_4).2)
    else
      some (-(1 : Int)) := of_eq (by kernel_rfl) (Run_unfold E 1241 (E.at 1241 [1, 0, 1, 0, 7]) ⟨mkSlots [(0, (.val .str s0_0)), (1, (.cl 248 0 (.val .unit s1_1))), (2, (.val .bool s2_2)), (10, (.addr (.box 0) []))], mkBoxes [.iter t0_3 n0_4], mkRows []⟩)
theorem c_strings_indexFunc__host_dot_eq (x : (List UInt8 × (Unit × Bool))) : c_strings_indexFunc__host_dot x =
    p_strings_indexFunc__host_dot_0 x.1 x.2.1 x.2.2 := by kernel_rfl
theorem p_strings_indexFunc__host_dot_0_eq (s0_0 : List UInt8) (s1_1 : Unit) (s2_2 : Bool) : p_strings_indexFunc__host_dot_0 s0_0 s1_1 s2_2 =
    p_strings_indexFunc__host_dot_1 s0_0 s1_1 s2_2 s0_0 0 := of_eq (by kernel_rfl) (Run_unfold E 2241 (E.at 2241 []) ⟨mkSlots [(2, (.val .bool s2_2)), (1, (.cl 135 0 (.val .unit s1_1))), (0, (.val .str s0_0))], assocB [], assocR []⟩)
theorem p_strings_indexFunc__host_dot_1_eq (s0_0 : List UInt8) (s1_1 : Unit) (s2_2 : Bool) (t0_3 : List UInt8) (n0_4 : Nat) : p_strings_indexFunc__host_dot_1 s0_0 s1_1 s2_2 t0_3 n0_4 =
    bif (decide (n0_4 < (List.length t0_3))) then
      (c_host_dot (((decRune t0_3 n0_4).1 : Nat) : Int)).bind fun y0 =>
        bif (y0 == s2_2) then
          some ((n0_4 : Nat) : Int)
        else
          p_strings_indexFunc__host_dot_1 s0_0 s1_1 s2_2 t0_3 (n0_4 + (decRune t0_3 n0_4).2)
    else
      some (-(1 : Int)) := of_eq (by kernel_rfl) (Run_unfold E 2241 (E.at 2241 [1, 0, 1, 0, 7]) ⟨mkSlots [(0, (.val .str s0_0)), (1, (.cl 135 0 (.val .unit s1_1))), (2, (.val .bool s2_2)), (10, (.addr (.box 0) []))], mkBoxes [.iter t0_3 n0_4], mkRows []⟩)
theorem c_istringslite_HasSuffix_eq (x : (List UInt8 × List UInt8)) : c_istringslite_HasSuffix x =
    p_istringslite_HasSuffix_0 x.1 x.2 := by kernel_rfl
theorem p_istringslite_HasSuffix_0_eq (s0_0 : List UInt8) (s1_1 : List UInt8) : p_istringslite_HasSuffix_0 s0_0 s1_1 =
    bif (decide ((((List.length s0_0) : Nat) : Int) ≥ (((List.length s1_1) : Nat) : Int))) then
      bif (cutOk (some (IntKind.wrap IntKind.i64 ((((List.length s0_0) : Nat) : Int) - (((List.length s1_1) : Nat) : Int)))) none (List.length s0_0)) then
        some ((cutList (some (IntKind.wrap IntKind.i64 ((((List.length s0_0) : Nat) : Int) - (((List.length s1_1) : Nat) : Int)))) none s0_0) == s1_1)
      else
        none
    else
      some false := of_eq (by kernel_rfl) (Run_unfold E 244 (E.at 244 []) ⟨mkSlots [(1, (.val .str s1_1)), (0, (.val .str s0_0))], assocB [], assocR []⟩)
theorem c_puny_decode_eq (x : List UInt8) : c_puny_decode x =
    p_puny_decode_0 x := by kernel_rfl
theorem p_puny_decode_0_eq (s0_0 : List UInt8) : p_puny_decode_0 s0_0 =
    p_puny_decode_1 s0_0 (((List.length s0_0) : Nat) : Int) (0 : Int) := of_eq (by kernel_rfl) (Run_unfold E 247 (E.at 247 []) ⟨mkSlots [(0, (.val .str s0_0))], assocB [], assocR []⟩)
theorem p_puny_decode_1_eq (s0_0 : List UInt8) (s19_1 : Int) (s20_2 : Int) : p_puny_decode_1 s0_0 s19_1 s20_2 =
    bif (decide (s20_2 < s19_1)) then
      bif (inside s20_2 (List.length s0_0)) then
        bif (decide ((((UInt8.toNat (List.getD s0_0 (Int.toNat s20_2) (0 : UInt8))) : Nat) : Int) > (127 : Int))) then
          some (([] : List UInt8), ((31 : Int), s20_2))
        else
          p_puny_decode_1 s0_0 s19_1 (IntKind.wrap IntKind.i64 (s20_2 + (1 : Int)))
      else
        none
    else
      (c_strings_LastIndexByte (s0_0, (45 : Int))).bind fun y0 =>
        bif (decide ((IntKind.wrap IntKind.i64 (y0 + (1 : Int))) > (0 : Int))) then
          bif (cutOk none (some (IntKind.wrap IntKind.i64 ((IntKind.wrap IntKind.i64 (y0 + (1 : Int))) - (1 : Int)))) (List.length s0_0)) then
            bif (decide ((List.length (cutList none (some (IntKind.wrap IntKind.i64 ((IntKind.wrap IntKind.i64 (y0 + (1 : Int))) - (1 : Int)))) s0_0)) ≤ (lim))) then
              p_puny_decode_2 s0_0 (IntKind.wrap IntKind.i64 (y0 + (1 : Int))) (runesOf (cutList none (some (IntKind.wrap IntKind.i64 ((IntKind.wrap IntKind.i64 (y0 + (1 : Int))) - (1 : Int)))) s0_0))
            else
              none
          else
            none
        else
          p_puny_decode_3 s0_0 (IntKind.wrap IntKind.i64 (y0 + (1 : Int))) := of_eq (by kernel_rfl) (Run_unfold E 247 (E.at 247 [1, 0, 1, 0, 7]) ⟨mkSlots [(0, (.val .str s0_0)), (19, (.val (.int .i64) s19_1)), (20, (.val (.int .i64) s20_2))], mkBoxes [], mkRows []⟩)
theorem p_puny_decode_2_eq (s0_0 : List UInt8) (s7_1 : Int) (r0_2 : List Int) : p_puny_decode_2 s0_0 s7_1 r0_2 =
    p_puny_decode_4 s0_0 s7_1 (((List.length r0_2) : Nat) : Int) (0 : Int) (128 : Int) (72 : Int) r0_2 := of_eq (by kernel_rfl) (Run_unfold E 247 (E.at 247 [1, 1, 1, 1, 0, 1, 9]) ⟨mkSlots [(0, (.val .str s0_0)), (6, (.row 0)), (7, (.val (.int .i64) s7_1))], mkBoxes [], mkRows [.mk (.int .i32) .live r0_2]⟩)
theorem p_puny_decode_3_eq (s0_0 : List UInt8) (s7_1 : Int) : p_puny_decode_3 s0_0 s7_1 =
    p_puny_decode_5 s0_0 s7_1 ((0 : Nat) : Int) (0 : Int) (128 : Int) (72 : Int) := of_eq (by kernel_rfl) (Run_unfold E 247 (E.at 247 [1, 1, 1, 1, 0, 1, 9]) ⟨mkSlots [(0, (.val .str s0_0)), (6, .nils), (7, (.val (.int .i64) s7_1))], mkBoxes [], mkRows []⟩)
theorem p_puny_decode_4_eq (s0_0 : List UInt8) (s7_1 : Int) (s8_2 : Int) (s9_3 : Int) (s10_4 : Int) (s11_5 : Int) (r0_6 : List Int) : p_puny_decode_4 s0_0 s7_1 s8_2 s9_3 s10_4 s11_5 r0_6 =
    bif (decide (s7_1 < (((List.length s0_0) : Nat) : Int))) then
      (c_puny_number (s0_0, (s7_1, (s9_3, s11_5)))).bind fun y0 =>
        bif (y0.2.2.1 != (0 : Int)) then
          some (([] : List UInt8), (y0.2.2.1, y0.2.2.2))
        else
          (c_puny_adapt ((IntKind.wrap IntKind.i64 (y0.1 - s9_3)), ((IntKind.wrap IntKind.i64 ((((List.length r0_6) : Nat) : Int) + (1 : Int))), ((((List.length r0_6) : Nat) : Int) == s8_2)))).bind fun y1 =>
            bif ((IntKind.wrap IntKind.i64 ((((List.length r0_6) : Nat) : Int) + (1 : Int))) != (0 : Int)) then
              bif (decide ((IntKind.wrap IntKind.i64 (s10_4 + (IntKind.wrap IntKind.i64 (Int.tdiv y0.1 (IntKind.wrap IntKind.i64 ((((List.length r0_6) : Nat) : Int) + (1 : Int))))))) > (1114111 : Int))) then
                some (([] : List UInt8), ((32 : Int), s7_1))
              else
                bif (decide ((IntKind.wrap IntKind.i64 (s10_4 + (IntKind.wrap IntKind.i64 (Int.tdiv y0.1 (IntKind.wrap IntKind.i64 ((((List.length r0_6) : Nat) : Int) + (1 : Int))))))) ≥ (55296 : Int))) then
                  bif (decide ((IntKind.wrap IntKind.i64 (s10_4 + (IntKind.wrap IntKind.i64 (Int.tdiv y0.1 (IntKind.wrap IntKind.i64 ((((List.length r0_6) : Nat) : Int) + (1 : Int))))))) ≤ (57343 : Int))) then
                    some (([] : List UInt8), ((32 : Int), s7_1))
                  else
                    bif ((IntKind.wrap IntKind.i64 ((((List.length r0_6) : Nat) : Int) + (1 : Int))) != (0 : Int)) then
                      (c_slices_Insert_rune_rune (r0_6, ((Int.tmod y0.1 (IntKind.wrap IntKind.i64 ((((List.length r0_6) : Nat) : Int) + (1 : Int)))), ([(IntKind.wrap IntKind.i32 (IntKind.wrap IntKind.i64 (s10_4 + (IntKind.wrap IntKind.i64 (Int.tdiv y0.1 (IntKind.wrap IntKind.i64 ((((List.length r0_6) : Nat) : Int) + (1 : Int))))))))] : List Int)))).bind fun y2 =>
                        p_puny_decode_4 s0_0 y0.2.1 s8_2 (IntKind.wrap IntKind.i64 ((Int.tmod y0.1 (IntKind.wrap IntKind.i64 ((((List.length r0_6) : Nat) : Int) + (1 : Int)))) + (1 : Int))) (IntKind.wrap IntKind.i64 (s10_4 + (IntKind.wrap IntKind.i64 (Int.tdiv y0.1 (IntKind.wrap IntKind.i64 ((((List.length r0_6) : Nat) : Int) + (1 : Int))))))) y1 y2
                    else
                      none
                else
                  bif ((IntKind.wrap IntKind.i64 ((((List.length r0_6) : Nat) : Int) + (1 : Int))) != (0 : Int)) then
                    (c_slices_Insert_rune_rune (r0_6, ((Int.tmod y0.1 (IntKind.wrap IntKind.i64 ((((List.length r0_6) : Nat) : Int) + (1 : Int)))), ([(IntKind.wrap IntKind.i32 (IntKind.wrap IntKind.i64 (s10_4 + (IntKind.wrap IntKind.i64 (Int.tdiv y0.1 (IntKind.wrap IntKind.i64 ((((List.length r0_6) : Nat) : Int) + (1 : Int))))))))] : List Int)))).bind fun y2 =>
                      p_puny_decode_4 s0_0 y0.2.1 s8_2 (IntKind.wrap IntKind.i64 ((Int.tmod y0.1 (IntKind.wrap IntKind.i64 ((((List.length r0_6) : Nat) : Int) + (1 : Int)))) + (1 : Int))) (IntKind.wrap IntKind.i64 (s10_4 + (IntKind.wrap IntKind.i64 (Int.tdiv y0.1 (IntKind.wrap IntKind.i64 ((((List.length r0_6) : Nat) : Int) + (1 : Int))))))) y1 y2
                  else
                    none
            else
              none
    else
      some ((strOfRunes r0_6), ((0 : Int), (0 : Int))) := of_eq (by kernel_rfl) (Run_unfold E 247 (E.at 247 [1, 1, 1, 1, 1, 1, 1, 0, 0, 7]) ⟨mkSlots [(0, (.val .str s0_0)), (6, (.row 0)), (7, (.val (.int .i64) s7_1)), (8, (.val (.int .i64) s8_2)), (9, (.val (.int .i64) s9_3)), (10, (.val (.int .i64) s10_4)), (11, (.val (.int .i64) s11_5))], mkBoxes [], mkRows [.mk (.int .i32) .live r0_6]⟩)
theorem p_puny_decode_5_eq (s0_0 : List UInt8) (s7_1 : Int) (s8_2 : Int) (s9_3 : Int) (s10_4 : Int) (s11_5 : Int) : p_puny_decode_5 s0_0 s7_1 s8_2 s9_3 s10_4 s11_5 =
    bif (decide (s7_1 < (((List.length s0_0) : Nat) : Int))) then
      (c_puny_number (s0_0, (s7_1, (s9_3, s11_5)))).bind fun y0 =>
        bif (y0.2.2.1 != (0 : Int)) then
          some (([] : List UInt8), (y0.2.2.1, y0.2.2.2))
        else
          (c_puny_adapt ((IntKind.wrap IntKind.i64 (y0.1 - s9_3)), ((IntKind.wrap IntKind.i64 (((0 : Nat) : Int) + (1 : Int))), (((0 : Nat) : Int) == s8_2)))).bind fun y1 =>
            bif (decide ((IntKind.wrap IntKind.i64 (s10_4 + (IntKind.wrap IntKind.i64 (Int.tdiv y0.1 (IntKind.wrap IntKind.i64 (((0 : Nat) : Int) + (1 : Int))))))) > (1114111 : Int))) then
              some (([] : List UInt8), ((32 : Int), s7_1))
            else
              bif (decide ((IntKind.wrap IntKind.i64 (s10_4 + (IntKind.wrap IntKind.i64 (Int.tdiv y0.1 (IntKind.wrap IntKind.i64 (((0 : Nat) : Int) + (1 : Int))))))) ≥ (55296 : Int))) then
                bif (decide ((IntKind.wrap IntKind.i64 (s10_4 + (IntKind.wrap IntKind.i64 (Int.tdiv y0.1 (IntKind.wrap IntKind.i64 (((0 : Nat) : Int) + (1 : Int))))))) ≤ (57343 : Int))) then
                  some (([] : List UInt8), ((32 : Int), s7_1))
                else
                  (c_slices_Insert_rune_rune (([] : List Int), ((Int.tmod y0.1 (IntKind.wrap IntKind.i64 (((0 : Nat) : Int) + (1 : Int)))), ([(IntKind.wrap IntKind.i32 (IntKind.wrap IntKind.i64 (s10_4 + (IntKind.wrap IntKind.i64 (Int.tdiv y0.1 (IntKind.wrap IntKind.i64 (((0 : Nat) : Int) + (1 : Int))))))))] : List Int)))).bind fun y2 =>
                    p_puny_decode_4 s0_0 y0.2.1 s8_2 (IntKind.wrap IntKind.i64 ((Int.tmod y0.1 (IntKind.wrap IntKind.i64 (((0 : Nat) : Int) + (1 : Int)))) + (1 : Int))) (IntKind.wrap IntKind.i64 (s10_4 + (IntKind.wrap IntKind.i64 (Int.tdiv y0.1 (IntKind.wrap IntKind.i64 (((0 : Nat) : Int) + (1 : Int))))))) y1 y2
              else
                (c_slices_Insert_rune_rune (([] : List Int), ((Int.tmod y0.1 (IntKind.wrap IntKind.i64 (((0 : Nat) : Int) + (1 : Int)))), ([(IntKind.wrap IntKind.i32 (IntKind.wrap IntKind.i64 (s10_4 + (IntKind.wrap IntKind.i64 (Int.tdiv y0.1 (IntKind.wrap IntKind.i64 (((0 : Nat) : Int) + (1 : Int))))))))] : List Int)))).bind fun y2 =>
                  p_puny_decode_4 s0_0 y0.2.1 s8_2 (IntKind.wrap IntKind.i64 ((Int.tmod y0.1 (IntKind.wrap IntKind.i64 (((0 : Nat) : Int) + (1 : Int)))) + (1 : Int))) (IntKind.wrap IntKind.i64 (s10_4 + (IntKind.wrap IntKind.i64 (Int.tdiv y0.1 (IntKind.wrap IntKind.i64 (((0 : Nat) : Int) + (1 : Int))))))) y1 y2
    else
      some ((strOfRunes ([] : List Int)), ((0 : Int), (0 : Int))) := of_eq (by kernel_rfl) (Run_unfold E 247 (E.at 247 [1, 1, 1, 1, 1, 1, 1, 0, 0, 7]) ⟨mkSlots [(0, (.val .str s0_0)), (6, .nils), (7, (.val (.int .i64) s7_1)), (8, (.val (.int .i64) s8_2)), (9, (.val (.int .i64) s9_3)), (10, (.val (.int .i64) s10_4)), (11, (.val (.int .i64) s11_5))], mkBoxes [], mkRows []⟩)
theorem c_puny_basic_1_eq (x : Int) : c_puny_basic_1 x =
    p_puny_basic_1_0 x := by kernel_rfl
theorem p_puny_basic_1_0_eq (s0_0 : Int) : p_puny_basic_1_0 s0_0 =
    some (decide (s0_0 > (127 : Int))) := of_eq (by kernel_rfl) (Run_unfold E 248 (E.at 248 []) ⟨mkSlots [(0, (.val (.int .i32) s0_0))], assocB [], assocR []⟩)
theorem c_puny_lay_eq (x : ((List Int) × (Int × Int))) : c_puny_lay x =
    p_puny_lay_0 x.2.1 x.2.2 x.1 := by kernel_rfl
theorem p_puny_lay_0_eq (s1_0 : Int) (s2_1 : Int) (r0_2 : List Int) : p_puny_lay_0 s1_0 s2_1 r0_2 =
    p_puny_lay_1 s1_0 s2_1 (36 : Int) r0_2 := of_eq (by kernel_rfl) (Run_unfold E 270 (E.at 270 []) ⟨mkSlots [(2, (.val (.int .i64) s2_1)), (1, (.val (.int .i64) s1_0)), (0, (.row 1073741824))], assocB [], assocR [(1073741824, .mk (.int .u8) .live r0_2)]⟩)
theorem p_puny_lay_1_eq (s1_0 : Int) (s2_1 : Int) (s7_2 : Int) (r0_3 : List Int) : p_puny_lay_1 s1_0 s2_1 s7_2 r0_3 =
    (c_puny_threshold (s7_2, s2_1)).bind fun y0 =>
      bif (decide (s1_0 < y0)) then
        bif (inside s1_0 (List.length ([(97 : UInt8), (98 : UInt8), (99 : UInt8), (100 : UInt8), (101 : UInt8), (102 : UInt8), (103 : UInt8), (104 : UInt8), (105 : UInt8), (106 : UInt8), (107 : UInt8), (108 : UInt8), (109 : UInt8), (110 : UInt8), (111 : UInt8), (112 : UInt8), (113 : UInt8), (114 : UInt8), (115 : UInt8), (116 : UInt8), (117 : UInt8), (118 : UInt8), (119 : UInt8), (120 : UInt8), (121 : UInt8), (122 : UInt8), (48 : UInt8), (49 : UInt8), (50 : UInt8), (51 : UInt8), (52 : UInt8), (53 : UInt8), (54 : UInt8), (55 : UInt8), (56 : UInt8), (57 : UInt8)] : List UInt8))) then
          bif (decide (((List.length r0_3) + (List.length ([(((UInt8.toNat (List.getD ([(97 : UInt8), (98 : UInt8), (99 : UInt8), (100 : UInt8), (101 : UInt8), (102 : UInt8), (103 : UInt8), (104 : UInt8), (105 : UInt8), (106 : UInt8), (107 : UInt8), (108 : UInt8), (109 : UInt8), (110 : UInt8), (111 : UInt8), (112 : UInt8), (113 : UInt8), (114 : UInt8), (115 : UInt8), (116 : UInt8), (117 : UInt8), (118 : UInt8), (119 : UInt8), (120 : UInt8), (121 : UInt8), (122 : UInt8), (48 : UInt8), (49 : UInt8), (50 : UInt8), (51 : UInt8), (52 : UInt8), (53 : UInt8), (54 : UInt8), (55 : UInt8), (56 : UInt8), (57 : UInt8)] : List UInt8) (Int.toNat s1_0) (0 : UInt8))) : Nat) : Int)] : List Int))) ≤ (lim))) then
            some (r0_3 ++ ([(((UInt8.toNat (List.getD ([(97 : UInt8), (98 : UInt8), (99 : UInt8), (100 : UInt8), (101 : UInt8), (102 : UInt8), (103 : UInt8), (104 : UInt8), (105 : UInt8), (106 : UInt8), (107 : UInt8), (108 : UInt8), (109 : UInt8), (110 : UInt8), (111 : UInt8), (112 : UInt8), (113 : UInt8), (114 : UInt8), (115 : UInt8), (116 : UInt8), (117 : UInt8), (118 : UInt8), (119 : UInt8), (120 : UInt8), (121 : UInt8), (122 : UInt8), (48 : UInt8), (49 : UInt8), (50 : UInt8), (51 : UInt8), (52 : UInt8), (53 : UInt8), (54 : UInt8), (55 : UInt8), (56 : UInt8), (57 : UInt8)] : List UInt8) (Int.toNat s1_0) (0 : UInt8))) : Nat) : Int)] : List Int))
          else
            none
        else
          none
      else
        bif ((IntKind.wrap IntKind.i64 ((36 : Int) - y0)) != (0 : Int)) then
          bif (inside (IntKind.wrap IntKind.i64 (y0 + (Int.tmod (IntKind.wrap IntKind.i64 (s1_0 - y0)) (IntKind.wrap IntKind.i64 ((36 : Int) - y0))))) (List.length ([(97 : UInt8), (98 : UInt8), (99 : UInt8), (100 : UInt8), (101 : UInt8), (102 : UInt8), (103 : UInt8), (104 : UInt8), (105 : UInt8), (106 : UInt8), (107 : UInt8), (108 : UInt8), (109 : UInt8), (110 : UInt8), (111 : UInt8), (112 : UInt8), (113 : UInt8), (114 : UInt8), (115 : UInt8), (116 : UInt8), (117 : UInt8), (118 : UInt8), (119 : UInt8), (120 : UInt8), (121 : UInt8), (122 : UInt8), (48 : UInt8), (49 : UInt8), (50 : UInt8), (51 : UInt8), (52 : UInt8), (53 : UInt8), (54 : UInt8), (55 : UInt8), (56 : UInt8), (57 : UInt8)] : List UInt8))) then
            bif (decide (((List.length r0_3) + (List.length ([(((UInt8.toNat (List.getD ([(97 : UInt8), (98 : UInt8), (99 : UInt8), (100 : UInt8), (101 : UInt8), (102 : UInt8), (103 : UInt8), (104 : UInt8), (105 : UInt8), (106 : UInt8), (107 : UInt8), (108 : UInt8), (109 : UInt8), (110 : UInt8), (111 : UInt8), (112 : UInt8), (113 : UInt8), (114 : UInt8), (115 : UInt8), (116 : UInt8), (117 : UInt8), (118 : UInt8), (119 : UInt8), (120 : UInt8), (121 : UInt8), (122 : UInt8), (48 : UInt8), (49 : UInt8), (50 : UInt8), (51 : UInt8), (52 : UInt8), (53 : UInt8), (54 : UInt8), (55 : UInt8), (56 : UInt8), (57 : UInt8)] : List UInt8) (Int.toNat (IntKind.wrap IntKind.i64 (y0 + (Int.tmod (IntKind.wrap IntKind.i64 (s1_0 - y0)) (IntKind.wrap IntKind.i64 ((36 : Int) - y0)))))) (0 : UInt8))) : Nat) : Int)] : List Int))) ≤ (lim))) then
              bif ((IntKind.wrap IntKind.i64 ((36 : Int) - y0)) != (0 : Int)) then
                p_puny_lay_1 (IntKind.wrap IntKind.i64 (Int.tdiv (IntKind.wrap IntKind.i64 (s1_0 - y0)) (IntKind.wrap IntKind.i64 ((36 : Int) - y0)))) s2_1 (IntKind.wrap IntKind.i64 (s7_2 + (36 : Int))) (r0_3 ++ ([(((UInt8.toNat (List.getD ([(97 : UInt8), (98 : UInt8), (99 : UInt8), (100 : UInt8), (101 : UInt8), (102 : UInt8), (103 : UInt8), (104 : UInt8), (105 : UInt8), (106 : UInt8), (107 : UInt8), (108 : UInt8), (109 : UInt8), (110 : UInt8), (111 : UInt8), (112 : UInt8), (113 : UInt8), (114 : UInt8), (115 : UInt8), (116 : UInt8), (117 : UInt8), (118 : UInt8), (119 : UInt8), (120 : UInt8), (121 : UInt8), (122 : UInt8), (48 : UInt8), (49 : UInt8), (50 : UInt8), (51 : UInt8), (52 : UInt8), (53 : UInt8), (54 : UInt8), (55 : UInt8), (56 : UInt8), (57 : UInt8)] : List UInt8) (Int.toNat (IntKind.wrap IntKind.i64 (y0 + (Int.tmod (IntKind.wrap IntKind.i64 (s1_0 - y0)) (IntKind.wrap IntKind.i64 ((36 : Int) - y0)))))) (0 : UInt8))) : Nat) : Int)] : List Int))
              else
                none
            else
              none
          else
            none
        else
          none := of_eq (by kernel_rfl) (Run_unfold E 270 (E.at 270 [1, 1, 0, 7]) ⟨mkSlots [(0, (.row 0)), (1, (.val (.int .i64) s1_0)), (2, (.val (.int .i64) s2_1)), (7, (.val (.int .i64) s7_2))], mkBoxes [], mkRows [.mk (.int .u8) .live r0_3]⟩)
theorem c_puny_adapt_eq (x : (Int × (Int × Bool))) : c_puny_adapt x =
    p_puny_adapt_0 x.1 x.2.1 x.2.2 := by kernel_rfl
theorem p_puny_adapt_0_eq (s0_0 : Int) (s1_1 : Int) (s2_2 : Bool) : p_puny_adapt_0 s0_0 s1_1 s2_2 =
    bif s2_2 then
      p_puny_adapt_1 (IntKind.wrap IntKind.i64 (Int.tdiv s0_0 (700 : Int))) s1_1 s2_2
    else
      p_puny_adapt_1 (IntKind.wrap IntKind.i64 (Int.tdiv s0_0 (2 : Int))) s1_1 s2_2 := of_eq (by kernel_rfl) (Run_unfold E 271 (E.at 271 []) ⟨mkSlots [(2, (.val .bool s2_2)), (1, (.val (.int .i64) s1_1)), (0, (.val (.int .i64) s0_0))], assocB [], assocR []⟩)
theorem p_puny_adapt_1_eq (s0_0 : Int) (s1_1 : Int) (s2_2 : Bool) : p_puny_adapt_1 s0_0 s1_1 s2_2 =
    bif (s1_1 != (0 : Int)) then
      p_puny_adapt_2 (IntKind.wrap IntKind.i64 (s0_0 + (IntKind.wrap IntKind.i64 (Int.tdiv s0_0 s1_1)))) s1_1 s2_2 (0 : Int)
    else
      none := of_eq (by kernel_rfl) (Run_unfold E 271 (E.at 271 [1, 0, 1, 9]) ⟨mkSlots [(0, (.val (.int .i64) s0_0)), (1, (.val (.int .i64) s1_1)), (2, (.val .bool s2_2))], mkBoxes [], mkRows []⟩)
theorem p_puny_adapt_2_eq (s0_0 : Int) (s1_1 : Int) (s2_2 : Bool) (s7_3 : Int) : p_puny_adapt_2 s0_0 s1_1 s2_2 s7_3 =
    bif (decide (s0_0 > (455 : Int))) then
      p_puny_adapt_2 (IntKind.wrap IntKind.i64 (Int.tdiv s0_0 (35 : Int))) s1_1 s2_2 (IntKind.wrap IntKind.i64 (s7_3 + (36 : Int)))
    else
      bif ((IntKind.wrap IntKind.i64 (s0_0 + (38 : Int))) != (0 : Int)) then
        some (IntKind.wrap IntKind.i64 (s7_3 + (IntKind.wrap IntKind.i64 (Int.tdiv (IntKind.wrap IntKind.i64 ((36 : Int) * s0_0)) (IntKind.wrap IntKind.i64 (s0_0 + (38 : Int)))))))
      else
        none := of_eq (by kernel_rfl) (Run_unfold E 271 (E.at 271 [1, 1, 1, 1, 0, 0, 7]) ⟨mkSlots [(0, (.val (.int .i64) s0_0)), (1, (.val (.int .i64) s1_1)), (2, (.val .bool s2_2)), (7, (.val (.int .i64) s7_3))], mkBoxes [], mkRows []⟩)
theorem c_strings_LastIndexByte_eq (x : (List UInt8 × Int)) : c_strings_LastIndexByte x =
    p_strings_LastIndexByte_0 x.1 x.2 := by kernel_rfl
theorem p_strings_LastIndexByte_0_eq (s0_0 : List UInt8) (s1_1 : Int) : p_strings_LastIndexByte_0 s0_0 s1_1 =
    (c_ibytealg_LastIndexByteString (s0_0, s1_1)).bind fun y0 =>
      some y0 := of_eq (by kernel_rfl) (Run_unfold E 275 (E.at 275 []) ⟨mkSlots [(1, (.val (.int .u8) s1_1)), (0, (.val .str s0_0))], assocB [], assocR []⟩)
theorem c_puny_number_eq (x : (List UInt8 × (Int × (Int × Int)))) : c_puny_number x =
    p_puny_number_0 x.1 x.2.1 x.2.2.1 x.2.2.2 := by kernel_rfl
theorem p_puny_number_0_eq (s0_0 : List UInt8) (s1_1 : Int) (s2_2 : Int) (s3_3 : Int) : p_puny_number_0 s0_0 s1_1 s2_2 s3_3 =
    p_puny_number_1 s0_0 s1_1 s2_2 s3_3 s1_1 (1 : Int) (36 : Int) := of_eq (by kernel_rfl) (Run_unfold E 276 (E.at 276 []) ⟨mkSlots [(3, (.val (.int .i64) s3_3)), (2, (.val (.int .i64) s2_2)), (1, (.val (.int .i64) s1_1)), (0, (.val .str s0_0))], assocB [], assocR []⟩)
theorem p_puny_number_1_eq (s0_0 : List UInt8) (s1_1 : Int) (s2_2 : Int) (s3_3 : Int) (s12_4 : Int) (s13_5 : Int) (s14_6 : Int) : p_puny_number_1 s0_0 s1_1 s2_2 s3_3 s12_4 s13_5 s14_6 =
    bif (s1_1 == (((List.length s0_0) : Nat) : Int)) then
      some ((0 : Int), ((0 : Int), ((31 : Int), s1_1)))
    else
      bif (inside s1_1 (List.length s0_0)) then
        (c_strings_IndexByte (([(97 : UInt8), (98 : UInt8), (99 : UInt8), (100 : UInt8), (101 : UInt8), (102 : UInt8), (103 : UInt8), (104 : UInt8), (105 : UInt8), (106 : UInt8), (107 : UInt8), (108 : UInt8), (109 : UInt8), (110 : UInt8), (111 : UInt8), (112 : UInt8), (113 : UInt8), (114 : UInt8), (115 : UInt8), (116 : UInt8), (117 : UInt8), (118 : UInt8), (119 : UInt8), (120 : UInt8), (121 : UInt8), (122 : UInt8), (48 : UInt8), (49 : UInt8), (50 : UInt8), (51 : UInt8), (52 : UInt8), (53 : UInt8), (54 : UInt8), (55 : UInt8), (56 : UInt8), (57 : UInt8)] : List UInt8), (((UInt8.toNat (List.getD s0_0 (Int.toNat s1_1) (0 : UInt8))) : Nat) : Int))).bind fun y0 =>
          bif (inside s1_1 (List.length s0_0)) then
            bif (decide (y0 < (0 : Int))) then
              bif (decide ((bits Go.BinOp.or IntKind.u8 (((UInt8.toNat (List.getD s0_0 (Int.toNat s1_1) (0 : UInt8))) : Nat) : Int) (32 : Int)) ≥ (97 : Int))) then
                bif (decide ((bits Go.BinOp.or IntKind.u8 (((UInt8.toNat (List.getD s0_0 (Int.toNat s1_1) (0 : UInt8))) : Nat) : Int) (32 : Int)) ≤ (122 : Int))) then
                  p_puny_number_2 s0_0 s1_1 s2_2 s3_3 s12_4 s13_5 s14_6 (IntKind.wrap IntKind.i64 (IntKind.wrap IntKind.u8 ((bits Go.BinOp.or IntKind.u8 (((UInt8.toNat (List.getD s0_0 (Int.toNat s1_1) (0 : UInt8))) : Nat) : Int) (32 : Int)) - (97 : Int))))
                else
                  p_puny_number_2 s0_0 s1_1 s2_2 s3_3 s12_4 s13_5 s14_6 y0
              else
                p_puny_number_2 s0_0 s1_1 s2_2 s3_3 s12_4 s13_5 s14_6 y0
            else
              p_puny_number_2 s0_0 s1_1 s2_2 s3_3 s12_4 s13_5 s14_6 y0
          else
            none
      else
        none := of_eq (by kernel_rfl) (Run_unfold E 276 (E.at 276 [1, 1, 1, 1, 0, 7]) ⟨mkSlots [(0, (.val .str s0_0)), (1, (.val (.int .i64) s1_1)), (2, (.val (.int .i64) s2_2)), (3, (.val (.int .i64) s3_3)), (12, (.val (.int .i64) s12_4)), (13, (.val (.int .i64) s13_5)), (14, (.val (.int .i64) s14_6))], mkBoxes [], mkRows []⟩)
theorem p_puny_number_2_eq (s0_0 : List UInt8) (s1_1 : Int) (s2_2 : Int) (s3_3 : Int) (s12_4 : Int) (s13_5 : Int) (s14_6 : Int) (s15_7 : Int) : p_puny_number_2 s0_0 s1_1 s2_2 s3_3 s12_4 s13_5 s14_6 s15_7 =
    bif (decide (s15_7 < (0 : Int))) then
      some ((0 : Int), ((0 : Int), ((31 : Int), s1_1)))
    else
      bif (decide ((IntKind.wrap IntKind.i64 (s2_2 + (IntKind.wrap IntKind.i64 (s15_7 * s13_5)))) > (2147483647 : Int))) then
        some ((0 : Int), ((0 : Int), ((32 : Int), s12_4)))
      else
        (c_puny_threshold (s14_6, s3_3)).bind fun y0 =>
          bif (decide (s15_7 < y0)) then
            some ((IntKind.wrap IntKind.i64 (s2_2 + (IntKind.wrap IntKind.i64 (s15_7 * s13_5)))), ((IntKind.wrap IntKind.i64 (s1_1 + (1 : Int))), ((0 : Int), (0 : Int))))
          else
            bif (decide ((IntKind.wrap IntKind.i64 (s13_5 * (IntKind.wrap IntKind.i64 ((36 : Int) - y0)))) > (2147483647 : Int))) then
              some ((0 : Int), ((0 : Int), ((32 : Int), s12_4)))
            else
              p_puny_number_1 s0_0 (IntKind.wrap IntKind.i64 (s1_1 + (1 : Int))) (IntKind.wrap IntKind.i64 (s2_2 + (IntKind.wrap IntKind.i64 (s15_7 * s13_5)))) s3_3 s12_4 (IntKind.wrap IntKind.i64 (s13_5 * (IntKind.wrap IntKind.i64 ((36 : Int) - y0)))) (IntKind.wrap IntKind.i64 (s14_6 + (36 : Int))) := of_eq (by kernel_rfl) (Run_unfold E 276 (E.at 276 [1, 1, 1, 1, 0, 0, 0, 0, 1, 1, 0, 1, 1, 9]) ⟨mkSlots [(0, (.val .str s0_0)), (1, (.val (.int .i64) s1_1)), (2, (.val (.int .i64) s2_2)), (3, (.val (.int .i64) s3_3)), (12, (.val (.int .i64) s12_4)), (13, (.val (.int .i64) s13_5)), (14, (.val (.int .i64) s14_6)), (15, (.val (.int .i64) s15_7))], mkBoxes [], mkRows []⟩)
theorem c_slices_Insert_rune_rune_eq (x : ((List Int) × (Int × (List Int)))) : c_slices_Insert_rune_rune x = primInsert x := by kernel_rfl
theorem c_puny_threshold_eq (x : (Int × Int)) : c_puny_threshold x =
    p_puny_threshold_0 x.1 x.2 := by kernel_rfl
theorem p_puny_threshold_0_eq (s0_0 : Int) (s1_1 : Int) : p_puny_threshold_0 s0_0 s1_1 =
    bif (decide (s0_0 ≤ s1_1)) then
      some (1 : Int)
    else
      bif (decide (s0_0 ≥ (IntKind.wrap IntKind.i64 (s1_1 + (26 : Int))))) then
        some (26 : Int)
      else
        some (IntKind.wrap IntKind.i64 (s0_0 - s1_1)) := of_eq (by kernel_rfl) (Run_unfold E 290 (E.at 290 []) ⟨mkSlots [(1, (.val (.int .i64) s1_1)), (0, (.val (.int .i64) s0_0))], assocB [], assocR []⟩)
theorem c_ibytealg_LastIndexByteString_eq (x : (List UInt8 × Int)) : c_ibytealg_LastIndexByteString x =
    p_ibytealg_LastIndexByteString_0 x.1 x.2 := by kernel_rfl
theorem p_ibytealg_LastIndexByteString_0_eq (s0_0 : List UInt8) (s1_1 : Int) : p_ibytealg_LastIndexByteString_0 s0_0 s1_1 =
    p_ibytealg_LastIndexByteString_1 s0_0 s1_1 (IntKind.wrap IntKind.i64 ((((List.length s0_0) : Nat) : Int) - (1 : Int))) := of_eq (by kernel_rfl) (Run_unfold E 292 (E.at 292 []) ⟨mkSlots [(1, (.val (.int .u8) s1_1)), (0, (.val .str s0_0))], assocB [], assocR []⟩)
theorem p_ibytealg_LastIndexByteString_1_eq (s0_0 : List UInt8) (s1_1 : Int) (s5_2 : Int) : p_ibytealg_LastIndexByteString_1 s0_0 s1_1 s5_2 =
    bif (decide (s5_2 ≥ (0 : Int))) then
      bif (inside s5_2 (List.length s0_0)) then
        bif ((((UInt8.toNat (List.getD s0_0 (Int.toNat s5_2) (0 : UInt8))) : Nat) : Int) == s1_1) then
          some s5_2
        else
          p_ibytealg_LastIndexByteString_1 s0_0 s1_1 (IntKind.wrap IntKind.i64 (s5_2 - (1 : Int)))
      else
        none
    else
      some (-(1 : Int)) := of_eq (by kernel_rfl) (Run_unfold E 292 (E.at 292 [1, 0, 1, 0, 7]) ⟨mkSlots [(0, (.val .str s0_0)), (1, (.val (.int .u8) s1_1)), (5, (.val (.int .i64) s5_2))], mkBoxes [], mkRows []⟩)
end Go.Abs
namespace Go.Abs
set_option autoImplicit false
set_option linter.all false
noncomputable def c_law05_HostTwice (x : List UInt8) : Option Bool := Abs.Call E 12 x
noncomputable def p_law05_HostTwice_0 (s0_0 : List UInt8) : Option Bool := (Abs.Run E 12 (E.at 12 []) ⟨mkSlots [(0, (.val .str s0_0))], assocB [], assocR []⟩)
theorem c_law05_HostTwice_eq (x : List UInt8) : c_law05_HostTwice x =
    p_law05_HostTwice_0 x := by kernel_rfl
theorem p_law05_HostTwice_0_eq (s0_0 : List UInt8) : p_law05_HostTwice_0 s0_0 =
    (c_law05_alive ()).bind fun y0 =>
      bif (!y0) then
        some false
      else
        (c_host_ToASCII s0_0).bind fun y1 =>
          (c_law05_num y1.2).bind fun y2 =>
            bif (y2 != (0 : Int)) then
              some (y1.1 == ([] : List UInt8))
            else
              (c_host_ToASCII y1.1).bind fun y3 =>
                (c_host_ToUnicode y1.1).bind fun y4 =>
                  (c_host_ToASCII y4).bind fun y5 =>
                    (c_law05_num y3.2).bind fun y6 =>
                      bif (y6 == (0 : Int)) then
                        bif (y3.1 == y1.1) then
                          (c_law05_num y5.2).bind fun y7 =>
                            bif (y7 == (0 : Int)) then
                              some (y5.1 == y1.1)
                            else
                              some false
                        else
                          some false
                      else
                        some false := of_eq (by kernel_rfl) (Run_unfold E 12 (E.at 12 []) ⟨mkSlots [(0, (.val .str s0_0))], assocB [], assocR []⟩)
end Go.Abs
