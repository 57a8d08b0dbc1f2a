/- Part Q3 of the proof: see the last text of the claim. No condition of its own. -/
import Derived.Test.YtddagflhafkbnaaGreatDoorQ1
import Derived.Test.YtddagflhafkbnaaGreatDoorQ2
set_option linter.all false
namespace Go.Abs
noncomputable section
set_option autoImplicit false
set_option linter.all false
def c_host_Parse (x : (List UInt8 × Bool)) : Option (D35 × Int) := Abs.Call E 48 x
def Ze1 (s0 : List UInt8) (s1 : Bool) : Option (D35 × Int) := (Abs.Run E 48 (E.at 48 []) ⟨mkSlots [(1, (.val .bool s1)), (0, (.val .str s0))], assocB [], assocR []⟩)
def Zf1 (s0 : List UInt8) (s1 : Bool) (s2 : List UInt8) (s3 : Int) (s4 : Int) (b5 : D35) : Option (D35 × Int) := (Abs.Run E 48 (E.at 48 [1, 1, 1, 1, 1, 0, 1, 0, 7]) ⟨mkSlots [(0, (.val .str s0)), (1, (.val .bool s1)), (4, (.addr (.box 0) [])), (10, (.val .str s2)), (95, (.val (.int .i64) s3)), (96, (.val (.int .i64) s4))], mkBoxes [.cells T35 .live (.val T35 b5)], mkRows []⟩)
def c_host_ToASCII (x : List UInt8) : Option (List UInt8 × Int) := Abs.Call E 56 x
def Zg1 (s0 : List UInt8) : Option (List UInt8 × Int) := (Abs.Run E 56 (E.at 56 []) ⟨mkSlots [(0, (.val .str s0))], assocB [], assocR []⟩)
def Zh1 (s0 : List UInt8) (s1 : Int) (t2 : List UInt8) (n3 : Nat) (r4 : List (List UInt8)) : Option (List UInt8 × Int) := (Abs.Run E 56 (E.at 56 [1, 1, 1, 1, 1, 1, 0, 1, 0, 7]) ⟨mkSlots [(0, (.val .str s0)), (6, (.row 0)), (7, (.val (.int .i64) s1)), (27, (.addr (.box 0) []))], mkBoxes [.iter t2 n3], mkRows [.mk .str .live r4]⟩)
def Zi1 (s0 : List UInt8) (s1 : Int) (s2 : Int) (r3 : List (List UInt8)) : Option (List UInt8 × Int) := (Abs.Run E 56 (E.at 56 [1, 1, 1, 1, 1, 1, 1, 1, 0, 1, 0, 7]) ⟨mkSlots [(0, (.val .str s0)), (6, (.row 0)), (53, (.val (.int .i64) s1)), (54, (.val (.int .i64) s2))], mkBoxes [], mkRows [.mk .str .live r3]⟩)
def c_octets_Upper (x : List UInt8) : Option (List UInt8) := Abs.Call E 51 x
def Zj1 (s0 : List UInt8) : Option (List UInt8) := (Abs.Run E 51 (E.at 51 []) ⟨mkSlots [(0, (.val .str s0))], assocB [], assocR []⟩)
def c_strings_ContainsAny (x : (List UInt8 × List UInt8)) : Option Bool := Abs.Call E 123 x
def Zk1 (s0 : List UInt8) (s1 : List UInt8) : Option Bool := (Abs.Run E 123 (E.at 123 []) ⟨mkSlots [(1, (.val .str s1)), (0, (.val .str s0))], assocB [], assocR []⟩)
def c_percent_EncodeText (x : (Int × List UInt8)) : Option (List UInt8 × Int) := Abs.Call E 124 x
def Zl1 (s0 : Int) (s1 : List UInt8) : Option (List UInt8 × Int) := (Abs.Run E 124 (E.at 124 []) ⟨mkSlots [(1, (.val .str s1)), (0, (.val (.int .i64) s0))], assocB [], assocR []⟩)
def c_percent_DecodeText (x : List UInt8) : Option (List UInt8) := Abs.Call E 125 x
def Zm1 (s0 : List UInt8) : Option (List UInt8) := (Abs.Run E 125 (E.at 125 []) ⟨mkSlots [(0, (.val .str s0))], assocB [], assocR []⟩)
def c_utf_Valid (x : List UInt8) : Option (Bool × Int) := Abs.Call E 134 x
def Zn1 (s0 : List UInt8) : Option (Bool × Int) := (Abs.Run E 134 (E.at 134 []) ⟨mkSlots [(0, (.val .str s0))], assocB [], assocR []⟩)
def Zo1 (s0 : List UInt8) (t1 : List UInt8) (n2 : Nat) : Option (Bool × Int) := (Abs.Run E 134 (E.at 134 [1, 0, 1, 0, 7]) ⟨mkSlots [(0, (.val .str s0)), (6, (.addr (.box 0) []))], mkBoxes [.iter t1 n2], mkRows []⟩)
def c_host_dot (x : Int) : Option Bool := Abs.Call E 135 x
def Zp1 (s0 : Int) : Option Bool := (Abs.Run E 135 (E.at 135 []) ⟨mkSlots [(0, (.val (.int .i32) s0))], assocB [], assocR []⟩)
def c_host_label (x : (List UInt8 × Bool)) : Option (List UInt8 × Int) := Abs.Call E 136 x
def Zq1 (s0 : List UInt8) (s1 : Bool) : Option (List UInt8 × Int) := (Abs.Run E 136 (E.at 136 []) ⟨mkSlots [(1, (.val .bool s1)), (0, (.val .str s0))], assocB [], assocR []⟩)
def Zr1 (s0 : List UInt8) (s1 : Bool) (s2 : Bool) : Option (List UInt8 × Int) := (Abs.Run E 136 (E.at 136 [1, 1, 1, 0, 1, 9]) ⟨mkSlots [(0, (.val .str s0)), (1, (.val .bool s1)), (6, (.val .bool s2))], mkBoxes [], mkRows []⟩)
def c_strings_Join (x : ((List (List UInt8)) × List UInt8)) : Option (List UInt8) := Abs.Call E 137 x
def c_strings_TrimSuffix (x : (List UInt8 × List UInt8)) : Option (List UInt8) := Abs.Call E 138 x
def Zs1 (s0 : List UInt8) (s1 : List UInt8) : Option (List UInt8) := (Abs.Run E 138 (E.at 138 []) ⟨mkSlots [(1, (.val .str s1)), (0, (.val .str s0))], assocB [], assocR []⟩)
def c_puny_Unlabel (x : List UInt8) : Option (List UInt8 × Int) := Abs.Call E 143 x
def Zt1 (s0 : List UInt8) : Option (List UInt8 × Int) := (Abs.Run E 143 (E.at 143 []) ⟨mkSlots [(0, (.val .str s0))], assocB [], assocR []⟩)
def c_strings_IndexAny (x : (List UInt8 × List UInt8)) : Option Int := Abs.Call E 177 x
def Zu1 (s0 : List UInt8) (s1 : List UInt8) : Option Int := (Abs.Run E 177 (E.at 177 []) ⟨mkSlots [(1, (.val .str s1)), (0, (.val .str s0))], assocB [], assocR []⟩)
def Zv1 (s0 : List UInt8) (s1 : List UInt8) (s2 : Int) : Option Int := (Abs.Run E 177 (E.at 177 [1, 1, 0, 1, 0, 1, 0, 1, 9]) ⟨mkSlots [(0, (.val .str s0)), (1, (.val .str s1)), (5, (.val (.int .i32) s2))], mkBoxes [], mkRows []⟩)
def Zw1 (s0 : List UInt8) (s1 : List UInt8) (s2 : Int) (b3 : (List Bool)) : Option Int := (Abs.Run E 177 (E.at 177 [1, 1, 1, 0, 1, 0, 1, 1, 0, 0, 1, 0, 7]) ⟨mkSlots [(0, (.val .str s0)), (1, (.val .str s1)), (6, (.addr (.box 0) [])), (8, (.val (.int .i64) s2))], mkBoxes [.cells (.arr 256 .bool) .live (.val (.arr 256 .bool) b3)], mkRows []⟩)
def Zx1 (s0 : List UInt8) (s1 : List UInt8) : Option Int := (Abs.Run E 177 (E.at 177 [1, 1, 1, 0, 1, 9]) ⟨mkSlots [(0, (.val .str s0)), (1, (.val .str s1))], mkBoxes [], mkRows []⟩)
def Zy1 (s0 : List UInt8) (s1 : List UInt8) (t2 : List UInt8) (n3 : Nat) : Option Int := (Abs.Run E 177 (E.at 177 [1, 1, 1, 1, 0, 1, 0, 7]) ⟨mkSlots [(0, (.val .str s0)), (1, (.val .str s1)), (45, (.addr (.box 0) []))], mkBoxes [.iter t2 n3], mkRows []⟩)
def c_percent_Encode (x : (Int × (List Int))) : Option (List UInt8 × Int) := Abs.Call E 178 x
def Zz1 (s0 : Int) (s1 : (List Int)) : Option (List UInt8 × Int) := (Abs.Run E 178 (E.at 178 []) ⟨mkSlots [(1, (.val (.sl false (.int .u8)) s1)), (0, (.val (.int .i64) s0))], assocB [], assocR []⟩)
def Z02 (s0 : Int) (s1 : (List Int)) (s2 : (List Int)) (s3 : Int) (s4 : Int) (b5 : (List Bool)) (r6 : List Int) : Option (List UInt8 × Int) := (Abs.Run E 178 (E.at 178 [1, 1, 1, 1, 0, 1, 0, 7]) ⟨mkSlots [(0, (.val (.int .i64) s0)), (1, (.val (.sl false (.int .u8)) s1)), (6, (.addr (.box 0) [])), (7, (.row 0)), (16, (.val (.sl false (.int .u8)) s2)), (17, (.val (.int .i64) s3)), (18, (.val (.int .i64) s4))], mkBoxes [.cells (.arr 256 .bool) .live (.val (.arr 256 .bool) b5)], mkRows [.mk (.int .u8) .live r6]⟩)
def c_utf_WebFix (x : List UInt8) : Option (List UInt8) := Abs.Call E 179 x
def Z12 (s0 : List UInt8) : Option (List UInt8) := (Abs.Run E 179 (E.at 179 []) ⟨mkSlots [(0, (.val .str s0))], assocB [], assocR []⟩)
def c_percent_Decode (x : List UInt8) : Option (List Int) := Abs.Call E 180 x
def Z22 (s0 : List UInt8) : Option (List Int) := (Abs.Run E 180 (E.at 180 []) ⟨mkSlots [(0, (.val .str s0))], assocB [], assocR []⟩)
def Z32 (s0 : List UInt8) (s1 : Int) (r2 : List Int) : Option (List Int) := (Abs.Run E 180 (E.at 180 [1, 1, 0, 1, 0, 7]) ⟨mkSlots [(0, (.val .str s0)), (3, (.row 0)), (4, (.val (.int .i64) s1))], mkBoxes [], mkRows [.mk (.int .u8) .live r2]⟩)
def c_utf_at (x : (List UInt8 × Int)) : Option D181 := Abs.Call E 190 x
def Z42 (s0 : List UInt8) (s1 : Int) : Option D181 := (Abs.Run E 190 (E.at 190 []) ⟨mkSlots [(1, (.val (.int .i64) s1)), (0, (.val .str s0))], assocB [], assocR []⟩)
def c_host_hasRune (x : (List UInt8 × Int)) : Option Bool := Abs.Call E 191 x
def Z52 (s0 : List UInt8) (s1 : Int) : Option Bool := (Abs.Run E 191 (E.at 191 []) ⟨mkSlots [(1, (.val (.int .i32) s1)), (0, (.val .str s0))], assocB [], assocR []⟩)
def Z62 (s0 : List UInt8) (s1 : Int) (t2 : List UInt8) (n3 : Nat) : Option Bool := (Abs.Run E 191 (E.at 191 [1, 0, 1, 0, 7]) ⟨mkSlots [(0, (.val .str s0)), (1, (.val (.int .i32) s1)), (8, (.addr (.box 0) []))], mkBoxes [.iter t2 n3], mkRows []⟩)
def c_host_basic (x : List UInt8) : Option Bool := Abs.Call E 192 x
def Z72 (s0 : List UInt8) : Option Bool := (Abs.Run E 192 (E.at 192 []) ⟨mkSlots [(0, (.val .str s0))], assocB [], assocR []⟩)
def c_puny_Label (x : List UInt8) : Option (List UInt8 × Int) := Abs.Call E 193 x
def Z82 (s0 : List UInt8) : Option (List UInt8 × Int) := (Abs.Run E 193 (E.at 193 []) ⟨mkSlots [(0, (.val .str s0))], assocB [], assocR []⟩)
def c_strings_IndexFunc (x : (List UInt8 × Unit)) : Option Int := Abs.Call E 194 x
def Z92 (s0 : List UInt8) (s1 : Unit) : Option Int := (Abs.Run E 194 (E.at 194 []) ⟨mkSlots [(1, (.cl 239 0 (.val .unit s1))), (0, (.val .str s0))], assocB [], assocR []⟩)
def c_strings_IndexFunc__puny_basic_1 (x : (List UInt8 × Unit)) : Option Int := Abs.Call E 1194 x
def Za2 (s0 : List UInt8) (s1 : Unit) : Option Int := (Abs.Run E 1194 (E.at 1194 []) ⟨mkSlots [(1, (.cl 248 0 (.val .unit s1))), (0, (.val .str s0))], assocB [], assocR []⟩)
def c_strings_IndexFunc__host_dot (x : (List UInt8 × Unit)) : Option Int := Abs.Call E 2194 x
def Zb2 (s0 : List UInt8) (s1 : Unit) : Option Int := (Abs.Run E 2194 (E.at 2194 []) ⟨mkSlots [(1, (.cl 135 0 (.val .unit s1))), (0, (.val .str s0))], assocB [], assocR []⟩)
def c_istringslite_TrimSuffix (x : (List UInt8 × List UInt8)) : Option (List UInt8) := Abs.Call E 198 x
def Zc2 (s0 : List UInt8) (s1 : List UInt8) : Option (List UInt8) := (Abs.Run E 198 (E.at 198 []) ⟨mkSlots [(1, (.val .str s1)), (0, (.val .str s0))], assocB [], assocR []⟩)
def c_puny_Decode (x : List UInt8) : Option (List UInt8 × (Int × Int)) := Abs.Call E 204 x
def Zd2 (s0 : List UInt8) : Option (List UInt8 × (Int × Int)) := (Abs.Run E 204 (E.at 204 []) ⟨mkSlots [(0, (.val .str s0))], assocB [], assocR []⟩)
def c_puny_basic (x : List UInt8) : Option Bool := Abs.Call E 205 x
def Ze2 (s0 : List UInt8) : Option Bool := (Abs.Run E 205 (E.at 205 []) ⟨mkSlots [(0, (.val .str s0))], assocB [], assocR []⟩)
def c_octets_Same (x : (List UInt8 × List UInt8)) : Option Bool := Abs.Call E 206 x
def Zf2 (s0 : List UInt8) (s1 : List UInt8) : Option Bool := (Abs.Run E 206 (E.at 206 []) ⟨mkSlots [(1, (.val .str s1)), (0, (.val .str s0))], assocB [], assocR []⟩)
def c_strings_IndexRune (x : (List UInt8 × Int)) : Option Int := Abs.Call E 216 x
def Zg2 (s0 : List UInt8) (s1 : Int) : Option Int := (Abs.Run E 216 (E.at 216 []) ⟨mkSlots [(1, (.val (.int .i32) s1)), (0, (.val .str s0))], assocB [], assocR []⟩)
def Zh2 (s0 : List UInt8) (s1 : Int) (t2 : List UInt8) (n3 : Nat) : Option Int := (Abs.Run E 216 (E.at 216 [1, 0, 1, 1, 1, 0, 0, 1, 0, 7]) ⟨mkSlots [(0, (.val .str s0)), (1, (.val (.int .i32) s1)), (175, (.addr (.box 0) []))], mkBoxes [.iter t2 n3], mkRows []⟩)
def Zi2 (s0 : List UInt8) (s1 : Int) (s2 : List UInt8) (s3 : Int) (s4 : Int) : Option Int := (Abs.Run E 216 (E.at 216 [1, 0, 1, 1, 1, 1, 1, 1, 0, 1, 1, 1, 1, 0, 0, 7]) ⟨mkSlots [(0, (.val .str s0)), (1, (.val (.int .i32) s1)), (7, (.val .str s2)), (8, (.val (.int .i64) s3)), (9, (.val (.int .i64) s4))], mkBoxes [], mkRows []⟩)
def Zj2 (s0 : List UInt8) (s1 : Int) (s2 : List UInt8) (s3 : Int) (s4 : Int) : Option Int := (Abs.Run E 216 (E.at 216 [1, 0, 1, 1, 1, 1, 1, 1, 0, 1, 1, 1, 1, 0, 0, 0, 1, 0, 0, 0, 1, 9]) ⟨mkSlots [(0, (.val .str s0)), (1, (.val (.int .i32) s1)), (7, (.val .str s2)), (8, (.val (.int .i64) s3)), (9, (.val (.int .i64) s4))], mkBoxes [], mkRows []⟩)
def c_strings_shouldUseASCIISet (x : Int) : Option Bool := Abs.Call E 217 x
def Zk2 (s0 : Int) : Option Bool := (Abs.Run E 217 (E.at 217 []) ⟨mkSlots [(0, (.val (.int .i64) s0))], assocB [], assocR []⟩)
def c_strings_makeASCIISet (x : List UInt8) : Option ((List Bool) × Bool) := Abs.Call E 218 x
def c_strings_asciiSet_contains (x : ((List Bool) × Int)) : Option (Bool × (List Bool)) := Abs.Call E 219 x
def Zl2 (s0 : Int) (b1 : (List Bool)) : Option (Bool × (List Bool)) := (Abs.Run E 219 (E.at 219 []) ⟨mkSlots [(1, (.val (.int .u8) s0)), (0, (.addr (.box 1073741824) []))], assocB [(1073741824, .cells (.arr 256 .bool) .live (.val (.arr 256 .bool) b1))], assocR []⟩)
def c_percent_isSet (x : Int) : Option Bool := Abs.Call E 220 x
def Zm2 (s0 : Int) : Option Bool := (Abs.Run E 220 (E.at 220 []) ⟨mkSlots [(0, (.val (.int .i64) s0))], assocB [], assocR []⟩)
def c_percent_all (x : Unit) : Option (List (List Bool)) := Abs.Call E 221 x
def c_percent_escape (x : ((List Int) × Int)) : Option (List Int) := Abs.Call E 222 x
def Zn2 (s0 : Int) (r1 : List Int) : Option (List Int) := (Abs.Run E 222 (E.at 222 []) ⟨mkSlots [(1, (.val (.int .u8) s0)), (0, (.row 1073741824))], assocB [], assocR [(1073741824, .mk (.int .u8) .live r1)]⟩)
def c_utf_told (x : (List D181)) : Option (List UInt8) := Abs.Call E 223 x
def Zo2 (s0 : (List D181)) : Option (List UInt8) := (Abs.Run E 223 (E.at 223 []) ⟨mkSlots [(0, (.val (.sl false T181) s0))], assocB [], assocR []⟩)
def Zp2 (s0 : (List D181)) (s1 : (List D181)) (s2 : Int) (s3 : Int) : Option (List UInt8) := (Abs.Run E 223 (E.at 223 [1, 1, 0, 1, 0, 7]) ⟨mkSlots [(0, (.val (.sl false T181) s0)), (3, .nils), (6, (.val (.sl false T181) s1)), (7, (.val (.int .i64) s2)), (8, (.val (.int .i64) s3))], mkBoxes [], mkRows []⟩)
def Zq2 (s0 : (List D181)) (s1 : (List D181)) (s2 : Int) (s3 : Int) (r4 : List Int) : Option (List UInt8) := (Abs.Run E 223 (E.at 223 [1, 1, 0, 1, 0, 7]) ⟨mkSlots [(0, (.val (.sl false T181) s0)), (3, (.row 0)), (6, (.val (.sl false T181) s1)), (7, (.val (.int .i64) s2)), (8, (.val (.int .i64) s3))], mkBoxes [], mkRows [.mk (.int .u8) .live r4]⟩)
def c_utf_WebPieces (x : List UInt8) : Option (List D181) := Abs.Call E 224 x
def Zr2 (s0 : List UInt8) : Option (List D181) := (Abs.Run E 224 (E.at 224 []) ⟨mkSlots [(0, (.val .str s0))], assocB [], assocR []⟩)
def Zs2 (s0 : List UInt8) (s1 : Int) (r2 : List D181) : Option (List D181) := (Abs.Run E 224 (E.at 224 [1, 1, 0, 1, 0, 7]) ⟨mkSlots [(0, (.val .str s0)), (3, (.row 0)), (4, (.val (.int .i64) s1))], mkBoxes [], mkRows [.mk T181 .live r2]⟩)
def Zt2 (s0 : List UInt8) (s1 : Int) (b2 : D181) (r3 : List D181) : Option (List D181) := (Abs.Run E 224 (E.at 224 [1, 1, 0, 1, 0, 0, 1, 0, 1, 0, 1, 9]) ⟨mkSlots [(0, (.val .str s0)), (3, (.row 0)), (4, (.val (.int .i64) s1)), (5, (.addr (.box 0) []))], mkBoxes [.cells T181 .live (.val T181 b2)], mkRows [.mk T181 .live r3]⟩)
def c_percent_triple (x : (List UInt8 × Int)) : Option Int := Abs.Call E 225 x
def Zu2 (s0 : List UInt8) (s1 : Int) : Option Int := (Abs.Run E 225 (E.at 225 []) ⟨mkSlots [(1, (.val (.int .i64) s1)), (0, (.val .str s0))], assocB [], assocR []⟩)
def c_utf8_DecodeRuneInString (x : List UInt8) : Option (Int × Int) := Abs.Call E 238 x
def c_host_basic_1 (x : Int) : Option Bool := Abs.Call E 239 x
def Zv2 (s0 : Int) : Option Bool := (Abs.Run E 239 (E.at 239 []) ⟨mkSlots [(0, (.val (.int .i32) s0))], assocB [], assocR []⟩)
def c_puny_Encode (x : List UInt8) : Option (List UInt8 × Int) := Abs.Call E 240 x
def Zw2 (s0 : List UInt8) : Option (List UInt8 × Int) := (Abs.Run E 240 (E.at 240 []) ⟨mkSlots [(0, (.val .str s0))], assocB [], assocR []⟩)
def Zx2 (s0 : List UInt8) (s1 : Int) (s2 : Int) (r3 : List Int) (r4 : List Int) : Option (List UInt8 × Int) := (Abs.Run E 240 (E.at 240 [1, 1, 1, 1, 1, 0, 1, 0, 7]) ⟨mkSlots [(0, (.val .str s0)), (6, (.row 0)), (7, (.row 1)), (35, (.row 0)), (36, (.val (.int .i64) s1)), (37, (.val (.int .i64) s2))], mkBoxes [], mkRows [.mk (.int .i32) .live r3, .mk (.int .u8) .live r4]⟩)
def Zy2 (s0 : List UInt8) (s1 : Int) (s2 : Int) (r3 : List Int) (r4 : List Int) : Option (List UInt8 × Int) := (Abs.Run E 240 (E.at 240 [1, 1, 1, 1, 1, 1, 1, 1, 0, 1, 9]) ⟨mkSlots [(0, (.val .str s0)), (6, (.row 0)), (7, (.row 1)), (10, (.val (.int .i64) s1)), (11, (.val (.int .i64) s2))], mkBoxes [], mkRows [.mk (.int .i32) .live r3, .mk (.int .u8) .live r4]⟩)
def Zz2 (s0 : List UInt8) (s1 : Int) (s2 : Int) (s3 : Int) (s4 : Int) (s5 : Int) (r6 : List Int) (r7 : List Int) : Option (List UInt8 × Int) := (Abs.Run E 240 (E.at 240 [1, 1, 1, 1, 1, 1, 1, 1, 1, 1, 0, 0, 7]) ⟨mkSlots [(0, (.val .str s0)), (6, (.row 0)), (7, (.row 1)), (10, (.val (.int .i64) s1)), (11, (.val (.int .i64) s2)), (12, (.val (.int .i32) s3)), (13, (.val (.int .i64) s4)), (14, (.val (.int .i64) s5))], mkBoxes [], mkRows [.mk (.int .i32) .live r6, .mk (.int .u8) .live r7]⟩)
def Z03 (s0 : List UInt8) (s1 : Int) (s2 : Int) (s3 : Int) (s4 : Int) (s5 : Int) (s6 : Int) (s7 : Int) (s8 : Int) (r9 : List Int) (r10 : List Int) : Option (List UInt8 × Int) := (Abs.Run E 240 (E.at 240 [1, 1, 1, 1, 1, 1, 1, 1, 1, 1, 0, 0, 0, 1, 0, 1, 0, 1, 0, 7]) ⟨mkSlots [(0, (.val .str s0)), (6, (.row 0)), (7, (.row 1)), (10, (.val (.int .i64) s1)), (11, (.val (.int .i64) s2)), (12, (.val (.int .i32) s3)), (13, (.val (.int .i64) s4)), (14, (.val (.int .i64) s5)), (15, (.val (.int .i32) s6)), (61, (.row 0)), (62, (.val (.int .i64) s7)), (63, (.val (.int .i64) s8))], mkBoxes [], mkRows [.mk (.int .i32) .live r9, .mk (.int .u8) .live r10]⟩)
def Z13 (s0 : List UInt8) (s1 : Int) (s2 : Int) (s3 : Int) (s4 : Int) (s5 : Int) (s6 : Int) (s7 : Int) (r8 : List Int) (r9 : List Int) : Option (List UInt8 × Int) := (Abs.Run E 240 (E.at 240 [1, 1, 1, 1, 1, 1, 1, 1, 1, 1, 0, 0, 0, 1, 0, 1, 1, 1, 1, 0, 1, 0, 7]) ⟨mkSlots [(0, (.val .str s0)), (6, (.row 0)), (7, (.row 1)), (10, (.val (.int .i64) s1)), (11, (.val (.int .i64) s2)), (12, (.val (.int .i32) s3)), (13, (.val (.int .i64) s4)), (14, (.val (.int .i64) s5)), (87, (.row 0)), (88, (.val (.int .i64) s6)), (89, (.val (.int .i64) s7))], mkBoxes [], mkRows [.mk (.int .i32) .live r8, .mk (.int .u8) .live r9]⟩)
def Z23 (s0 : List UInt8) (s1 : Int) (s2 : Int) (s3 : Int) (s4 : Int) (s5 : Int) (s6 : Int) (s7 : Int) (s8 : Int) (r9 : List Int) (r10 : List Int) : Option (List UInt8 × Int) := (Abs.Run E 240 (E.at 240 [1, 1, 1, 1, 1, 1, 1, 1, 1, 1, 0, 0, 0, 1, 0, 1, 1, 1, 1, 0, 1, 0, 0, 1, 1, 0, 0, 1, 0, 1, 9]) ⟨mkSlots [(0, (.val .str s0)), (6, (.row 0)), (7, (.row 1)), (10, (.val (.int .i64) s1)), (11, (.val (.int .i64) s2)), (12, (.val (.int .i32) s3)), (13, (.val (.int .i64) s4)), (14, (.val (.int .i64) s5)), (19, (.val (.int .i32) s6)), (87, (.row 0)), (88, (.val (.int .i64) s7)), (89, (.val (.int .i64) s8))], mkBoxes [], mkRows [.mk (.int .i32) .live r9, .mk (.int .u8) .live r10]⟩)
def c_strings_indexFunc (x : (List UInt8 × (Unit × Bool))) : Option Int := Abs.Call E 241 x
def Z33 (s0 : List UInt8) (s1 : Unit) (s2 : Bool) : Option Int := (Abs.Run E 241 (E.at 241 []) ⟨mkSlots [(2, (.val .bool s2)), (1, (.cl 239 0 (.val .unit s1))), (0, (.val .str s0))], assocB [], assocR []⟩)
def Z43 (s0 : List UInt8) (s1 : Unit) (s2 : Bool) (t3 : List UInt8) (n4 : Nat) : Option Int := (Abs.Run E 241 (E.at 241 [1, 0, 1, 0, 7]) ⟨mkSlots [(0, (.val .str s0)), (1, (.cl 239 0 (.val .unit s1))), (2, (.val .bool s2)), (10, (.addr (.box 0) []))], mkBoxes [.iter t3 n4], mkRows []⟩)
def c_strings_indexFunc__puny_basic_1 (x : (List UInt8 × (Unit × Bool))) : Option Int := Abs.Call E 1241 x
def Z53 (s0 : List UInt8) (s1 : Unit) (s2 : Bool) : Option Int := (Abs.Run E 1241 (E.at 1241 []) ⟨mkSlots [(2, (.val .bool s2)), (1, (.cl 248 0 (.val .unit s1))), (0, (.val .str s0))], assocB [], assocR []⟩)
def Z63 (s0 : List UInt8) (s1 : Unit) (s2 : Bool) (t3 : List UInt8) (n4 : Nat) : Option Int := (Abs.Run E 1241 (E.at 1241 [1, 0, 1, 0, 7]) ⟨mkSlots [(0, (.val .str s0)), (1, (.cl 248 0 (.val .unit s1))), (2, (.val .bool s2)), (10, (.addr (.box 0) []))], mkBoxes [.iter t3 n4], mkRows []⟩)
def c_strings_indexFunc__host_dot (x : (List UInt8 × (Unit × Bool))) : Option Int := Abs.Call E 2241 x
def Z73 (s0 : List UInt8) (s1 : Unit) (s2 : Bool) : Option Int := (Abs.Run E 2241 (E.at 2241 []) ⟨mkSlots [(2, (.val .bool s2)), (1, (.cl 135 0 (.val .unit s1))), (0, (.val .str s0))], assocB [], assocR []⟩)
def Z83 (s0 : List UInt8) (s1 : Unit) (s2 : Bool) (t3 : List UInt8) (n4 : Nat) : Option Int := (Abs.Run E 2241 (E.at 2241 [1, 0, 1, 0, 7]) ⟨mkSlots [(0, (.val .str s0)), (1, (.cl 135 0 (.val .unit s1))), (2, (.val .bool s2)), (10, (.addr (.box 0) []))], mkBoxes [.iter t3 n4], mkRows []⟩)
def c_istringslite_HasSuffix (x : (List UInt8 × List UInt8)) : Option Bool := Abs.Call E 244 x
def Z93 (s0 : List UInt8) (s1 : List UInt8) : Option Bool := (Abs.Run E 244 (E.at 244 []) ⟨mkSlots [(1, (.val .str s1)), (0, (.val .str s0))], assocB [], assocR []⟩)
def c_puny_decode (x : List UInt8) : Option (List UInt8 × (Int × Int)) := Abs.Call E 247 x
def Za3 (s0 : List UInt8) : Option (List UInt8 × (Int × Int)) := (Abs.Run E 247 (E.at 247 []) ⟨mkSlots [(0, (.val .str s0))], assocB [], assocR []⟩)
def Zb3 (s0 : List UInt8) (s1 : Int) (s2 : Int) : Option (List UInt8 × (Int × Int)) := (Abs.Run E 247 (E.at 247 [1, 0, 1, 0, 7]) ⟨mkSlots [(0, (.val .str s0)), (19, (.val (.int .i64) s1)), (20, (.val (.int .i64) s2))], mkBoxes [], mkRows []⟩)
def Zc3 (s0 : List UInt8) (s1 : Int) (r2 : List Int) : Option (List UInt8 × (Int × Int)) := (Abs.Run E 247 (E.at 247 [1, 1, 1, 1, 0, 1, 9]) ⟨mkSlots [(0, (.val .str s0)), (6, (.row 0)), (7, (.val (.int .i64) s1))], mkBoxes [], mkRows [.mk (.int .i32) .live r2]⟩)
def Zd3 (s0 : List UInt8) (s1 : Int) : Option (List UInt8 × (Int × Int)) := (Abs.Run E 247 (E.at 247 [1, 1, 1, 1, 0, 1, 9]) ⟨mkSlots [(0, (.val .str s0)), (6, .nils), (7, (.val (.int .i64) s1))], mkBoxes [], mkRows []⟩)
def Ze3 (s0 : List UInt8) (s1 : Int) (s2 : Int) (s3 : Int) (s4 : Int) (s5 : Int) (r6 : List Int) : Option (List UInt8 × (Int × Int)) := (Abs.Run E 247 (E.at 247 [1, 1, 1, 1, 1, 1, 1, 0, 0, 7]) ⟨mkSlots [(0, (.val .str s0)), (6, (.row 0)), (7, (.val (.int .i64) s1)), (8, (.val (.int .i64) s2)), (9, (.val (.int .i64) s3)), (10, (.val (.int .i64) s4)), (11, (.val (.int .i64) s5))], mkBoxes [], mkRows [.mk (.int .i32) .live r6]⟩)
def Zf3 (s0 : List UInt8) (s1 : Int) (s2 : Int) (s3 : Int) (s4 : Int) (s5 : Int) : Option (List UInt8 × (Int × Int)) := (Abs.Run E 247 (E.at 247 [1, 1, 1, 1, 1, 1, 1, 0, 0, 7]) ⟨mkSlots [(0, (.val .str s0)), (6, .nils), (7, (.val (.int .i64) s1)), (8, (.val (.int .i64) s2)), (9, (.val (.int .i64) s3)), (10, (.val (.int .i64) s4)), (11, (.val (.int .i64) s5))], mkBoxes [], mkRows []⟩)
def c_puny_basic_1 (x : Int) : Option Bool := Abs.Call E 248 x
def Zg3 (s0 : Int) : Option Bool := (Abs.Run E 248 (E.at 248 []) ⟨mkSlots [(0, (.val (.int .i32) s0))], assocB [], assocR []⟩)
def c_utf8_ValidRune (x : Int) : Option Bool := Abs.Call E 256 x
def Zh3 (s0 : Int) : Option Bool := (Abs.Run E 256 (E.at 256 []) ⟨mkSlots [(0, (.val (.int .i32) s0))], assocB [], assocR []⟩)
def c_utf8_AppendRune (x : ((List Int) × Int)) : Option (List Int) := Abs.Call E 258 x
def Zi3 (s0 : Int) (r1 : List Int) : Option (List Int) := (Abs.Run E 258 (E.at 258 []) ⟨mkSlots [(1, (.val (.int .i32) s0)), (0, (.row 1073741824))], assocB [], assocR [(1073741824, .mk (.int .u8) .live r1)]⟩)
def c_utf_width (x : List UInt8) : Option Int := Abs.Call E 259 x
def Zj3 (s0 : List UInt8) : Option Int := (Abs.Run E 259 (E.at 259 []) ⟨mkSlots [(0, (.val .str s0))], assocB [], assocR []⟩)
def Zk3 (s0 : List UInt8) (s1 : Int) (s2 : Int) (s3 : Int) (s4 : Int) : Option Int := (Abs.Run E 259 (E.at 259 [1, 1, 1, 0, 0, 7]) ⟨mkSlots [(0, (.val .str s0)), (3, (.val (.int .u8) s1)), (4, (.val (.int .u8) s2)), (5, (.val (.int .i64) s3)), (6, (.val (.int .i64) s4))], mkBoxes [], mkRows []⟩)
def c_percent_nibble (x : Int) : Option Int := Abs.Call E 260 x
def Zl3 (s0 : Int) : Option Int := (Abs.Run E 260 (E.at 260 []) ⟨mkSlots [(0, (.val (.int .u8) s0))], assocB [], assocR []⟩)
def c_puny_lay (x : ((List Int) × (Int × Int))) : Option (List Int) := Abs.Call E 270 x
def Zm3 (s0 : Int) (s1 : Int) (r2 : List Int) : Option (List Int) := (Abs.Run E 270 (E.at 270 []) ⟨mkSlots [(2, (.val (.int .i64) s1)), (1, (.val (.int .i64) s0)), (0, (.row 1073741824))], assocB [], assocR [(1073741824, .mk (.int .u8) .live r2)]⟩)
def Zn3 (s0 : Int) (s1 : Int) (s2 : Int) (r3 : List Int) : Option (List Int) := (Abs.Run E 270 (E.at 270 [1, 1, 0, 7]) ⟨mkSlots [(0, (.row 0)), (1, (.val (.int .i64) s0)), (2, (.val (.int .i64) s1)), (7, (.val (.int .i64) s2))], mkBoxes [], mkRows [.mk (.int .u8) .live r3]⟩)
def c_puny_adapt (x : (Int × (Int × Bool))) : Option Int := Abs.Call E 271 x
def Zo3 (s0 : Int) (s1 : Int) (s2 : Bool) : Option Int := (Abs.Run E 271 (E.at 271 []) ⟨mkSlots [(2, (.val .bool s2)), (1, (.val (.int .i64) s1)), (0, (.val (.int .i64) s0))], assocB [], assocR []⟩)
def Zp3 (s0 : Int) (s1 : Int) (s2 : Bool) : Option Int := (Abs.Run E 271 (E.at 271 [1, 0, 1, 9]) ⟨mkSlots [(0, (.val (.int .i64) s0)), (1, (.val (.int .i64) s1)), (2, (.val .bool s2))], mkBoxes [], mkRows []⟩)
def Zq3 (s0 : Int) (s1 : Int) (s2 : Bool) (s3 : Int) : Option Int := (Abs.Run E 271 (E.at 271 [1, 1, 1, 1, 0, 0, 7]) ⟨mkSlots [(0, (.val (.int .i64) s0)), (1, (.val (.int .i64) s1)), (2, (.val .bool s2)), (7, (.val (.int .i64) s3))], mkBoxes [], mkRows []⟩)
def c_strings_LastIndexByte (x : (List UInt8 × Int)) : Option Int := Abs.Call E 275 x
def Zr3 (s0 : List UInt8) (s1 : Int) : Option Int := (Abs.Run E 275 (E.at 275 []) ⟨mkSlots [(1, (.val (.int .u8) s1)), (0, (.val .str s0))], assocB [], assocR []⟩)
def c_puny_number (x : (List UInt8 × (Int × (Int × Int)))) : Option (Int × (Int × (Int × Int))) := Abs.Call E 276 x
def Zs3 (s0 : List UInt8) (s1 : Int) (s2 : Int) (s3 : Int) : Option (Int × (Int × (Int × Int))) := (Abs.Run E 276 (E.at 276 []) ⟨mkSlots [(3, (.val (.int .i64) s3)), (2, (.val (.int .i64) s2)), (1, (.val (.int .i64) s1)), (0, (.val .str s0))], assocB [], assocR []⟩)
def Zt3 (s0 : List UInt8) (s1 : Int) (s2 : Int) (s3 : Int) (s4 : Int) (s5 : Int) (s6 : Int) : Option (Int × (Int × (Int × Int))) := (Abs.Run E 276 (E.at 276 [1, 1, 1, 1, 0, 7]) ⟨mkSlots [(0, (.val .str s0)), (1, (.val (.int .i64) s1)), (2, (.val (.int .i64) s2)), (3, (.val (.int .i64) s3)), (12, (.val (.int .i64) s4)), (13, (.val (.int .i64) s5)), (14, (.val (.int .i64) s6))], mkBoxes [], mkRows []⟩)
def Zu3 (s0 : List UInt8) (s1 : Int) (s2 : Int) (s3 : Int) (s4 : Int) (s5 : Int) (s6 : Int) (s7 : Int) : Option (Int × (Int × (Int × Int))) := (Abs.Run E 276 (E.at 276 [1, 1, 1, 1, 0, 0, 0, 0, 1, 1, 0, 1, 1, 9]) ⟨mkSlots [(0, (.val .str s0)), (1, (.val (.int .i64) s1)), (2, (.val (.int .i64) s2)), (3, (.val (.int .i64) s3)), (12, (.val (.int .i64) s4)), (13, (.val (.int .i64) s5)), (14, (.val (.int .i64) s6)), (15, (.val (.int .i64) s7))], mkBoxes [], mkRows []⟩)
def c_slices_Insert_rune_rune (x : ((List Int) × (Int × (List Int)))) : Option (List Int) := Abs.Call E 277 x
def c_utf8_appendRuneNonASCII (x : ((List Int) × Int)) : Option (List Int) := Abs.Call E 282 x
def Zv3 (s0 : Int) (r1 : List Int) : Option (List Int) := (Abs.Run E 282 (E.at 282 []) ⟨mkSlots [(1, (.val (.int .i32) s0)), (0, (.row 1073741824))], assocB [], assocR [(1073741824, .mk (.int .u8) .live r1)]⟩)
def Zw3 (s0 : Int) (s1 : Int) (s2 : Bool) (r3 : List Int) : Option (List Int) := (Abs.Run E 282 (E.at 282 [1, 1, 0, 1, 1, 0, 1, 9]) ⟨mkSlots [(0, (.row 0)), (1, (.val (.int .i32) s0)), (5, (.val (.int .u32) s1)), (25, (.val .bool s2))], mkBoxes [], mkRows [.mk (.int .u8) .live r3]⟩)
def c_utf_second (x : Int) : Option (Int × (Int × Int)) := Abs.Call E 283 x
def Zx3 (s0 : Int) : Option (Int × (Int × Int)) := (Abs.Run E 283 (E.at 283 []) ⟨mkSlots [(0, (.val (.int .u8) s0))], assocB [], assocR []⟩)
def c_puny_threshold (x : (Int × Int)) : Option Int := Abs.Call E 290 x
def Zy3 (s0 : Int) (s1 : Int) : Option Int := (Abs.Run E 290 (E.at 290 []) ⟨mkSlots [(1, (.val (.int .i64) s1)), (0, (.val (.int .i64) s0))], assocB [], assocR []⟩)
def c_ibytealg_LastIndexByteString (x : (List UInt8 × Int)) : Option Int := Abs.Call E 292 x
def Zz3 (s0 : List UInt8) (s1 : Int) : Option Int := (Abs.Run E 292 (E.at 292 []) ⟨mkSlots [(1, (.val (.int .u8) s1)), (0, (.val .str s0))], assocB [], assocR []⟩)
def Z04 (s0 : List UInt8) (s1 : Int) (s2 : Int) : Option Int := (Abs.Run E 292 (E.at 292 [1, 0, 1, 0, 7]) ⟨mkSlots [(0, (.val .str s0)), (1, (.val (.int .u8) s1)), (5, (.val (.int .i64) s2))], mkBoxes [], mkRows []⟩)
theorem c_host_Parse_eq (x : (List UInt8 × Bool)) : c_host_Parse x =
 Ze1 x.1 x.2 := by kernel_rfl
theorem Ze1_eq (s0 : List UInt8) (s1 : Bool) : Ze1 s0 s1 =
 bif (decide ((((List.length s0) : Nat) : Int) > (65536 : Int))) then
 some (((Ty.zero (.int .i64)), ((Ty.zero .str), ((Ty.zero (.int .u32)), (Ty.zero (.arr 8 (.int .u16)))))), (5 : Int))
 else
 bif (!(s0 == ([] : List UInt8))) then
 bif (inside (0 : Int) (List.length s0)) then
 bif ((((UInt8.toNat (List.getD s0 (Int.toNat (0 : Int)) (0 : UInt8))) : Nat) : Int) == (91 : Int)) then
 bif (inside (IntKind.wrap IntKind.i64 ((((List.length s0) : Nat) : Int) - (1 : Int))) (List.length s0)) then
 bif ((((UInt8.toNat (List.getD s0 (Int.toNat (IntKind.wrap IntKind.i64 ((((List.length s0) : Nat) : Int) - (1 : Int)))) (0 : UInt8))) : Nat) : Int) != (93 : Int)) then
 some (((Ty.zero (.int .i64)), ((Ty.zero .str), ((Ty.zero (.int .u32)), (Ty.zero (.arr 8 (.int .u16)))))), (51 : Int))
 else
 bif (decide ((((List.length s0) : Nat) : Int) < (2 : Int))) then
 some (((Ty.zero (.int .i64)), ((Ty.zero .str), ((Ty.zero (.int .u32)), (Ty.zero (.arr 8 (.int .u16)))))), (51 : Int))
 else
 bif (cutOk (some (1 : Int)) (some (IntKind.wrap IntKind.i64 ((((List.length s0) : Nat) : Int) - (1 : Int)))) (List.length s0)) then
 (c_host_IPv6 (cutList (some (1 : Int)) (some (IntKind.wrap IntKind.i64 ((((List.length s0) : Nat) : Int) - (1 : Int)))) s0)).bind fun y0 =>
 bif (y0.2 != (0 : Int)) then
 some (((Ty.zero (.int .i64)), ((Ty.zero .str), ((Ty.zero (.int .u32)), (Ty.zero (.arr 8 (.int .u16)))))), y0.2)
 else
 some (((3 : Int), ((Ty.zero .str), ((Ty.zero (.int .u32)), y0.1))), (0 : Int))
 else
 none
 else
 none
 else
 bif (!s1) then
 bif (s0 == ([] : List UInt8)) then
 some (((5 : Int), ((Ty.zero .str), ((Ty.zero (.int .u32)), (Ty.zero (.arr 8 (.int .u16)))))), (0 : Int))
 else
 bif (!s1) then
 (c_strings_ContainsAny (s0, ([(0 : UInt8), (9 : UInt8), (10 : UInt8), (13 : UInt8), (32 : UInt8), (35 : UInt8), (47 : UInt8), (58 : UInt8), (60 : UInt8), (62 : UInt8), (63 : UInt8), (64 : UInt8), (91 : UInt8), (92 : UInt8), (93 : UInt8), (94 : UInt8), (124 : UInt8)] : List UInt8))).bind fun y0 =>
 bif y0 then
 some (((Ty.zero (.int .i64)), ((Ty.zero .str), ((Ty.zero (.int .u32)), (Ty.zero (.arr 8 (.int .u16)))))), (52 : Int))
 else
 (c_percent_EncodeText ((1 : Int), s0)).bind fun y1 =>
 bif (decide ((((List.length y1.1) : Nat) : Int) > (65536 : Int))) then
 some (((Ty.zero (.int .i64)), ((Ty.zero .str), ((Ty.zero (.int .u32)), (Ty.zero (.arr 8 (.int .u16)))))), (5 : Int))
 else
 some (((4 : Int), (y1.1, ((Ty.zero (.int .u32)), (Ty.zero (.arr 8 (.int .u16)))))), (0 : Int))
 else
 (c_percent_DecodeText s0).bind fun y0 =>
 (c_host_ToASCII y0).bind fun y1 =>
 bif (y1.2 != (0 : Int)) then
 some (((Ty.zero (.int .i64)), ((Ty.zero .str), ((Ty.zero (.int .u32)), (Ty.zero (.arr 8 (.int .u16)))))), y1.2)
 else
 bif (y1.1 == ([] : List UInt8)) then
 some (((Ty.zero (.int .i64)), ((Ty.zero .str), ((Ty.zero (.int .u32)), (Ty.zero (.arr 8 (.int .u16)))))), (51 : Int))
 else
 Zf1 s0 s1 y1.1 (((List.length y1.1) : Nat) : Int) (0 : Int) ((Ty.zero (.int .i64)), ((Ty.zero .str), ((Ty.zero (.int .u32)), (Ty.zero (.arr 8 (.int .u16))))))
 else
 bif (!s1) then
 (c_strings_ContainsAny (s0, ([(0 : UInt8), (9 : UInt8), (10 : UInt8), (13 : UInt8), (32 : UInt8), (35 : UInt8), (47 : UInt8), (58 : UInt8), (60 : UInt8), (62 : UInt8), (63 : UInt8), (64 : UInt8), (91 : UInt8), (92 : UInt8), (93 : UInt8), (94 : UInt8), (124 : UInt8)] : List UInt8))).bind fun y0 =>
 bif y0 then
 some (((Ty.zero (.int .i64)), ((Ty.zero .str), ((Ty.zero (.int .u32)), (Ty.zero (.arr 8 (.int .u16)))))), (52 : Int))
 else
 (c_percent_EncodeText ((1 : Int), s0)).bind fun y1 =>
 bif (decide ((((List.length y1.1) : Nat) : Int) > (65536 : Int))) then
 some (((Ty.zero (.int .i64)), ((Ty.zero .str), ((Ty.zero (.int .u32)), (Ty.zero (.arr 8 (.int .u16)))))), (5 : Int))
 else
 some (((4 : Int), (y1.1, ((Ty.zero (.int .u32)), (Ty.zero (.arr 8 (.int .u16)))))), (0 : Int))
 else
 (c_percent_DecodeText s0).bind fun y0 =>
 (c_host_ToASCII y0).bind fun y1 =>
 bif (y1.2 != (0 : Int)) then
 some (((Ty.zero (.int .i64)), ((Ty.zero .str), ((Ty.zero (.int .u32)), (Ty.zero (.arr 8 (.int .u16)))))), y1.2)
 else
 bif (y1.1 == ([] : List UInt8)) then
 some (((Ty.zero (.int .i64)), ((Ty.zero .str), ((Ty.zero (.int .u32)), (Ty.zero (.arr 8 (.int .u16)))))), (51 : Int))
 else
 Zf1 s0 s1 y1.1 (((List.length y1.1) : Nat) : Int) (0 : Int) ((Ty.zero (.int .i64)), ((Ty.zero .str), ((Ty.zero (.int .u32)), (Ty.zero (.arr 8 (.int .u16))))))
 else
 none
 else
 bif (!s1) then
 bif (s0 == ([] : List UInt8)) then
 some (((5 : Int), ((Ty.zero .str), ((Ty.zero (.int .u32)), (Ty.zero (.arr 8 (.int .u16)))))), (0 : Int))
 else
 bif (!s1) then
 (c_strings_ContainsAny (s0, ([(0 : UInt8), (9 : UInt8), (10 : UInt8), (13 : UInt8), (32 : UInt8), (35 : UInt8), (47 : UInt8), (58 : UInt8), (60 : UInt8), (62 : UInt8), (63 : UInt8), (64 : UInt8), (91 : UInt8), (92 : UInt8), (93 : UInt8), (94 : UInt8), (124 : UInt8)] : List UInt8))).bind fun y0 =>
 bif y0 then
 some (((Ty.zero (.int .i64)), ((Ty.zero .str), ((Ty.zero (.int .u32)), (Ty.zero (.arr 8 (.int .u16)))))), (52 : Int))
 else
 (c_percent_EncodeText ((1 : Int), s0)).bind fun y1 =>
 bif (decide ((((List.length y1.1) : Nat) : Int) > (65536 : Int))) then
 some (((Ty.zero (.int .i64)), ((Ty.zero .str), ((Ty.zero (.int .u32)), (Ty.zero (.arr 8 (.int .u16)))))), (5 : Int))
 else
 some (((4 : Int), (y1.1, ((Ty.zero (.int .u32)), (Ty.zero (.arr 8 (.int .u16)))))), (0 : Int))
 else
 (c_percent_DecodeText s0).bind fun y0 =>
 (c_host_ToASCII y0).bind fun y1 =>
 bif (y1.2 != (0 : Int)) then
 some (((Ty.zero (.int .i64)), ((Ty.zero .str), ((Ty.zero (.int .u32)), (Ty.zero (.arr 8 (.int .u16)))))), y1.2)
 else
 bif (y1.1 == ([] : List UInt8)) then
 some (((Ty.zero (.int .i64)), ((Ty.zero .str), ((Ty.zero (.int .u32)), (Ty.zero (.arr 8 (.int .u16)))))), (51 : Int))
 else
 Zf1 s0 s1 y1.1 (((List.length y1.1) : Nat) : Int) (0 : Int) ((Ty.zero (.int .i64)), ((Ty.zero .str), ((Ty.zero (.int .u32)), (Ty.zero (.arr 8 (.int .u16))))))
 else
 bif (!s1) then
 (c_strings_ContainsAny (s0, ([(0 : UInt8), (9 : UInt8), (10 : UInt8), (13 : UInt8), (32 : UInt8), (35 : UInt8), (47 : UInt8), (58 : UInt8), (60 : UInt8), (62 : UInt8), (63 : UInt8), (64 : UInt8), (91 : UInt8), (92 : UInt8), (93 : UInt8), (94 : UInt8), (124 : UInt8)] : List UInt8))).bind fun y0 =>
 bif y0 then
 some (((Ty.zero (.int .i64)), ((Ty.zero .str), ((Ty.zero (.int .u32)), (Ty.zero (.arr 8 (.int .u16)))))), (52 : Int))
 else
 (c_percent_EncodeText ((1 : Int), s0)).bind fun y1 =>
 bif (decide ((((List.length y1.1) : Nat) : Int) > (65536 : Int))) then
 some (((Ty.zero (.int .i64)), ((Ty.zero .str), ((Ty.zero (.int .u32)), (Ty.zero (.arr 8 (.int .u16)))))), (5 : Int))
 else
 some (((4 : Int), (y1.1, ((Ty.zero (.int .u32)), (Ty.zero (.arr 8 (.int .u16)))))), (0 : Int))
 else
 (c_percent_DecodeText s0).bind fun y0 =>
 (c_host_ToASCII y0).bind fun y1 =>
 bif (y1.2 != (0 : Int)) then
 some (((Ty.zero (.int .i64)), ((Ty.zero .str), ((Ty.zero (.int .u32)), (Ty.zero (.arr 8 (.int .u16)))))), y1.2)
 else
 bif (y1.1 == ([] : List UInt8)) then
 some (((Ty.zero (.int .i64)), ((Ty.zero .str), ((Ty.zero (.int .u32)), (Ty.zero (.arr 8 (.int .u16)))))), (51 : Int))
 else
 Zf1 s0 s1 y1.1 (((List.length y1.1) : Nat) : Int) (0 : Int) ((Ty.zero (.int .i64)), ((Ty.zero .str), ((Ty.zero (.int .u32)), (Ty.zero (.arr 8 (.int .u16)))))) := by unfold Ze1; rewrite [Run_unfold]; kernel_rfl
theorem Zf1_eq (s0 : List UInt8) (s1 : Bool) (s2 : List UInt8) (s3 : Int) (s4 : Int) (b5 : D35) : Zf1 s0 s1 s2 s3 s4 b5 =
 bif (decide (s4 < s3)) then
 bif (inside s4 (List.length s2)) then
 bif (decide ((((UInt8.toNat (List.getD s2 (Int.toNat s4) (0 : UInt8))) : Nat) : Int) < (32 : Int))) then
 some (((Ty.zero (.int .i64)), ((Ty.zero .str), ((Ty.zero (.int .u32)), (Ty.zero (.arr 8 (.int .u16)))))), (52 : Int))
 else
 bif ((((UInt8.toNat (List.getD s2 (Int.toNat s4) (0 : UInt8))) : Nat) : Int) == (37 : Int)) then
 some (((Ty.zero (.int .i64)), ((Ty.zero .str), ((Ty.zero (.int .u32)), (Ty.zero (.arr 8 (.int .u16)))))), (52 : Int))
 else
 bif ((((UInt8.toNat (List.getD s2 (Int.toNat s4) (0 : UInt8))) : Nat) : Int) == (127 : Int)) then
 some (((Ty.zero (.int .i64)), ((Ty.zero .str), ((Ty.zero (.int .u32)), (Ty.zero (.arr 8 (.int .u16)))))), (52 : Int))
 else
 (c_strings_IndexByte (([(0 : UInt8), (9 : UInt8), (10 : UInt8), (13 : UInt8), (32 : UInt8), (35 : UInt8), (47 : UInt8), (58 : UInt8), (60 : UInt8), (62 : UInt8), (63 : UInt8), (64 : UInt8), (91 : UInt8), (92 : UInt8), (93 : UInt8), (94 : UInt8), (124 : UInt8)] : List UInt8), (((UInt8.toNat (List.getD s2 (Int.toNat s4) (0 : UInt8))) : Nat) : Int))).bind fun y0 =>
 bif (decide (y0 ≥ (0 : Int))) then
 some (((Ty.zero (.int .i64)), ((Ty.zero .str), ((Ty.zero (.int .u32)), (Ty.zero (.arr 8 (.int .u16)))))), (52 : Int))
 else
 Zf1 s0 s1 s2 s3 (IntKind.wrap IntKind.i64 (s4 + (1 : Int))) b5
 else
 none
 else
 (c_host_EndsInNumber s2).bind fun y0 =>
 bif y0 then
 (c_host_IPv4 s2).bind fun y1 =>
 bif (y1.2 != (0 : Int)) then
 some (((Ty.zero (.int .i64)), ((Ty.zero .str), ((Ty.zero (.int .u32)), (Ty.zero (.arr 8 (.int .u16)))))), y1.2)
 else
 some (((2 : Int), ((Ty.zero .str), (y1.1, (Ty.zero (.arr 8 (.int .u16)))))), (0 : Int))
 else
 some (((1 : Int), (s2, ((Ty.zero (.int .u32)), (Ty.zero (.arr 8 (.int .u16)))))), (0 : Int)) := by unfold Zf1; rewrite [Run_unfold]; kernel_rfl
theorem c_host_ToASCII_eq (x : List UInt8) : c_host_ToASCII x =
 Zg1 x := by kernel_rfl
theorem Zg1_eq (s0 : List UInt8) : Zg1 s0 =
 (c_utf_Valid s0).bind fun y0 =>
 bif (!y0.1) then
 some (([] : List UInt8), (21 : Int))
 else
 bif (decide ((((List.length s0) : Nat) : Int) > (65536 : Int))) then
 some (([] : List UInt8), (5 : Int))
 else
 bif (s0 == ([] : List UInt8)) then
 some (([] : List UInt8), (0 : Int))
 else
 Zh1 s0 (0 : Int) s0 0 ([] : List (List UInt8)) := by unfold Zg1; rewrite [Run_unfold]; kernel_rfl
theorem Zh1_eq (s0 : List UInt8) (s1 : Int) (t2 : List UInt8) (n3 : Nat) (r4 : List (List UInt8)) : Zh1 s0 s1 t2 n3 r4 =
 bif (decide (n3 < (List.length t2))) then
 (c_host_dot (((decRune t2 n3).1 : Nat) : Int)).bind fun y0 =>
 bif y0 then
 bif (cutOk (some s1) (some ((n3 : Nat) : Int)) (List.length s0)) then
 bif (decide (((List.length r4) + (List.length ([(cutList (some s1) (some ((n3 : Nat) : Int)) s0)] : List (List UInt8)))) ≤ (lim))) then
 Zh1 s0 (IntKind.wrap IntKind.i64 (((n3 : Nat) : Int) + (((List.length (encRune (((decRune t2 n3).1 : Nat) : Int))) : Nat) : Int))) t2 (n3 + (decRune t2 n3).2) (r4 ++ ([(cutList (some s1) (some ((n3 : Nat) : Int)) s0)] : List (List UInt8)))
 else
 none
 else
 none
 else
 Zh1 s0 s1 t2 (n3 + (decRune t2 n3).2) r4
 else
 bif (cutOk (some s1) none (List.length s0)) then
 bif (decide (((List.length r4) + (List.length ([(cutList (some s1) none s0)] : List (List UInt8)))) ≤ (lim))) then
 Zi1 s0 (((List.length (r4 ++ ([(cutList (some s1) none s0)] : List (List UInt8)))) : Nat) : Int) (0 : Int) (r4 ++ ([(cutList (some s1) none s0)] : List (List UInt8)))
 else
 none
 else
 none := by unfold Zh1; rewrite [Run_unfold]; kernel_rfl
theorem Zi1_eq (s0 : List UInt8) (s1 : Int) (s2 : Int) (r3 : List (List UInt8)) : Zi1 s0 s1 s2 r3 =
 bif (decide (s2 < s1)) then
 bif (inside s2 (List.length r3)) then
 bif (s2 == (IntKind.wrap IntKind.i64 ((((List.length r3) : Nat) : Int) - (1 : Int)))) then
 (c_host_label ((List.getD r3 (Int.toNat s2) (Ty.zero .str)), (decide (s2 > (0 : Int))))).bind fun y0 =>
 bif (y0.2 != (0 : Int)) then
 some (([] : List UInt8), y0.2)
 else
 bif (inside s2 (List.length r3)) then
 Zi1 s0 s1 (IntKind.wrap IntKind.i64 (s2 + (1 : Int))) (List.set r3 (Int.toNat s2) y0.1)
 else
 none
 else
 (c_host_label ((List.getD r3 (Int.toNat s2) (Ty.zero .str)), false)).bind fun y0 =>
 bif (y0.2 != (0 : Int)) then
 some (([] : List UInt8), y0.2)
 else
 bif (inside s2 (List.length r3)) then
 Zi1 s0 s1 (IntKind.wrap IntKind.i64 (s2 + (1 : Int))) (List.set r3 (Int.toNat s2) y0.1)
 else
 none
 else
 none
 else
 (c_strings_Join (r3, ([(46 : UInt8)] : List UInt8))).bind fun y0 =>
 (c_strings_TrimSuffix (y0, ([(46 : UInt8)] : List UInt8))).bind fun y1 =>
 bif (decide ((((List.length y1) : Nat) : Int) > (253 : Int))) then
 some (([] : List UInt8), (5 : Int))
 else
 some (y0, (0 : Int)) := by unfold Zi1; rewrite [Run_unfold]; kernel_rfl
theorem c_octets_Upper_eq (x : List UInt8) : c_octets_Upper x =
 Zj1 x := by kernel_rfl
theorem Zj1_eq (s0 : List UInt8) : Zj1 s0 =
 (c_octets_turned (s0, ((97 : Int), (122 : Int)))).bind fun y0 =>
 some y0 := by unfold Zj1; rewrite [Run_unfold]; kernel_rfl
theorem c_strings_ContainsAny_eq (x : (List UInt8 × List UInt8)) : c_strings_ContainsAny x =
 Zk1 x.1 x.2 := by kernel_rfl
theorem Zk1_eq (s0 : List UInt8) (s1 : List UInt8) : Zk1 s0 s1 =
 (c_strings_IndexAny (s0, s1)).bind fun y0 =>
 some (decide (y0 ≥ (0 : Int))) := by unfold Zk1; rewrite [Run_unfold]; kernel_rfl
theorem c_percent_EncodeText_eq (x : (Int × List UInt8)) : c_percent_EncodeText x =
 Zl1 x.1 x.2 := by kernel_rfl
theorem Zl1_eq (s0 : Int) (s1 : List UInt8) : Zl1 s0 s1 =
 (c_utf_WebFix s1).bind fun y0 =>
 (c_percent_Encode (s0, (bytesOf y0))).bind fun y1 =>
 some (y1.1, y1.2) := by unfold Zl1; rewrite [Run_unfold]; kernel_rfl
theorem c_percent_DecodeText_eq (x : List UInt8) : c_percent_DecodeText x =
 Zm1 x := by kernel_rfl
theorem Zm1_eq (s0 : List UInt8) : Zm1 s0 =
 (c_percent_Decode s0).bind fun y0 =>
 (c_utf_WebFix (strOf y0)).bind fun y1 =>
 some y1 := by unfold Zm1; rewrite [Run_unfold]; kernel_rfl
theorem c_utf_Valid_eq (x : List UInt8) : c_utf_Valid x =
 Zn1 x := by kernel_rfl
theorem Zn1_eq (s0 : List UInt8) : Zn1 s0 =
 Zo1 s0 s0 0 := by unfold Zn1; rewrite [Run_unfold]; kernel_rfl
theorem Zo1_eq (s0 : List UInt8) (t1 : List UInt8) (n2 : Nat) : Zo1 s0 t1 n2 =
 bif (decide (n2 < (List.length t1))) then
 (c_utf_at (s0, ((n2 : Nat) : Int))).bind fun y0 =>
 bif y0.2.2.2 then
 some (false, ((n2 : Nat) : Int))
 else
 Zo1 s0 t1 (n2 + (decRune t1 n2).2)
 else
 some (true, (0 : Int)) := by unfold Zo1; rewrite [Run_unfold]; kernel_rfl
theorem c_host_dot_eq (x : Int) : c_host_dot x =
 Zp1 x := by kernel_rfl
theorem Zp1_eq (s0 : Int) : Zp1 s0 =
 bif (s0 == (46 : Int)) then
 some true
 else
 bif (s0 == (12290 : Int)) then
 some true
 else
 bif (s0 == (65294 : Int)) then
 some true
 else
 some (s0 == (65377 : Int)) := by unfold Zp1; rewrite [Run_unfold]; kernel_rfl
theorem c_host_label_eq (x : (List UInt8 × Bool)) : c_host_label x =
 Zq1 x.1 x.2 := by kernel_rfl
theorem Zq1_eq (s0 : List UInt8) (s1 : Bool) : Zq1 s0 s1 =
 (c_octets_Lower s0).bind fun y0 =>
 (c_host_hasRune (y0, (65533 : Int))).bind fun y1 =>
 (c_host_basic y0).bind fun y2 =>
 bif (!y2) then
 bif (!y1) then
 (c_puny_Label y0).bind fun y3 =>
 bif (y3.2 != (0 : Int)) then
 some (([] : List UInt8), (53 : Int))
 else
 Zr1 y3.1 s1 y1
 else
 Zr1 y0 s1 y1
 else
 Zr1 y0 s1 y1 := by unfold Zq1; rewrite [Run_unfold]; kernel_rfl
theorem Zr1_eq (s0 : List UInt8) (s1 : Bool) (s2 : Bool) : Zr1 s0 s1 s2 =
 bif s2 then
 some (([] : List UInt8), (53 : Int))
 else
 bif (decide ((((List.length s0) : Nat) : Int) > (63 : Int))) then
 some (([] : List UInt8), (53 : Int))
 else
 bif (s0 == ([] : List UInt8)) then
 bif (!s1) then
 some (([] : List UInt8), (53 : Int))
 else
 (c_strings_HasPrefix (s0, ([(120 : UInt8), (110 : UInt8), (45 : UInt8), (45 : UInt8)] : List UInt8))).bind fun y0 =>
 bif y0 then
 (c_puny_Unlabel s0).bind fun y1 =>
 bif (y1.2 != (0 : Int)) then
 some (([] : List UInt8), (53 : Int))
 else
 (c_host_hasRune (y1.1, (65533 : Int))).bind fun y2 =>
 bif y2 then
 some (([] : List UInt8), (53 : Int))
 else
 (c_strings_IndexFunc__host_dot (y1.1, ())).bind fun y3 =>
 bif (decide (y3 ≥ (0 : Int))) then
 some (([] : List UInt8), (53 : Int))
 else
 some (s0, (0 : Int))
 else
 some (s0, (0 : Int))
 else
 (c_strings_HasPrefix (s0, ([(120 : UInt8), (110 : UInt8), (45 : UInt8), (45 : UInt8)] : List UInt8))).bind fun y0 =>
 bif y0 then
 (c_puny_Unlabel s0).bind fun y1 =>
 bif (y1.2 != (0 : Int)) then
 some (([] : List UInt8), (53 : Int))
 else
 (c_host_hasRune (y1.1, (65533 : Int))).bind fun y2 =>
 bif y2 then
 some (([] : List UInt8), (53 : Int))
 else
 (c_strings_IndexFunc__host_dot (y1.1, ())).bind fun y3 =>
 bif (decide (y3 ≥ (0 : Int))) then
 some (([] : List UInt8), (53 : Int))
 else
 some (s0, (0 : Int))
 else
 some (s0, (0 : Int)) := by unfold Zr1; rewrite [Run_unfold]; kernel_rfl
theorem c_strings_Join_eq (x : ((List (List UInt8)) × List UInt8)) : c_strings_Join x = primJoin x := by kernel_rfl
theorem c_strings_TrimSuffix_eq (x : (List UInt8 × List UInt8)) : c_strings_TrimSuffix x =
 Zs1 x.1 x.2 := by kernel_rfl
theorem Zs1_eq (s0 : List UInt8) (s1 : List UInt8) : Zs1 s0 s1 =
 (c_istringslite_TrimSuffix (s0, s1)).bind fun y0 =>
 some y0 := by unfold Zs1; rewrite [Run_unfold]; kernel_rfl
theorem c_puny_Unlabel_eq (x : List UInt8) : c_puny_Unlabel x =
 Zt1 x := by kernel_rfl
theorem Zt1_eq (s0 : List UInt8) : Zt1 s0 =
 bif (decide ((((List.length s0) : Nat) : Int) < (4 : Int))) then
 some (s0, (0 : Int))
 else
 bif (cutOk none (some (4 : Int)) (List.length s0)) then
 (c_octets_Lower (cutList none (some (4 : Int)) s0)).bind fun y0 =>
 bif (!(y0 == ([(120 : UInt8), (110 : UInt8), (45 : UInt8), (45 : UInt8)] : List UInt8))) then
 some (s0, (0 : Int))
 else
 bif (cutOk (some (4 : Int)) none (List.length s0)) then
 (c_puny_Decode (cutList (some (4 : Int)) none s0)).bind fun y1 =>
 bif (y1.2.1 != (0 : Int)) then
 some (([] : List UInt8), y1.2.1)
 else
 (c_puny_Label y1.1).bind fun y2 =>
 bif (y2.2 != (0 : Int)) then
 some (([] : List UInt8), (31 : Int))
 else
 (c_puny_basic y1.1).bind fun y3 =>
 bif y3 then
 some (([] : List UInt8), (31 : Int))
 else
 (c_octets_Same (y2.1, s0)).bind fun y4 =>
 bif (!y4) then
 some (([] : List UInt8), (31 : Int))
 else
 some (y1.1, (0 : Int))
 else
 none
 else
 none := by unfold Zt1; rewrite [Run_unfold]; kernel_rfl
theorem c_strings_IndexAny_eq (x : (List UInt8 × List UInt8)) : c_strings_IndexAny x =
 Zu1 x.1 x.2 := by kernel_rfl
theorem Zu1_eq (s0 : List UInt8) (s1 : List UInt8) : Zu1 s0 s1 =
 bif (s1 == ([] : List UInt8)) then
 some (-(1 : Int))
 else
 bif ((((List.length s1) : Nat) : Int) == (1 : Int)) then
 bif (inside (0 : Int) (List.length s1)) then
 bif (decide ((IntKind.wrap IntKind.i32 (((UInt8.toNat (List.getD s1 (Int.toNat (0 : Int)) (0 : UInt8))) : Nat) : Int)) ≥ (128 : Int))) then
 Zv1 s0 s1 (65533 : Int)
 else
 Zv1 s0 s1 (IntKind.wrap IntKind.i32 (((UInt8.toNat (List.getD s1 (Int.toNat (0 : Int)) (0 : UInt8))) : Nat) : Int))
 else
 none
 else
 (c_strings_shouldUseASCIISet (((List.length s0) : Nat) : Int)).bind fun y0 =>
 bif y0 then
 (c_strings_makeASCIISet s1).bind fun y1 =>
 bif y1.2 then
 Zw1 s0 s1 (0 : Int) y1.1
 else
 Zx1 s0 s1
 else
 Zx1 s0 s1 := by unfold Zu1; rewrite [Run_unfold]; kernel_rfl
theorem Zw1_eq (s0 : List UInt8) (s1 : List UInt8) (s2 : Int) (b3 : (List Bool)) : Zw1 s0 s1 s2 b3 =
 bif (decide (s2 < (((List.length s0) : Nat) : Int))) then
 bif (inside s2 (List.length s0)) then
 (c_strings_asciiSet_contains (b3, (((UInt8.toNat (List.getD s0 (Int.toNat s2) (0 : UInt8))) : Nat) : Int))).bind fun y0 =>
 bif y0.1 then
 some s2
 else
 Zw1 s0 s1 (IntKind.wrap IntKind.i64 (s2 + (1 : Int))) y0.2
 else
 none
 else
 some (-(1 : Int)) := by unfold Zw1; rewrite [Run_unfold]; kernel_rfl
theorem Zx1_eq (s0 : List UInt8) (s1 : List UInt8) : Zx1 s0 s1 =
 Zy1 s0 s1 s0 0 := by unfold Zx1; rewrite [Run_unfold]; kernel_rfl
theorem Zy1_eq (s0 : List UInt8) (s1 : List UInt8) (t2 : List UInt8) (n3 : Nat) : Zy1 s0 s1 t2 n3 =
 bif (decide (n3 < (List.length t2))) then
 (c_strings_IndexRune (s1, (((decRune t2 n3).1 : Nat) : Int))).bind fun y0 =>
 bif (decide (y0 ≥ (0 : Int))) then
 some ((n3 : Nat) : Int)
 else
 Zy1 s0 s1 t2 (n3 + (decRune t2 n3).2)
 else
 some (-(1 : Int)) := by unfold Zy1; rewrite [Run_unfold]; kernel_rfl
theorem c_percent_Encode_eq (x : (Int × (List Int))) : c_percent_Encode x =
 Zz1 x.1 x.2 := by kernel_rfl
theorem Zz1_eq (s0 : Int) (s1 : (List Int)) : Zz1 s0 s1 =
 (c_percent_isSet s0).bind fun y0 =>
 bif (!y0) then
 some (([] : List UInt8), (42 : Int))
 else
 (c_percent_all ()).bind fun y1 =>
 bif (inside s0 9) then
 Z02 s0 s1 s1 (((List.length s1) : Nat) : Int) (0 : Int) (List.getD y1 (Int.toNat s0) (Ty.zero (.arr 256 .bool))) ([] : List Int)
 else
 none := by unfold Zz1; rewrite [Run_unfold]; kernel_rfl
theorem Z02_eq (s0 : Int) (s1 : (List Int)) (s2 : (List Int)) (s3 : Int) (s4 : Int) (b5 : (List Bool)) (r6 : List Int) : Z02 s0 s1 s2 s3 s4 b5 r6 =
 bif (decide (s4 < s3)) then
 bif (inside s4 (List.length s2)) then
 bif (inside (List.getD s2 (Int.toNat s4) (Ty.zero (.int .u8))) 256) then
 bif (List.getD b5 (Int.toNat (List.getD s2 (Int.toNat s4) (Ty.zero (.int .u8)))) (Ty.zero .bool)) then
 (c_percent_escape (r6, (List.getD s2 (Int.toNat s4) (Ty.zero (.int .u8))))).bind fun y0 =>
 Z02 s0 s1 s2 s3 (IntKind.wrap IntKind.i64 (s4 + (1 : Int))) b5 y0
 else
 bif (decide (((List.length r6) + (List.length ([(List.getD s2 (Int.toNat s4) (Ty.zero (.int .u8)))] : List Int))) ≤ (lim))) then
 Z02 s0 s1 s2 s3 (IntKind.wrap IntKind.i64 (s4 + (1 : Int))) b5 (r6 ++ ([(List.getD s2 (Int.toNat s4) (Ty.zero (.int .u8)))] : List Int))
 else
 none
 else
 none
 else
 none
 else
 some ((strOf r6), (0 : Int)) := by unfold Z02; rewrite [Run_unfold]; kernel_rfl
theorem c_utf_WebFix_eq (x : List UInt8) : c_utf_WebFix x =
 Z12 x := by kernel_rfl
theorem Z12_eq (s0 : List UInt8) : Z12 s0 =
 (c_utf_WebPieces s0).bind fun y0 =>
 (c_utf_told y0).bind fun y1 =>
 some y1 := by unfold Z12; rewrite [Run_unfold]; kernel_rfl
theorem c_percent_Decode_eq (x : List UInt8) : c_percent_Decode x =
 Z22 x := by kernel_rfl
theorem Z22_eq (s0 : List UInt8) : Z22 s0 =
 Z32 s0 (0 : Int) ([] : List Int) := by unfold Z22; rewrite [Run_unfold]; kernel_rfl
theorem Z32_eq (s0 : List UInt8) (s1 : Int) (r2 : List Int) : Z32 s0 s1 r2 =
 bif (decide (s1 < (((List.length s0) : Nat) : Int))) then
 (c_percent_triple (s0, s1)).bind fun y0 =>
 bif (decide (y0 ≥ (0 : Int))) then
 bif (decide (((List.length r2) + (List.length ([(IntKind.wrap IntKind.u8 y0)] : List Int))) ≤ (lim))) then
 Z32 s0 (IntKind.wrap IntKind.i64 ((IntKind.wrap IntKind.i64 (s1 + (2 : Int))) + (1 : Int))) (r2 ++ ([(IntKind.wrap IntKind.u8 y0)] : List Int))
 else
 none
 else
 bif (inside s1 (List.length s0)) then
 bif (decide (((List.length r2) + (List.length ([(((UInt8.toNat (List.getD s0 (Int.toNat s1) (0 : UInt8))) : Nat) : Int)] : List Int))) ≤ (lim))) then
 Z32 s0 (IntKind.wrap IntKind.i64 (s1 + (1 : Int))) (r2 ++ ([(((UInt8.toNat (List.getD s0 (Int.toNat s1) (0 : UInt8))) : Nat) : Int)] : List Int))
 else
 none
 else
 none
 else
 some r2 := by unfold Z32; rewrite [Run_unfold]; kernel_rfl
theorem c_utf_at_eq (x : (List UInt8 × Int)) : c_utf_at x =
 Z42 x.1 x.2 := by kernel_rfl
theorem Z42_eq (s0 : List UInt8) (s1 : Int) : Z42 s0 s1 =
 bif (cutOk (some s1) none (List.length s0)) then
 (c_utf8_DecodeRuneInString (cutList (some s1) none s0)).bind fun y0 =>
 bif (y0.1 == (65533 : Int)) then
 some (s1, (y0.2, (y0.1, (y0.2 == (1 : Int)))))
 else
 some (s1, (y0.2, (y0.1, false)))
 else
 none := by unfold Z42; rewrite [Run_unfold]; kernel_rfl
theorem c_host_hasRune_eq (x : (List UInt8 × Int)) : c_host_hasRune x =
 Z52 x.1 x.2 := by kernel_rfl
theorem Z52_eq (s0 : List UInt8) (s1 : Int) : Z52 s0 s1 =
 Z62 s0 s1 s0 0 := by unfold Z52; rewrite [Run_unfold]; kernel_rfl
theorem Z62_eq (s0 : List UInt8) (s1 : Int) (t2 : List UInt8) (n3 : Nat) : Z62 s0 s1 t2 n3 =
 bif (decide (n3 < (List.length t2))) then
 bif ((((decRune t2 n3).1 : Nat) : Int) == s1) then
 some true
 else
 Z62 s0 s1 t2 (n3 + (decRune t2 n3).2)
 else
 some false := by unfold Z62; rewrite [Run_unfold]; kernel_rfl
theorem c_host_basic_eq (x : List UInt8) : c_host_basic x =
 Z72 x := by kernel_rfl
theorem Z72_eq (s0 : List UInt8) : Z72 s0 =
 (c_strings_IndexFunc (s0, ())).bind fun y0 =>
 some (decide (y0 < (0 : Int))) := by unfold Z72; rewrite [Run_unfold]; kernel_rfl
theorem c_puny_Label_eq (x : List UInt8) : c_puny_Label x =
 Z82 x := by kernel_rfl
theorem Z82_eq (s0 : List UInt8) : Z82 s0 =
 (c_puny_Encode s0).bind fun y0 =>
 bif (y0.2 != (0 : Int)) then
 some (([] : List UInt8), y0.2)
 else
 (c_puny_basic s0).bind fun y1 =>
 bif y1 then
 some (s0, (0 : Int))
 else
 bif (decide (((List.length ([(120 : UInt8), (110 : UInt8), (45 : UInt8), (45 : UInt8)] : List UInt8)) + (List.length y0.1)) ≤ (2 ^ 62))) then
 some ((([(120 : UInt8), (110 : UInt8), (45 : UInt8), (45 : UInt8)] : List UInt8) ++ y0.1), (0 : Int))
 else
 none := by unfold Z82; rewrite [Run_unfold]; kernel_rfl
theorem c_strings_IndexFunc_eq (x : (List UInt8 × Unit)) : c_strings_IndexFunc x =
 Z92 x.1 x.2 := by kernel_rfl
theorem Z92_eq (s0 : List UInt8) (s1 : Unit) : Z92 s0 s1 =
 (c_strings_indexFunc (s0, (s1, true))).bind fun y0 =>
 some y0 := by unfold Z92; rewrite [Run_unfold]; kernel_rfl
theorem c_strings_IndexFunc__puny_basic_1_eq (x : (List UInt8 × Unit)) : c_strings_IndexFunc__puny_basic_1 x =
 Za2 x.1 x.2 := by kernel_rfl
theorem Za2_eq (s0 : List UInt8) (s1 : Unit) : Za2 s0 s1 =
 (c_strings_indexFunc__puny_basic_1 (s0, (s1, true))).bind fun y0 =>
 some y0 := by unfold Za2; rewrite [Run_unfold]; kernel_rfl
theorem c_strings_IndexFunc__host_dot_eq (x : (List UInt8 × Unit)) : c_strings_IndexFunc__host_dot x =
 Zb2 x.1 x.2 := by kernel_rfl
theorem Zb2_eq (s0 : List UInt8) (s1 : Unit) : Zb2 s0 s1 =
 (c_strings_indexFunc__host_dot (s0, (s1, true))).bind fun y0 =>
 some y0 := by unfold Zb2; rewrite [Run_unfold]; kernel_rfl
theorem c_istringslite_TrimSuffix_eq (x : (List UInt8 × List UInt8)) : c_istringslite_TrimSuffix x =
 Zc2 x.1 x.2 := by kernel_rfl
theorem Zc2_eq (s0 : List UInt8) (s1 : List UInt8) : Zc2 s0 s1 =
 (c_istringslite_HasSuffix (s0, s1)).bind fun y0 =>
 bif y0 then
 bif (cutOk none (some (IntKind.wrap IntKind.i64 ((((List.length s0) : Nat) : Int) - (((List.length s1) : Nat) : Int)))) (List.length s0)) then
 some (cutList none (some (IntKind.wrap IntKind.i64 ((((List.length s0) : Nat) : Int) - (((List.length s1) : Nat) : Int)))) s0)
 else
 none
 else
 some s0 := by unfold Zc2; rewrite [Run_unfold]; kernel_rfl
theorem c_puny_Decode_eq (x : List UInt8) : c_puny_Decode x =
 Zd2 x := by kernel_rfl
theorem Zd2_eq (s0 : List UInt8) : Zd2 s0 =
 bif (decide ((((List.length s0) : Nat) : Int) > (65536 : Int))) then
 some (([] : List UInt8), ((5 : Int), (0 : Int)))
 else
 (c_puny_decode s0).bind fun y0 =>
 some (y0.1, (y0.2.1, y0.2.2)) := by unfold Zd2; rewrite [Run_unfold]; kernel_rfl
theorem c_puny_basic_eq (x : List UInt8) : c_puny_basic x =
 Ze2 x := by kernel_rfl
theorem Ze2_eq (s0 : List UInt8) : Ze2 s0 =
 (c_strings_IndexFunc__puny_basic_1 (s0, ())).bind fun y0 =>
 some (decide (y0 < (0 : Int))) := by unfold Ze2; rewrite [Run_unfold]; kernel_rfl
theorem c_octets_Same_eq (x : (List UInt8 × List UInt8)) : c_octets_Same x =
 Zf2 x.1 x.2 := by kernel_rfl
theorem Zf2_eq (s0 : List UInt8) (s1 : List UInt8) : Zf2 s0 s1 =
 (c_octets_Lower s0).bind fun y0 =>
 (c_octets_Lower s1).bind fun y1 =>
 some (y0 == y1) := by unfold Zf2; rewrite [Run_unfold]; kernel_rfl
theorem c_strings_IndexRune_eq (x : (List UInt8 × Int)) : c_strings_IndexRune x =
 Zg2 x.1 x.2 := by kernel_rfl
theorem Zg2_eq (s0 : List UInt8) (s1 : Int) : Zg2 s0 s1 =
 bif (decide ((0 : Int) ≤ s1)) then
 bif (decide (s1 < (128 : Int))) then
 (c_strings_IndexByte (s0, (IntKind.wrap IntKind.u8 s1))).bind fun y0 =>
 some y0
 else
 bif (s1 == (65533 : Int)) then
 Zh2 s0 s1 s0 0
 else
 (c_utf8_ValidRune s1).bind fun y0 =>
 bif (!y0) then
 some (-(1 : Int))
 else
 Zi2 s0 s1 (encRune s1) (IntKind.wrap IntKind.i64 ((((List.length (encRune s1)) : Nat) : Int) - (1 : Int))) (IntKind.wrap IntKind.i64 ((((List.length (encRune s1)) : Nat) : Int) - (1 : Int)))
 else
 bif (s1 == (65533 : Int)) then
 Zh2 s0 s1 s0 0
 else
 (c_utf8_ValidRune s1).bind fun y0 =>
 bif (!y0) then
 some (-(1 : Int))
 else
 Zi2 s0 s1 (encRune s1) (IntKind.wrap IntKind.i64 ((((List.length (encRune s1)) : Nat) : Int) - (1 : Int))) (IntKind.wrap IntKind.i64 ((((List.length (encRune s1)) : Nat) : Int) - (1 : Int))) := by unfold Zg2; rewrite [Run_unfold]; kernel_rfl
theorem Zi2_eq (s0 : List UInt8) (s1 : Int) (s2 : List UInt8) (s3 : Int) (s4 : Int) : Zi2 s0 s1 s2 s3 s4 =
 bif (decide (s4 < (((List.length s0) : Nat) : Int))) then
 bif (inside s4 (List.length s0)) then
 bif (inside s3 (List.length s2)) then
 bif ((((UInt8.toNat (List.getD s0 (Int.toNat s4) (0 : UInt8))) : Nat) : Int) != (((UInt8.toNat (List.getD s2 (Int.toNat s3) (0 : UInt8))) : Nat) : Int)) then
 bif (cutOk (some (IntKind.wrap IntKind.i64 (s4 + (1 : Int)))) none (List.length s0)) then
 bif (inside s3 (List.length s2)) then
 (c_strings_IndexByte ((cutList (some (IntKind.wrap IntKind.i64 (s4 + (1 : Int)))) none s0), (((UInt8.toNat (List.getD s2 (Int.toNat s3) (0 : UInt8))) : Nat) : Int))).bind fun y0 =>
 bif (decide (y0 < (0 : Int))) then
 some (-(1 : Int))
 else
 Zj2 s0 s1 s2 s3 (IntKind.wrap IntKind.i64 (s4 + (IntKind.wrap IntKind.i64 (y0 + (1 : Int)))))
 else
 none
 else
 none
 else
 Zj2 s0 s1 s2 s3 s4
 else
 none
 else
 none
 else
 some (-(1 : Int)) := by unfold Zi2; rewrite [Run_unfold]; kernel_rfl
theorem c_strings_shouldUseASCIISet_eq (x : Int) : c_strings_shouldUseASCIISet x =
 Zk2 x := by kernel_rfl
theorem Zk2_eq (s0 : Int) : Zk2 s0 =
 some (decide (s0 > (8 : Int))) := by unfold Zk2; rewrite [Run_unfold]; kernel_rfl
theorem c_strings_asciiSet_contains_eq (x : ((List Bool) × Int)) : c_strings_asciiSet_contains x =
 Zl2 x.2 x.1 := by kernel_rfl
theorem Zl2_eq (s0 : Int) (b1 : (List Bool)) : Zl2 s0 b1 =
 bif (inside s0 256) then
 some ((List.getD b1 (Int.toNat s0) (Ty.zero .bool)), b1)
 else
 none := by unfold Zl2; rewrite [Run_unfold]; kernel_rfl
theorem c_percent_isSet_eq (x : Int) : c_percent_isSet x =
 Zm2 x := by kernel_rfl
theorem Zm2_eq (s0 : Int) : Zm2 s0 =
 bif (decide (s0 ≥ (1 : Int))) then
 some (decide (s0 ≤ (8 : Int)))
 else
 some false := by unfold Zm2; rewrite [Run_unfold]; kernel_rfl
theorem c_percent_escape_eq (x : ((List Int) × Int)) : c_percent_escape x =
 Zn2 x.2 x.1 := by kernel_rfl
theorem Zn2_eq (s0 : Int) (r1 : List Int) : Zn2 s0 r1 =
 bif (inside (shr IntKind.u8 s0 (4 : Int)) (List.length ([(48 : UInt8), (49 : UInt8), (50 : UInt8), (51 : UInt8), (52 : UInt8), (53 : UInt8), (54 : UInt8), (55 : UInt8), (56 : UInt8), (57 : UInt8), (65 : UInt8), (66 : UInt8), (67 : UInt8), (68 : UInt8), (69 : UInt8), (70 : UInt8)] : List UInt8))) then
 bif (inside (bits Go.BinOp.and IntKind.u8 s0 (15 : Int)) (List.length ([(48 : UInt8), (49 : UInt8), (50 : UInt8), (51 : UInt8), (52 : UInt8), (53 : UInt8), (54 : UInt8), (55 : UInt8), (56 : UInt8), (57 : UInt8), (65 : UInt8), (66 : UInt8), (67 : UInt8), (68 : UInt8), (69 : UInt8), (70 : UInt8)] : List UInt8))) then
 bif (decide (((List.length r1) + (List.length ([(37 : Int), (((UInt8.toNat (List.getD ([(48 : UInt8), (49 : UInt8), (50 : UInt8), (51 : UInt8), (52 : UInt8), (53 : UInt8), (54 : UInt8), (55 : UInt8), (56 : UInt8), (57 : UInt8), (65 : UInt8), (66 : UInt8), (67 : UInt8), (68 : UInt8), (69 : UInt8), (70 : UInt8)] : List UInt8) (Int.toNat (shr IntKind.u8 s0 (4 : Int))) (0 : UInt8))) : Nat) : Int), (((UInt8.toNat (List.getD ([(48 : UInt8), (49 : UInt8), (50 : UInt8), (51 : UInt8), (52 : UInt8), (53 : UInt8), (54 : UInt8), (55 : UInt8), (56 : UInt8), (57 : UInt8), (65 : UInt8), (66 : UInt8), (67 : UInt8), (68 : UInt8), (69 : UInt8), (70 : UInt8)] : List UInt8) (Int.toNat (bits Go.BinOp.and IntKind.u8 s0 (15 : Int))) (0 : UInt8))) : Nat) : Int)] : List Int))) ≤ (lim))) then
 some (r1 ++ ([(37 : Int), (((UInt8.toNat (List.getD ([(48 : UInt8), (49 : UInt8), (50 : UInt8), (51 : UInt8), (52 : UInt8), (53 : UInt8), (54 : UInt8), (55 : UInt8), (56 : UInt8), (57 : UInt8), (65 : UInt8), (66 : UInt8), (67 : UInt8), (68 : UInt8), (69 : UInt8), (70 : UInt8)] : List UInt8) (Int.toNat (shr IntKind.u8 s0 (4 : Int))) (0 : UInt8))) : Nat) : Int), (((UInt8.toNat (List.getD ([(48 : UInt8), (49 : UInt8), (50 : UInt8), (51 : UInt8), (52 : UInt8), (53 : UInt8), (54 : UInt8), (55 : UInt8), (56 : UInt8), (57 : UInt8), (65 : UInt8), (66 : UInt8), (67 : UInt8), (68 : UInt8), (69 : UInt8), (70 : UInt8)] : List UInt8) (Int.toNat (bits Go.BinOp.and IntKind.u8 s0 (15 : Int))) (0 : UInt8))) : Nat) : Int)] : List Int))
 else
 none
 else
 none
 else
 none := by unfold Zn2; rewrite [Run_unfold]; kernel_rfl
theorem c_utf_told_eq (x : (List D181)) : c_utf_told x =
 Zo2 x := by kernel_rfl
theorem Zo2_eq (s0 : (List D181)) : Zo2 s0 =
 Zp2 s0 s0 (((List.length s0) : Nat) : Int) (0 : Int) := by unfold Zo2; rewrite [Run_unfold]; kernel_rfl
theorem Zp2_eq (s0 : (List D181)) (s1 : (List D181)) (s2 : Int) (s3 : Int) : Zp2 s0 s1 s2 s3 =
 bif (decide (s3 < s2)) then
 bif (inside s3 (List.length s1)) then
 (c_utf8_AppendRune (([] : List Int), (List.getD s1 (Int.toNat s3) (Ty.zero T181)).2.2.1)).bind fun y0 =>
 Zq2 s0 s1 s2 (IntKind.wrap IntKind.i64 (s3 + (1 : Int))) y0
 else
 none
 else
 some (strOf ([] : List Int)) := by unfold Zp2; rewrite [Run_unfold]; kernel_rfl
theorem Zq2_eq (s0 : (List D181)) (s1 : (List D181)) (s2 : Int) (s3 : Int) (r4 : List Int) : Zq2 s0 s1 s2 s3 r4 =
 bif (decide (s3 < s2)) then
 bif (inside s3 (List.length s1)) then
 (c_utf8_AppendRune (r4, (List.getD s1 (Int.toNat s3) (Ty.zero T181)).2.2.1)).bind fun y0 =>
 Zq2 s0 s1 s2 (IntKind.wrap IntKind.i64 (s3 + (1 : Int))) y0
 else
 none
 else
 some (strOf r4) := by unfold Zq2; rewrite [Run_unfold]; kernel_rfl
theorem c_utf_WebPieces_eq (x : List UInt8) : c_utf_WebPieces x =
 Zr2 x := by kernel_rfl
theorem Zr2_eq (s0 : List UInt8) : Zr2 s0 =
 Zs2 s0 (0 : Int) ([] : List D181) := by unfold Zr2; rewrite [Run_unfold]; kernel_rfl
theorem Zs2_eq (s0 : List UInt8) (s1 : Int) (r2 : List D181) : Zs2 s0 s1 r2 =
 bif (decide (s1 < (((List.length s0) : Nat) : Int))) then
 (c_utf_at (s0, s1)).bind fun y0 =>
 bif y0.2.2.2 then
 bif (cutOk (some s1) none (List.length s0)) then
 (c_utf_width (cutList (some s1) none s0)).bind fun y1 =>
 Zt2 s0 s1 (y0.1, (y1, y0.2.2)) r2
 else
 none
 else
 Zt2 s0 s1 y0 r2
 else
 some r2 := by unfold Zs2; rewrite [Run_unfold]; kernel_rfl
theorem Zt2_eq (s0 : List UInt8) (s1 : Int) (b2 : D181) (r3 : List D181) : Zt2 s0 s1 b2 r3 =
 bif (decide (((List.length r3) + (List.length ([b2] : List D181))) ≤ (lim))) then
 Zs2 s0 (IntKind.wrap IntKind.i64 (s1 + b2.2.1)) (r3 ++ ([b2] : List D181))
 else
 none := by unfold Zt2; rewrite [Run_unfold]; kernel_rfl
theorem c_percent_triple_eq (x : (List UInt8 × Int)) : c_percent_triple x =
 Zu2 x.1 x.2 := by kernel_rfl
theorem Zu2_eq (s0 : List UInt8) (s1 : Int) : Zu2 s0 s1 =
 bif (decide ((IntKind.wrap IntKind.i64 (s1 + (2 : Int))) ≥ (((List.length s0) : Nat) : Int))) then
 some (-(1 : Int))
 else
 bif (inside s1 (List.length s0)) then
 bif ((((UInt8.toNat (List.getD s0 (Int.toNat s1) (0 : UInt8))) : Nat) : Int) != (37 : Int)) then
 some (-(1 : Int))
 else
 bif (inside (IntKind.wrap IntKind.i64 (s1 + (1 : Int))) (List.length s0)) then
 bif (inside (IntKind.wrap IntKind.i64 (s1 + (2 : Int))) (List.length s0)) then
 (c_percent_nibble (((UInt8.toNat (List.getD s0 (Int.toNat (IntKind.wrap IntKind.i64 (s1 + (1 : Int)))) (0 : UInt8))) : Nat) : Int)).bind fun y0 =>
 (c_percent_nibble (((UInt8.toNat (List.getD s0 (Int.toNat (IntKind.wrap IntKind.i64 (s1 + (2 : Int)))) (0 : UInt8))) : Nat) : Int)).bind fun y1 =>
 bif (decide (y0 < (0 : Int))) then
 some (-(1 : Int))
 else
 bif (decide (y1 < (0 : Int))) then
 some (-(1 : Int))
 else
 some (bits Go.BinOp.or IntKind.i64 (shl IntKind.i64 y0 (4 : Int)) y1)
 else
 none
 else
 none
 else
 none := by unfold Zu2; rewrite [Run_unfold]; kernel_rfl
theorem c_utf8_DecodeRuneInString_eq (x : List UInt8) : c_utf8_DecodeRuneInString x = primDecode x := by kernel_rfl
theorem c_host_basic_1_eq (x : Int) : c_host_basic_1 x =
 Zv2 x := by kernel_rfl
theorem Zv2_eq (s0 : Int) : Zv2 s0 =
 some (decide (s0 > (127 : Int))) := by unfold Zv2; rewrite [Run_unfold]; kernel_rfl
theorem c_puny_Encode_eq (x : List UInt8) : c_puny_Encode x =
 Zw2 x := by kernel_rfl
theorem Zw2_eq (s0 : List UInt8) : Zw2 s0 =
 (c_utf_Valid s0).bind fun y0 =>
 bif (!y0.1) then
 some (([] : List UInt8), (21 : Int))
 else
 bif (decide ((((List.length s0) : Nat) : Int) > (65536 : Int))) then
 some (([] : List UInt8), (5 : Int))
 else
 bif (decide ((List.length s0) ≤ (lim))) then
 Zx2 s0 (((List.length (runesOf s0)) : Nat) : Int) (0 : Int) (runesOf s0) ([] : List Int)
 else
 none := by unfold Zw2; rewrite [Run_unfold]; kernel_rfl
theorem Zx2_eq (s0 : List UInt8) (s1 : Int) (s2 : Int) (r3 : List Int) (r4 : List Int) : Zx2 s0 s1 s2 r3 r4 =
 bif (decide (s2 < s1)) then
 bif (inside s2 (List.length r3)) then
 bif (decide ((List.getD r3 (Int.toNat s2) (Ty.zero (.int .i32))) < (128 : Int))) then
 bif (decide (((List.length r4) + (List.length ([(IntKind.wrap IntKind.u8 (List.getD r3 (Int.toNat s2) (Ty.zero (.int .i32))))] : List Int))) ≤ (lim))) then
 Zx2 s0 s1 (IntKind.wrap IntKind.i64 (s2 + (1 : Int))) r3 (r4 ++ ([(IntKind.wrap IntKind.u8 (List.getD r3 (Int.toNat s2) (Ty.zero (.int .i32))))] : List Int))
 else
 none
 else
 Zx2 s0 s1 (IntKind.wrap IntKind.i64 (s2 + (1 : Int))) r3 r4
 else
 none
 else
 bif (decide ((((List.length r4) : Nat) : Int) > (0 : Int))) then
 bif (decide (((List.length r4) + (List.length ([(45 : Int)] : List Int))) ≤ (lim))) then
 Zy2 s0 (((List.length r4) : Nat) : Int) (((List.length r4) : Nat) : Int) r3 (r4 ++ ([(45 : Int)] : List Int))
 else
 none
 else
 Zy2 s0 (((List.length r4) : Nat) : Int) (((List.length r4) : Nat) : Int) r3 r4 := by unfold Zx2; rewrite [Run_unfold]; kernel_rfl
theorem Zy2_eq (s0 : List UInt8) (s1 : Int) (s2 : Int) (r3 : List Int) (r4 : List Int) : Zy2 s0 s1 s2 r3 r4 =
 Zz2 s0 s1 s2 (128 : Int) (72 : Int) (0 : Int) r3 r4 := by unfold Zy2; rewrite [Run_unfold]; kernel_rfl
theorem Zz2_eq (s0 : List UInt8) (s1 : Int) (s2 : Int) (s3 : Int) (s4 : Int) (s5 : Int) (r6 : List Int) (r7 : List Int) : Zz2 s0 s1 s2 s3 s4 s5 r6 r7 =
 bif (decide (s1 < (((List.length r6) : Nat) : Int))) then
 Z03 s0 s1 s2 s3 s4 s5 (1114112 : Int) (((List.length r6) : Nat) : Int) (0 : Int) r6 r7
 else
 (c_puny_decode (strOf r7)).bind fun y0 =>
 bif (y0.2.1 == (32 : Int)) then
 some (([] : List UInt8), y0.2.1)
 else
 some ((strOf r7), (0 : Int)) := by unfold Zz2; rewrite [Run_unfold]; kernel_rfl
theorem Z03_eq (s0 : List UInt8) (s1 : Int) (s2 : Int) (s3 : Int) (s4 : Int) (s5 : Int) (s6 : Int) (s7 : Int) (s8 : Int) (r9 : List Int) (r10 : List Int) : Z03 s0 s1 s2 s3 s4 s5 s6 s7 s8 r9 r10 =
 bif (decide (s8 < s7)) then
 bif (inside s8 (List.length r9)) then
 bif (decide ((List.getD r9 (Int.toNat s8) (Ty.zero (.int .i32))) ≥ s3)) then
 bif (decide ((List.getD r9 (Int.toNat s8) (Ty.zero (.int .i32))) < s6)) then
 Z03 s0 s1 s2 s3 s4 s5 (List.getD r9 (Int.toNat s8) (Ty.zero (.int .i32))) s7 (IntKind.wrap IntKind.i64 (s8 + (1 : Int))) r9 r10
 else
 Z03 s0 s1 s2 s3 s4 s5 s6 s7 (IntKind.wrap IntKind.i64 (s8 + (1 : Int))) r9 r10
 else
 Z03 s0 s1 s2 s3 s4 s5 s6 s7 (IntKind.wrap IntKind.i64 (s8 + (1 : Int))) r9 r10
 else
 none
 else
 Z13 s0 s1 s2 s6 s4 (IntKind.wrap IntKind.i64 (s5 + (IntKind.wrap IntKind.i64 ((IntKind.wrap IntKind.i64 (IntKind.wrap IntKind.i32 (s6 - s3))) * (IntKind.wrap IntKind.i64 (s1 + (1 : Int))))))) (((List.length r9) : Nat) : Int) (0 : Int) r9 r10 := by unfold Z03; rewrite [Run_unfold]; kernel_rfl
theorem Z13_eq (s0 : List UInt8) (s1 : Int) (s2 : Int) (s3 : Int) (s4 : Int) (s5 : Int) (s6 : Int) (s7 : Int) (r8 : List Int) (r9 : List Int) : Z13 s0 s1 s2 s3 s4 s5 s6 s7 r8 r9 =
 bif (decide (s7 < s6)) then
 bif (inside s7 (List.length r8)) then
 bif (decide ((List.getD r8 (Int.toNat s7) (Ty.zero (.int .i32))) < s3)) then
 Z23 s0 s1 s2 s3 s4 (IntKind.wrap IntKind.i64 (s5 + (1 : Int))) (List.getD r8 (Int.toNat s7) (Ty.zero (.int .i32))) s6 s7 r8 r9
 else
 Z23 s0 s1 s2 s3 s4 s5 (List.getD r8 (Int.toNat s7) (Ty.zero (.int .i32))) s6 s7 r8 r9
 else
 none
 else
 Zz2 s0 s1 s2 (IntKind.wrap IntKind.i32 (s3 + (1 : Int))) s4 (IntKind.wrap IntKind.i64 (s5 + (1 : Int))) r8 r9 := by unfold Z13; rewrite [Run_unfold]; kernel_rfl
theorem Z23_eq (s0 : List UInt8) (s1 : Int) (s2 : Int) (s3 : Int) (s4 : Int) (s5 : Int) (s6 : Int) (s7 : Int) (s8 : Int) (r9 : List Int) (r10 : List Int) : Z23 s0 s1 s2 s3 s4 s5 s6 s7 s8 r9 r10 =
 bif (s6 == s3) then
 (c_puny_lay (r10, (s5, s4))).bind fun y0 =>
 (c_puny_adapt (s5, ((IntKind.wrap IntKind.i64 (s1 + (1 : Int))), (s1 == s2)))).bind fun y1 =>
 Z13 s0 (IntKind.wrap IntKind.i64 (s1 + (1 : Int))) s2 s3 y1 (0 : Int) s7 (IntKind.wrap IntKind.i64 (s8 + (1 : Int))) r9 y0
 else
 Z13 s0 s1 s2 s3 s4 s5 s7 (IntKind.wrap IntKind.i64 (s8 + (1 : Int))) r9 r10 := by unfold Z23; rewrite [Run_unfold]; kernel_rfl
theorem c_strings_indexFunc_eq (x : (List UInt8 × (Unit × Bool))) : c_strings_indexFunc x =
 Z33 x.1 x.2.1 x.2.2 := by kernel_rfl
theorem Z33_eq (s0 : List UInt8) (s1 : Unit) (s2 : Bool) : Z33 s0 s1 s2 =
 Z43 s0 s1 s2 s0 0 := by unfold Z33; rewrite [Run_unfold]; kernel_rfl
theorem Z43_eq (s0 : List UInt8) (s1 : Unit) (s2 : Bool) (t3 : List UInt8) (n4 : Nat) : Z43 s0 s1 s2 t3 n4 =
 bif (decide (n4 < (List.length t3))) then
 (c_host_basic_1 (((decRune t3 n4).1 : Nat) : Int)).bind fun y0 =>
 bif (y0 == s2) then
 some ((n4 : Nat) : Int)
 else
 Z43 s0 s1 s2 t3 (n4 + (decRune t3 n4).2)
 else
 some (-(1 : Int)) := by unfold Z43; rewrite [Run_unfold]; kernel_rfl
theorem c_strings_indexFunc__puny_basic_1_eq (x : (List UInt8 × (Unit × Bool))) : c_strings_indexFunc__puny_basic_1 x =
 Z53 x.1 x.2.1 x.2.2 := by kernel_rfl
theorem Z53_eq (s0 : List UInt8) (s1 : Unit) (s2 : Bool) : Z53 s0 s1 s2 =
 Z63 s0 s1 s2 s0 0 := by unfold Z53; rewrite [Run_unfold]; kernel_rfl
theorem Z63_eq (s0 : List UInt8) (s1 : Unit) (s2 : Bool) (t3 : List UInt8) (n4 : Nat) : Z63 s0 s1 s2 t3 n4 =
 bif (decide (n4 < (List.length t3))) then
 (c_puny_basic_1 (((decRune t3 n4).1 : Nat) : Int)).bind fun y0 =>
 bif (y0 == s2) then
 some ((n4 : Nat) : Int)
 else
 Z63 s0 s1 s2 t3 (n4 + (decRune t3 n4).2)
 else
 some (-(1 : Int)) := by unfold Z63; rewrite [Run_unfold]; kernel_rfl
theorem c_strings_indexFunc__host_dot_eq (x : (List UInt8 × (Unit × Bool))) : c_strings_indexFunc__host_dot x =
 Z73 x.1 x.2.1 x.2.2 := by kernel_rfl
theorem Z73_eq (s0 : List UInt8) (s1 : Unit) (s2 : Bool) : Z73 s0 s1 s2 =
 Z83 s0 s1 s2 s0 0 := by unfold Z73; rewrite [Run_unfold]; kernel_rfl
theorem Z83_eq (s0 : List UInt8) (s1 : Unit) (s2 : Bool) (t3 : List UInt8) (n4 : Nat) : Z83 s0 s1 s2 t3 n4 =
 bif (decide (n4 < (List.length t3))) then
 (c_host_dot (((decRune t3 n4).1 : Nat) : Int)).bind fun y0 =>
 bif (y0 == s2) then
 some ((n4 : Nat) : Int)
 else
 Z83 s0 s1 s2 t3 (n4 + (decRune t3 n4).2)
 else
 some (-(1 : Int)) := by unfold Z83; rewrite [Run_unfold]; kernel_rfl
theorem c_istringslite_HasSuffix_eq (x : (List UInt8 × List UInt8)) : c_istringslite_HasSuffix x =
 Z93 x.1 x.2 := by kernel_rfl
theorem Z93_eq (s0 : List UInt8) (s1 : List UInt8) : Z93 s0 s1 =
 bif (decide ((((List.length s0) : Nat) : Int) ≥ (((List.length s1) : Nat) : Int))) then
 bif (cutOk (some (IntKind.wrap IntKind.i64 ((((List.length s0) : Nat) : Int) - (((List.length s1) : Nat) : Int)))) none (List.length s0)) then
 some ((cutList (some (IntKind.wrap IntKind.i64 ((((List.length s0) : Nat) : Int) - (((List.length s1) : Nat) : Int)))) none s0) == s1)
 else
 none
 else
 some false := by unfold Z93; rewrite [Run_unfold]; kernel_rfl
theorem c_puny_decode_eq (x : List UInt8) : c_puny_decode x =
 Za3 x := by kernel_rfl
theorem Za3_eq (s0 : List UInt8) : Za3 s0 =
 Zb3 s0 (((List.length s0) : Nat) : Int) (0 : Int) := by unfold Za3; rewrite [Run_unfold]; kernel_rfl
theorem Zb3_eq (s0 : List UInt8) (s1 : Int) (s2 : Int) : Zb3 s0 s1 s2 =
 bif (decide (s2 < s1)) then
 bif (inside s2 (List.length s0)) then
 bif (decide ((((UInt8.toNat (List.getD s0 (Int.toNat s2) (0 : UInt8))) : Nat) : Int) > (127 : Int))) then
 some (([] : List UInt8), ((31 : Int), s2))
 else
 Zb3 s0 s1 (IntKind.wrap IntKind.i64 (s2 + (1 : Int)))
 else
 none
 else
 (c_strings_LastIndexByte (s0, (45 : Int))).bind fun y0 =>
 bif (decide ((IntKind.wrap IntKind.i64 (y0 + (1 : Int))) > (0 : Int))) then
 bif (cutOk none (some (IntKind.wrap IntKind.i64 ((IntKind.wrap IntKind.i64 (y0 + (1 : Int))) - (1 : Int)))) (List.length s0)) then
 bif (decide ((List.length (cutList none (some (IntKind.wrap IntKind.i64 ((IntKind.wrap IntKind.i64 (y0 + (1 : Int))) - (1 : Int)))) s0)) ≤ (lim))) then
 Zc3 s0 (IntKind.wrap IntKind.i64 (y0 + (1 : Int))) (runesOf (cutList none (some (IntKind.wrap IntKind.i64 ((IntKind.wrap IntKind.i64 (y0 + (1 : Int))) - (1 : Int)))) s0))
 else
 none
 else
 none
 else
 Zd3 s0 (IntKind.wrap IntKind.i64 (y0 + (1 : Int))) := by unfold Zb3; rewrite [Run_unfold]; kernel_rfl
theorem Zc3_eq (s0 : List UInt8) (s1 : Int) (r2 : List Int) : Zc3 s0 s1 r2 =
 Ze3 s0 s1 (((List.length r2) : Nat) : Int) (0 : Int) (128 : Int) (72 : Int) r2 := by unfold Zc3; rewrite [Run_unfold]; kernel_rfl
theorem Zd3_eq (s0 : List UInt8) (s1 : Int) : Zd3 s0 s1 =
 Zf3 s0 s1 ((0 : Nat) : Int) (0 : Int) (128 : Int) (72 : Int) := by unfold Zd3; rewrite [Run_unfold]; kernel_rfl
theorem Ze3_eq (s0 : List UInt8) (s1 : Int) (s2 : Int) (s3 : Int) (s4 : Int) (s5 : Int) (r6 : List Int) : Ze3 s0 s1 s2 s3 s4 s5 r6 =
 bif (decide (s1 < (((List.length s0) : Nat) : Int))) then
 (c_puny_number (s0, (s1, (s3, s5)))).bind fun y0 =>
 bif (y0.2.2.1 != (0 : Int)) then
 some (([] : List UInt8), (y0.2.2.1, y0.2.2.2))
 else
 (c_puny_adapt ((IntKind.wrap IntKind.i64 (y0.1 - s3)), ((IntKind.wrap IntKind.i64 ((((List.length r6) : Nat) : Int) + (1 : Int))), ((((List.length r6) : Nat) : Int) == s2)))).bind fun y1 =>
 bif ((IntKind.wrap IntKind.i64 ((((List.length r6) : Nat) : Int) + (1 : Int))) != (0 : Int)) then
 bif (decide ((IntKind.wrap IntKind.i64 (s4 + (IntKind.wrap IntKind.i64 (Int.tdiv y0.1 (IntKind.wrap IntKind.i64 ((((List.length r6) : Nat) : Int) + (1 : Int))))))) > (1114111 : Int))) then
 some (([] : List UInt8), ((32 : Int), s1))
 else
 bif (decide ((IntKind.wrap IntKind.i64 (s4 + (IntKind.wrap IntKind.i64 (Int.tdiv y0.1 (IntKind.wrap IntKind.i64 ((((List.length r6) : Nat) : Int) + (1 : Int))))))) ≥ (55296 : Int))) then
 bif (decide ((IntKind.wrap IntKind.i64 (s4 + (IntKind.wrap IntKind.i64 (Int.tdiv y0.1 (IntKind.wrap IntKind.i64 ((((List.length r6) : Nat) : Int) + (1 : Int))))))) ≤ (57343 : Int))) then
 some (([] : List UInt8), ((32 : Int), s1))
 else
 bif ((IntKind.wrap IntKind.i64 ((((List.length r6) : Nat) : Int) + (1 : Int))) != (0 : Int)) then
 (c_slices_Insert_rune_rune (r6, ((Int.tmod y0.1 (IntKind.wrap IntKind.i64 ((((List.length r6) : Nat) : Int) + (1 : Int)))), ([(IntKind.wrap IntKind.i32 (IntKind.wrap IntKind.i64 (s4 + (IntKind.wrap IntKind.i64 (Int.tdiv y0.1 (IntKind.wrap IntKind.i64 ((((List.length r6) : Nat) : Int) + (1 : Int))))))))] : List Int)))).bind fun y2 =>
 Ze3 s0 y0.2.1 s2 (IntKind.wrap IntKind.i64 ((Int.tmod y0.1 (IntKind.wrap IntKind.i64 ((((List.length r6) : Nat) : Int) + (1 : Int)))) + (1 : Int))) (IntKind.wrap IntKind.i64 (s4 + (IntKind.wrap IntKind.i64 (Int.tdiv y0.1 (IntKind.wrap IntKind.i64 ((((List.length r6) : Nat) : Int) + (1 : Int))))))) y1 y2
 else
 none
 else
 bif ((IntKind.wrap IntKind.i64 ((((List.length r6) : Nat) : Int) + (1 : Int))) != (0 : Int)) then
 (c_slices_Insert_rune_rune (r6, ((Int.tmod y0.1 (IntKind.wrap IntKind.i64 ((((List.length r6) : Nat) : Int) + (1 : Int)))), ([(IntKind.wrap IntKind.i32 (IntKind.wrap IntKind.i64 (s4 + (IntKind.wrap IntKind.i64 (Int.tdiv y0.1 (IntKind.wrap IntKind.i64 ((((List.length r6) : Nat) : Int) + (1 : Int))))))))] : List Int)))).bind fun y2 =>
 Ze3 s0 y0.2.1 s2 (IntKind.wrap IntKind.i64 ((Int.tmod y0.1 (IntKind.wrap IntKind.i64 ((((List.length r6) : Nat) : Int) + (1 : Int)))) + (1 : Int))) (IntKind.wrap IntKind.i64 (s4 + (IntKind.wrap IntKind.i64 (Int.tdiv y0.1 (IntKind.wrap IntKind.i64 ((((List.length r6) : Nat) : Int) + (1 : Int))))))) y1 y2
 else
 none
 else
 none
 else
 some ((strOfRunes r6), ((0 : Int), (0 : Int))) := by unfold Ze3; rewrite [Run_unfold]; kernel_rfl
theorem Zf3_eq (s0 : List UInt8) (s1 : Int) (s2 : Int) (s3 : Int) (s4 : Int) (s5 : Int) : Zf3 s0 s1 s2 s3 s4 s5 =
 bif (decide (s1 < (((List.length s0) : Nat) : Int))) then
 (c_puny_number (s0, (s1, (s3, s5)))).bind fun y0 =>
 bif (y0.2.2.1 != (0 : Int)) then
 some (([] : List UInt8), (y0.2.2.1, y0.2.2.2))
 else
 (c_puny_adapt ((IntKind.wrap IntKind.i64 (y0.1 - s3)), ((IntKind.wrap IntKind.i64 (((0 : Nat) : Int) + (1 : Int))), (((0 : Nat) : Int) == s2)))).bind fun y1 =>
 bif (decide ((IntKind.wrap IntKind.i64 (s4 + (IntKind.wrap IntKind.i64 (Int.tdiv y0.1 (IntKind.wrap IntKind.i64 (((0 : Nat) : Int) + (1 : Int))))))) > (1114111 : Int))) then
 some (([] : List UInt8), ((32 : Int), s1))
 else
 bif (decide ((IntKind.wrap IntKind.i64 (s4 + (IntKind.wrap IntKind.i64 (Int.tdiv y0.1 (IntKind.wrap IntKind.i64 (((0 : Nat) : Int) + (1 : Int))))))) ≥ (55296 : Int))) then
 bif (decide ((IntKind.wrap IntKind.i64 (s4 + (IntKind.wrap IntKind.i64 (Int.tdiv y0.1 (IntKind.wrap IntKind.i64 (((0 : Nat) : Int) + (1 : Int))))))) ≤ (57343 : Int))) then
 some (([] : List UInt8), ((32 : Int), s1))
 else
 (c_slices_Insert_rune_rune (([] : List Int), ((Int.tmod y0.1 (IntKind.wrap IntKind.i64 (((0 : Nat) : Int) + (1 : Int)))), ([(IntKind.wrap IntKind.i32 (IntKind.wrap IntKind.i64 (s4 + (IntKind.wrap IntKind.i64 (Int.tdiv y0.1 (IntKind.wrap IntKind.i64 (((0 : Nat) : Int) + (1 : Int))))))))] : List Int)))).bind fun y2 =>
 Ze3 s0 y0.2.1 s2 (IntKind.wrap IntKind.i64 ((Int.tmod y0.1 (IntKind.wrap IntKind.i64 (((0 : Nat) : Int) + (1 : Int)))) + (1 : Int))) (IntKind.wrap IntKind.i64 (s4 + (IntKind.wrap IntKind.i64 (Int.tdiv y0.1 (IntKind.wrap IntKind.i64 (((0 : Nat) : Int) + (1 : Int))))))) y1 y2
 else
 (c_slices_Insert_rune_rune (([] : List Int), ((Int.tmod y0.1 (IntKind.wrap IntKind.i64 (((0 : Nat) : Int) + (1 : Int)))), ([(IntKind.wrap IntKind.i32 (IntKind.wrap IntKind.i64 (s4 + (IntKind.wrap IntKind.i64 (Int.tdiv y0.1 (IntKind.wrap IntKind.i64 (((0 : Nat) : Int) + (1 : Int))))))))] : List Int)))).bind fun y2 =>
 Ze3 s0 y0.2.1 s2 (IntKind.wrap IntKind.i64 ((Int.tmod y0.1 (IntKind.wrap IntKind.i64 (((0 : Nat) : Int) + (1 : Int)))) + (1 : Int))) (IntKind.wrap IntKind.i64 (s4 + (IntKind.wrap IntKind.i64 (Int.tdiv y0.1 (IntKind.wrap IntKind.i64 (((0 : Nat) : Int) + (1 : Int))))))) y1 y2
 else
 some ((strOfRunes ([] : List Int)), ((0 : Int), (0 : Int))) := by unfold Zf3; rewrite [Run_unfold]; kernel_rfl
theorem c_puny_basic_1_eq (x : Int) : c_puny_basic_1 x =
 Zg3 x := by kernel_rfl
theorem Zg3_eq (s0 : Int) : Zg3 s0 =
 some (decide (s0 > (127 : Int))) := by unfold Zg3; rewrite [Run_unfold]; kernel_rfl
theorem c_utf8_ValidRune_eq (x : Int) : c_utf8_ValidRune x =
 Zh3 x := by kernel_rfl
theorem Zh3_eq (s0 : Int) : Zh3 s0 =
 bif (decide ((0 : Int) ≤ s0)) then
 bif (decide (s0 < (55296 : Int))) then
 some true
 else
 bif (decide ((57343 : Int) < s0)) then
 bif (decide (s0 ≤ (1114111 : Int))) then
 some true
 else
 some false
 else
 some false
 else
 bif (decide ((57343 : Int) < s0)) then
 bif (decide (s0 ≤ (1114111 : Int))) then
 some true
 else
 some false
 else
 some false := by unfold Zh3; rewrite [Run_unfold]; kernel_rfl
theorem c_utf8_AppendRune_eq (x : ((List Int) × Int)) : c_utf8_AppendRune x =
 Zi3 x.2 x.1 := by kernel_rfl
theorem Zi3_eq (s0 : Int) (r1 : List Int) : Zi3 s0 r1 =
 bif (decide ((IntKind.wrap IntKind.u32 s0) ≤ (127 : Int))) then
 bif (decide (((List.length r1) + (List.length ([(IntKind.wrap IntKind.u8 s0)] : List Int))) ≤ (lim))) then
 some (r1 ++ ([(IntKind.wrap IntKind.u8 s0)] : List Int))
 else
 none
 else
 (c_utf8_appendRuneNonASCII (r1, s0)).bind fun y0 =>
 some y0 := by unfold Zi3; rewrite [Run_unfold]; kernel_rfl
theorem c_utf_width_eq (x : List UInt8) : c_utf_width x =
 Zj3 x := by kernel_rfl
theorem Zj3_eq (s0 : List UInt8) : Zj3 s0 =
 bif (inside (0 : Int) (List.length s0)) then
 (c_utf_second (((UInt8.toNat (List.getD s0 (Int.toNat (0 : Int)) (0 : UInt8))) : Nat) : Int)).bind fun y0 =>
 Zk3 s0 y0.1 y0.2.1 y0.2.2 (1 : Int)
 else
 none := by unfold Zj3; rewrite [Run_unfold]; kernel_rfl
theorem Zk3_eq (s0 : List UInt8) (s1 : Int) (s2 : Int) (s3 : Int) (s4 : Int) : Zk3 s0 s1 s2 s3 s4 =
 bif (decide (s4 < (IntKind.wrap IntKind.i64 (s3 - (1 : Int))))) then
 bif (decide (s4 < (((List.length s0) : Nat) : Int))) then
 bif (inside s4 (List.length s0)) then
 bif (decide ((((UInt8.toNat (List.getD s0 (Int.toNat s4) (0 : UInt8))) : Nat) : Int) ≥ s1)) then
 bif (inside s4 (List.length s0)) then
 bif (decide ((((UInt8.toNat (List.getD s0 (Int.toNat s4) (0 : UInt8))) : Nat) : Int) ≤ s2)) then
 Zk3 s0 (128 : Int) (191 : Int) s3 (IntKind.wrap IntKind.i64 (s4 + (1 : Int)))
 else
 some s4
 else
 none
 else
 some s4
 else
 none
 else
 some s4
 else
 some s4 := by unfold Zk3; rewrite [Run_unfold]; kernel_rfl
theorem c_percent_nibble_eq (x : Int) : c_percent_nibble x =
 Zl3 x := by kernel_rfl
theorem Zl3_eq (s0 : Int) : Zl3 s0 =
 (c_strings_IndexByte (([(48 : UInt8), (49 : UInt8), (50 : UInt8), (51 : UInt8), (52 : UInt8), (53 : UInt8), (54 : UInt8), (55 : UInt8), (56 : UInt8), (57 : UInt8), (65 : UInt8), (66 : UInt8), (67 : UInt8), (68 : UInt8), (69 : UInt8), (70 : UInt8)] : List UInt8), s0)).bind fun y0 =>
 bif (decide (y0 ≥ (0 : Int))) then
 some y0
 else
 bif (decide (s0 ≥ (97 : Int))) then
 bif (decide (s0 ≤ (102 : Int))) then
 some (IntKind.wrap IntKind.i64 ((IntKind.wrap IntKind.i64 (IntKind.wrap IntKind.u8 (s0 - (97 : Int)))) + (10 : Int)))
 else
 some (-(1 : Int))
 else
 some (-(1 : Int)) := by unfold Zl3; rewrite [Run_unfold]; kernel_rfl
theorem c_puny_lay_eq (x : ((List Int) × (Int × Int))) : c_puny_lay x =
 Zm3 x.2.1 x.2.2 x.1 := by kernel_rfl
theorem Zm3_eq (s0 : Int) (s1 : Int) (r2 : List Int) : Zm3 s0 s1 r2 =
 Zn3 s0 s1 (36 : Int) r2 := by unfold Zm3; rewrite [Run_unfold]; kernel_rfl
theorem Zn3_eq (s0 : Int) (s1 : Int) (s2 : Int) (r3 : List Int) : Zn3 s0 s1 s2 r3 =
 (c_puny_threshold (s2, s1)).bind fun y0 =>
 bif (decide (s0 < y0)) then
 bif (inside s0 (List.length ([(97 : UInt8), (98 : UInt8), (99 : UInt8), (100 : UInt8), (101 : UInt8), (102 : UInt8), (103 : UInt8), (104 : UInt8), (105 : UInt8), (106 : UInt8), (107 : UInt8), (108 : UInt8), (109 : UInt8), (110 : UInt8), (111 : UInt8), (112 : UInt8), (113 : UInt8), (114 : UInt8), (115 : UInt8), (116 : UInt8), (117 : UInt8), (118 : UInt8), (119 : UInt8), (120 : UInt8), (121 : UInt8), (122 : UInt8), (48 : UInt8), (49 : UInt8), (50 : UInt8), (51 : UInt8), (52 : UInt8), (53 : UInt8), (54 : UInt8), (55 : UInt8), (56 : UInt8), (57 : UInt8)] : List UInt8))) then
 bif (decide (((List.length r3) + (List.length ([(((UInt8.toNat (List.getD ([(97 : UInt8), (98 : UInt8), (99 : UInt8), (100 : UInt8), (101 : UInt8), (102 : UInt8), (103 : UInt8), (104 : UInt8), (105 : UInt8), (106 : UInt8), (107 : UInt8), (108 : UInt8), (109 : UInt8), (110 : UInt8), (111 : UInt8), (112 : UInt8), (113 : UInt8), (114 : UInt8), (115 : UInt8), (116 : UInt8), (117 : UInt8), (118 : UInt8), (119 : UInt8), (120 : UInt8), (121 : UInt8), (122 : UInt8), (48 : UInt8), (49 : UInt8), (50 : UInt8), (51 : UInt8), (52 : UInt8), (53 : UInt8), (54 : UInt8), (55 : UInt8), (56 : UInt8), (57 : UInt8)] : List UInt8) (Int.toNat s0) (0 : UInt8))) : Nat) : Int)] : List Int))) ≤ (lim))) then
 some (r3 ++ ([(((UInt8.toNat (List.getD ([(97 : UInt8), (98 : UInt8), (99 : UInt8), (100 : UInt8), (101 : UInt8), (102 : UInt8), (103 : UInt8), (104 : UInt8), (105 : UInt8), (106 : UInt8), (107 : UInt8), (108 : UInt8), (109 : UInt8), (110 : UInt8), (111 : UInt8), (112 : UInt8), (113 : UInt8), (114 : UInt8), (115 : UInt8), (116 : UInt8), (117 : UInt8), (118 : UInt8), (119 : UInt8), (120 : UInt8), (121 : UInt8), (122 : UInt8), (48 : UInt8), (49 : UInt8), (50 : UInt8), (51 : UInt8), (52 : UInt8), (53 : UInt8), (54 : UInt8), (55 : UInt8), (56 : UInt8), (57 : UInt8)] : List UInt8) (Int.toNat s0) (0 : UInt8))) : Nat) : Int)] : List Int))
 else
 none
 else
 none
 else
 bif ((IntKind.wrap IntKind.i64 ((36 : Int) - y0)) != (0 : Int)) then
 bif (inside (IntKind.wrap IntKind.i64 (y0 + (Int.tmod (IntKind.wrap IntKind.i64 (s0 - y0)) (IntKind.wrap IntKind.i64 ((36 : Int) - y0))))) (List.length ([(97 : UInt8), (98 : UInt8), (99 : UInt8), (100 : UInt8), (101 : UInt8), (102 : UInt8), (103 : UInt8), (104 : UInt8), (105 : UInt8), (106 : UInt8), (107 : UInt8), (108 : UInt8), (109 : UInt8), (110 : UInt8), (111 : UInt8), (112 : UInt8), (113 : UInt8), (114 : UInt8), (115 : UInt8), (116 : UInt8), (117 : UInt8), (118 : UInt8), (119 : UInt8), (120 : UInt8), (121 : UInt8), (122 : UInt8), (48 : UInt8), (49 : UInt8), (50 : UInt8), (51 : UInt8), (52 : UInt8), (53 : UInt8), (54 : UInt8), (55 : UInt8), (56 : UInt8), (57 : UInt8)] : List UInt8))) then
 bif (decide (((List.length r3) + (List.length ([(((UInt8.toNat (List.getD ([(97 : UInt8), (98 : UInt8), (99 : UInt8), (100 : UInt8), (101 : UInt8), (102 : UInt8), (103 : UInt8), (104 : UInt8), (105 : UInt8), (106 : UInt8), (107 : UInt8), (108 : UInt8), (109 : UInt8), (110 : UInt8), (111 : UInt8), (112 : UInt8), (113 : UInt8), (114 : UInt8), (115 : UInt8), (116 : UInt8), (117 : UInt8), (118 : UInt8), (119 : UInt8), (120 : UInt8), (121 : UInt8), (122 : UInt8), (48 : UInt8), (49 : UInt8), (50 : UInt8), (51 : UInt8), (52 : UInt8), (53 : UInt8), (54 : UInt8), (55 : UInt8), (56 : UInt8), (57 : UInt8)] : List UInt8) (Int.toNat (IntKind.wrap IntKind.i64 (y0 + (Int.tmod (IntKind.wrap IntKind.i64 (s0 - y0)) (IntKind.wrap IntKind.i64 ((36 : Int) - y0)))))) (0 : UInt8))) : Nat) : Int)] : List Int))) ≤ (lim))) then
 bif ((IntKind.wrap IntKind.i64 ((36 : Int) - y0)) != (0 : Int)) then
 Zn3 (IntKind.wrap IntKind.i64 (Int.tdiv (IntKind.wrap IntKind.i64 (s0 - y0)) (IntKind.wrap IntKind.i64 ((36 : Int) - y0)))) s1 (IntKind.wrap IntKind.i64 (s2 + (36 : Int))) (r3 ++ ([(((UInt8.toNat (List.getD ([(97 : UInt8), (98 : UInt8), (99 : UInt8), (100 : UInt8), (101 : UInt8), (102 : UInt8), (103 : UInt8), (104 : UInt8), (105 : UInt8), (106 : UInt8), (107 : UInt8), (108 : UInt8), (109 : UInt8), (110 : UInt8), (111 : UInt8), (112 : UInt8), (113 : UInt8), (114 : UInt8), (115 : UInt8), (116 : UInt8), (117 : UInt8), (118 : UInt8), (119 : UInt8), (120 : UInt8), (121 : UInt8), (122 : UInt8), (48 : UInt8), (49 : UInt8), (50 : UInt8), (51 : UInt8), (52 : UInt8), (53 : UInt8), (54 : UInt8), (55 : UInt8), (56 : UInt8), (57 : UInt8)] : List UInt8) (Int.toNat (IntKind.wrap IntKind.i64 (y0 + (Int.tmod (IntKind.wrap IntKind.i64 (s0 - y0)) (IntKind.wrap IntKind.i64 ((36 : Int) - y0)))))) (0 : UInt8))) : Nat) : Int)] : List Int))
 else
 none
 else
 none
 else
 none
 else
 none := by unfold Zn3; rewrite [Run_unfold]; kernel_rfl
theorem c_puny_adapt_eq (x : (Int × (Int × Bool))) : c_puny_adapt x =
 Zo3 x.1 x.2.1 x.2.2 := by kernel_rfl
theorem Zo3_eq (s0 : Int) (s1 : Int) (s2 : Bool) : Zo3 s0 s1 s2 =
 bif s2 then
 Zp3 (IntKind.wrap IntKind.i64 (Int.tdiv s0 (700 : Int))) s1 s2
 else
 Zp3 (IntKind.wrap IntKind.i64 (Int.tdiv s0 (2 : Int))) s1 s2 := by unfold Zo3; rewrite [Run_unfold]; kernel_rfl
theorem Zp3_eq (s0 : Int) (s1 : Int) (s2 : Bool) : Zp3 s0 s1 s2 =
 bif (s1 != (0 : Int)) then
 Zq3 (IntKind.wrap IntKind.i64 (s0 + (IntKind.wrap IntKind.i64 (Int.tdiv s0 s1)))) s1 s2 (0 : Int)
 else
 none := by unfold Zp3; rewrite [Run_unfold]; kernel_rfl
theorem Zq3_eq (s0 : Int) (s1 : Int) (s2 : Bool) (s3 : Int) : Zq3 s0 s1 s2 s3 =
 bif (decide (s0 > (455 : Int))) then
 Zq3 (IntKind.wrap IntKind.i64 (Int.tdiv s0 (35 : Int))) s1 s2 (IntKind.wrap IntKind.i64 (s3 + (36 : Int)))
 else
 bif ((IntKind.wrap IntKind.i64 (s0 + (38 : Int))) != (0 : Int)) then
 some (IntKind.wrap IntKind.i64 (s3 + (IntKind.wrap IntKind.i64 (Int.tdiv (IntKind.wrap IntKind.i64 ((36 : Int) * s0)) (IntKind.wrap IntKind.i64 (s0 + (38 : Int)))))))
 else
 none := by unfold Zq3; rewrite [Run_unfold]; kernel_rfl
theorem c_strings_LastIndexByte_eq (x : (List UInt8 × Int)) : c_strings_LastIndexByte x =
 Zr3 x.1 x.2 := by kernel_rfl
theorem Zr3_eq (s0 : List UInt8) (s1 : Int) : Zr3 s0 s1 =
 (c_ibytealg_LastIndexByteString (s0, s1)).bind fun y0 =>
 some y0 := by unfold Zr3; rewrite [Run_unfold]; kernel_rfl
theorem c_puny_number_eq (x : (List UInt8 × (Int × (Int × Int)))) : c_puny_number x =
 Zs3 x.1 x.2.1 x.2.2.1 x.2.2.2 := by kernel_rfl
theorem Zs3_eq (s0 : List UInt8) (s1 : Int) (s2 : Int) (s3 : Int) : Zs3 s0 s1 s2 s3 =
 Zt3 s0 s1 s2 s3 s1 (1 : Int) (36 : Int) := by unfold Zs3; rewrite [Run_unfold]; kernel_rfl
theorem Zt3_eq (s0 : List UInt8) (s1 : Int) (s2 : Int) (s3 : Int) (s4 : Int) (s5 : Int) (s6 : Int) : Zt3 s0 s1 s2 s3 s4 s5 s6 =
 bif (s1 == (((List.length s0) : Nat) : Int)) then
 some ((0 : Int), ((0 : Int), ((31 : Int), s1)))
 else
 bif (inside s1 (List.length s0)) then
 (c_strings_IndexByte (([(97 : UInt8), (98 : UInt8), (99 : UInt8), (100 : UInt8), (101 : UInt8), (102 : UInt8), (103 : UInt8), (104 : UInt8), (105 : UInt8), (106 : UInt8), (107 : UInt8), (108 : UInt8), (109 : UInt8), (110 : UInt8), (111 : UInt8), (112 : UInt8), (113 : UInt8), (114 : UInt8), (115 : UInt8), (116 : UInt8), (117 : UInt8), (118 : UInt8), (119 : UInt8), (120 : UInt8), (121 : UInt8), (122 : UInt8), (48 : UInt8), (49 : UInt8), (50 : UInt8), (51 : UInt8), (52 : UInt8), (53 : UInt8), (54 : UInt8), (55 : UInt8), (56 : UInt8), (57 : UInt8)] : List UInt8), (((UInt8.toNat (List.getD s0 (Int.toNat s1) (0 : UInt8))) : Nat) : Int))).bind fun y0 =>
 bif (inside s1 (List.length s0)) then
 bif (decide (y0 < (0 : Int))) then
 bif (decide ((bits Go.BinOp.or IntKind.u8 (((UInt8.toNat (List.getD s0 (Int.toNat s1) (0 : UInt8))) : Nat) : Int) (32 : Int)) ≥ (97 : Int))) then
 bif (decide ((bits Go.BinOp.or IntKind.u8 (((UInt8.toNat (List.getD s0 (Int.toNat s1) (0 : UInt8))) : Nat) : Int) (32 : Int)) ≤ (122 : Int))) then
 Zu3 s0 s1 s2 s3 s4 s5 s6 (IntKind.wrap IntKind.i64 (IntKind.wrap IntKind.u8 ((bits Go.BinOp.or IntKind.u8 (((UInt8.toNat (List.getD s0 (Int.toNat s1) (0 : UInt8))) : Nat) : Int) (32 : Int)) - (97 : Int))))
 else
 Zu3 s0 s1 s2 s3 s4 s5 s6 y0
 else
 Zu3 s0 s1 s2 s3 s4 s5 s6 y0
 else
 Zu3 s0 s1 s2 s3 s4 s5 s6 y0
 else
 none
 else
 none := by unfold Zt3; rewrite [Run_unfold]; kernel_rfl
theorem Zu3_eq (s0 : List UInt8) (s1 : Int) (s2 : Int) (s3 : Int) (s4 : Int) (s5 : Int) (s6 : Int) (s7 : Int) : Zu3 s0 s1 s2 s3 s4 s5 s6 s7 =
 bif (decide (s7 < (0 : Int))) then
 some ((0 : Int), ((0 : Int), ((31 : Int), s1)))
 else
 bif (decide ((IntKind.wrap IntKind.i64 (s2 + (IntKind.wrap IntKind.i64 (s7 * s5)))) > (2147483647 : Int))) then
 some ((0 : Int), ((0 : Int), ((32 : Int), s4)))
 else
 (c_puny_threshold (s6, s3)).bind fun y0 =>
 bif (decide (s7 < y0)) then
 some ((IntKind.wrap IntKind.i64 (s2 + (IntKind.wrap IntKind.i64 (s7 * s5)))), ((IntKind.wrap IntKind.i64 (s1 + (1 : Int))), ((0 : Int), (0 : Int))))
 else
 bif (decide ((IntKind.wrap IntKind.i64 (s5 * (IntKind.wrap IntKind.i64 ((36 : Int) - y0)))) > (2147483647 : Int))) then
 some ((0 : Int), ((0 : Int), ((32 : Int), s4)))
 else
 Zt3 s0 (IntKind.wrap IntKind.i64 (s1 + (1 : Int))) (IntKind.wrap IntKind.i64 (s2 + (IntKind.wrap IntKind.i64 (s7 * s5)))) s3 s4 (IntKind.wrap IntKind.i64 (s5 * (IntKind.wrap IntKind.i64 ((36 : Int) - y0)))) (IntKind.wrap IntKind.i64 (s6 + (36 : Int))) := by unfold Zu3; rewrite [Run_unfold]; kernel_rfl
theorem c_slices_Insert_rune_rune_eq (x : ((List Int) × (Int × (List Int)))) : c_slices_Insert_rune_rune x = primInsert x := by kernel_rfl
theorem c_utf8_appendRuneNonASCII_eq (x : ((List Int) × Int)) : c_utf8_appendRuneNonASCII x =
 Zv3 x.2 x.1 := by kernel_rfl
theorem Zv3_eq (s0 : Int) (r1 : List Int) : Zv3 s0 r1 =
 bif (decide ((IntKind.wrap IntKind.u32 s0) ≤ (2047 : Int))) then
 bif (decide (((List.length r1) + (List.length ([(bits Go.BinOp.or IntKind.u8 (192 : Int) (IntKind.wrap IntKind.u8 (shr IntKind.i32 s0 (6 : Int)))), (bits Go.BinOp.or IntKind.u8 (128 : Int) (bits Go.BinOp.and IntKind.u8 (IntKind.wrap IntKind.u8 s0) (63 : Int)))] : List Int))) ≤ (lim))) then
 some (r1 ++ ([(bits Go.BinOp.or IntKind.u8 (192 : Int) (IntKind.wrap IntKind.u8 (shr IntKind.i32 s0 (6 : Int)))), (bits Go.BinOp.or IntKind.u8 (128 : Int) (bits Go.BinOp.and IntKind.u8 (IntKind.wrap IntKind.u8 s0) (63 : Int)))] : List Int))
 else
 none
 else
 bif (decide ((IntKind.wrap IntKind.u32 s0) < (55296 : Int))) then
 Zw3 s0 (IntKind.wrap IntKind.u32 s0) (decide ((IntKind.wrap IntKind.u32 s0) < (55296 : Int))) r1
 else
 bif (decide ((57343 : Int) < (IntKind.wrap IntKind.u32 s0))) then
 Zw3 s0 (IntKind.wrap IntKind.u32 s0) (decide ((IntKind.wrap IntKind.u32 s0) ≤ (65535 : Int))) r1
 else
 Zw3 s0 (IntKind.wrap IntKind.u32 s0) false r1 := by unfold Zv3; rewrite [Run_unfold]; kernel_rfl
theorem Zw3_eq (s0 : Int) (s1 : Int) (s2 : Bool) (r3 : List Int) : Zw3 s0 s1 s2 r3 =
 bif s2 then
 bif (decide (((List.length r3) + (List.length ([(bits Go.BinOp.or IntKind.u8 (224 : Int) (IntKind.wrap IntKind.u8 (shr IntKind.i32 s0 (12 : Int)))), (bits Go.BinOp.or IntKind.u8 (128 : Int) (bits Go.BinOp.and IntKind.u8 (IntKind.wrap IntKind.u8 (shr IntKind.i32 s0 (6 : Int))) (63 : Int))), (bits Go.BinOp.or IntKind.u8 (128 : Int) (bits Go.BinOp.and IntKind.u8 (IntKind.wrap IntKind.u8 s0) (63 : Int)))] : List Int))) ≤ (lim))) then
 some (r3 ++ ([(bits Go.BinOp.or IntKind.u8 (224 : Int) (IntKind.wrap IntKind.u8 (shr IntKind.i32 s0 (12 : Int)))), (bits Go.BinOp.or IntKind.u8 (128 : Int) (bits Go.BinOp.and IntKind.u8 (IntKind.wrap IntKind.u8 (shr IntKind.i32 s0 (6 : Int))) (63 : Int))), (bits Go.BinOp.or IntKind.u8 (128 : Int) (bits Go.BinOp.and IntKind.u8 (IntKind.wrap IntKind.u8 s0) (63 : Int)))] : List Int))
 else
 none
 else
 bif (decide (s1 > (65535 : Int))) then
 bif (decide (s1 ≤ (1114111 : Int))) then
 bif (decide (((List.length r3) + (List.length ([(bits Go.BinOp.or IntKind.u8 (240 : Int) (IntKind.wrap IntKind.u8 (shr IntKind.i32 s0 (18 : Int)))), (bits Go.BinOp.or IntKind.u8 (128 : Int) (bits Go.BinOp.and IntKind.u8 (IntKind.wrap IntKind.u8 (shr IntKind.i32 s0 (12 : Int))) (63 : Int))), (bits Go.BinOp.or IntKind.u8 (128 : Int) (bits Go.BinOp.and IntKind.u8 (IntKind.wrap IntKind.u8 (shr IntKind.i32 s0 (6 : Int))) (63 : Int))), (bits Go.BinOp.or IntKind.u8 (128 : Int) (bits Go.BinOp.and IntKind.u8 (IntKind.wrap IntKind.u8 s0) (63 : Int)))] : List Int))) ≤ (lim))) then
 some (r3 ++ ([(bits Go.BinOp.or IntKind.u8 (240 : Int) (IntKind.wrap IntKind.u8 (shr IntKind.i32 s0 (18 : Int)))), (bits Go.BinOp.or IntKind.u8 (128 : Int) (bits Go.BinOp.and IntKind.u8 (IntKind.wrap IntKind.u8 (shr IntKind.i32 s0 (12 : Int))) (63 : Int))), (bits Go.BinOp.or IntKind.u8 (128 : Int) (bits Go.BinOp.and IntKind.u8 (IntKind.wrap IntKind.u8 (shr IntKind.i32 s0 (6 : Int))) (63 : Int))), (bits Go.BinOp.or IntKind.u8 (128 : Int) (bits Go.BinOp.and IntKind.u8 (IntKind.wrap IntKind.u8 s0) (63 : Int)))] : List Int))
 else
 none
 else
 bif (decide (((List.length r3) + (List.length ([(239 : Int), (191 : Int), (189 : Int)] : List Int))) ≤ (lim))) then
 some (r3 ++ ([(239 : Int), (191 : Int), (189 : Int)] : List Int))
 else
 none
 else
 bif (decide (((List.length r3) + (List.length ([(239 : Int), (191 : Int), (189 : Int)] : List Int))) ≤ (lim))) then
 some (r3 ++ ([(239 : Int), (191 : Int), (189 : Int)] : List Int))
 else
 none := by unfold Zw3; rewrite [Run_unfold]; kernel_rfl
theorem c_utf_second_eq (x : Int) : c_utf_second x =
 Zx3 x := by kernel_rfl
theorem Zx3_eq (s0 : Int) : Zx3 s0 =
 bif (decide (s0 ≥ (194 : Int))) then
 bif (decide (s0 ≤ (223 : Int))) then
 some ((128 : Int), ((191 : Int), (2 : Int)))
 else
 bif (s0 == (224 : Int)) then
 some ((160 : Int), ((191 : Int), (3 : Int)))
 else
 bif (s0 == (237 : Int)) then
 some ((128 : Int), ((159 : Int), (3 : Int)))
 else
 bif (decide (s0 ≥ (225 : Int))) then
 bif (decide (s0 ≤ (239 : Int))) then
 some ((128 : Int), ((191 : Int), (3 : Int)))
 else
 bif (s0 == (240 : Int)) then
 some ((144 : Int), ((191 : Int), (4 : Int)))
 else
 bif (decide (s0 ≥ (241 : Int))) then
 bif (decide (s0 ≤ (243 : Int))) then
 some ((128 : Int), ((191 : Int), (4 : Int)))
 else
 bif (s0 == (244 : Int)) then
 some ((128 : Int), ((143 : Int), (4 : Int)))
 else
 some ((0 : Int), ((0 : Int), (0 : Int)))
 else
 bif (s0 == (244 : Int)) then
 some ((128 : Int), ((143 : Int), (4 : Int)))
 else
 some ((0 : Int), ((0 : Int), (0 : Int)))
 else
 bif (s0 == (240 : Int)) then
 some ((144 : Int), ((191 : Int), (4 : Int)))
 else
 bif (decide (s0 ≥ (241 : Int))) then
 bif (decide (s0 ≤ (243 : Int))) then
 some ((128 : Int), ((191 : Int), (4 : Int)))
 else
 bif (s0 == (244 : Int)) then
 some ((128 : Int), ((143 : Int), (4 : Int)))
 else
 some ((0 : Int), ((0 : Int), (0 : Int)))
 else
 bif (s0 == (244 : Int)) then
 some ((128 : Int), ((143 : Int), (4 : Int)))
 else
 some ((0 : Int), ((0 : Int), (0 : Int)))
 else
 bif (s0 == (224 : Int)) then
 some ((160 : Int), ((191 : Int), (3 : Int)))
 else
 bif (s0 == (237 : Int)) then
 some ((128 : Int), ((159 : Int), (3 : Int)))
 else
 bif (decide (s0 ≥ (225 : Int))) then
 bif (decide (s0 ≤ (239 : Int))) then
 some ((128 : Int), ((191 : Int), (3 : Int)))
 else
 bif (s0 == (240 : Int)) then
 some ((144 : Int), ((191 : Int), (4 : Int)))
 else
 bif (decide (s0 ≥ (241 : Int))) then
 bif (decide (s0 ≤ (243 : Int))) then
 some ((128 : Int), ((191 : Int), (4 : Int)))
 else
 bif (s0 == (244 : Int)) then
 some ((128 : Int), ((143 : Int), (4 : Int)))
 else
 some ((0 : Int), ((0 : Int), (0 : Int)))
 else
 bif (s0 == (244 : Int)) then
 some ((128 : Int), ((143 : Int), (4 : Int)))
 else
 some ((0 : Int), ((0 : Int), (0 : Int)))
 else
 bif (s0 == (240 : Int)) then
 some ((144 : Int), ((191 : Int), (4 : Int)))
 else
 bif (decide (s0 ≥ (241 : Int))) then
 bif (decide (s0 ≤ (243 : Int))) then
 some ((128 : Int), ((191 : Int), (4 : Int)))
 else
 bif (s0 == (244 : Int)) then
 some ((128 : Int), ((143 : Int), (4 : Int)))
 else
 some ((0 : Int), ((0 : Int), (0 : Int)))
 else
 bif (s0 == (244 : Int)) then
 some ((128 : Int), ((143 : Int), (4 : Int)))
 else
 some ((0 : Int), ((0 : Int), (0 : Int))) := by unfold Zx3; rewrite [Run_unfold]; kernel_rfl
theorem c_puny_threshold_eq (x : (Int × Int)) : c_puny_threshold x =
 Zy3 x.1 x.2 := by kernel_rfl
theorem Zy3_eq (s0 : Int) (s1 : Int) : Zy3 s0 s1 =
 bif (decide (s0 ≤ s1)) then
 some (1 : Int)
 else
 bif (decide (s0 ≥ (IntKind.wrap IntKind.i64 (s1 + (26 : Int))))) then
 some (26 : Int)
 else
 some (IntKind.wrap IntKind.i64 (s0 - s1)) := by unfold Zy3; rewrite [Run_unfold]; kernel_rfl
theorem c_ibytealg_LastIndexByteString_eq (x : (List UInt8 × Int)) : c_ibytealg_LastIndexByteString x =
 Zz3 x.1 x.2 := by kernel_rfl
theorem Zz3_eq (s0 : List UInt8) (s1 : Int) : Zz3 s0 s1 =
 Z04 s0 s1 (IntKind.wrap IntKind.i64 ((((List.length s0) : Nat) : Int) - (1 : Int))) := by unfold Zz3; rewrite [Run_unfold]; kernel_rfl
theorem Z04_eq (s0 : List UInt8) (s1 : Int) (s2 : Int) : Z04 s0 s1 s2 =
 bif (decide (s2 ≥ (0 : Int))) then
 bif (inside s2 (List.length s0)) then
 bif ((((UInt8.toNat (List.getD s0 (Int.toNat s2) (0 : UInt8))) : Nat) : Int) == s1) then
 some s2
 else
 Z04 s0 s1 (IntKind.wrap IntKind.i64 (s2 - (1 : Int)))
 else
 none
 else
 some (-(1 : Int)) := by unfold Z04; rewrite [Run_unfold]; kernel_rfl
end
end Go.Abs
namespace Go.Abs
set_option autoImplicit false
set_option linter.all false
end Go.Abs
namespace Go.Abs
noncomputable section
set_option autoImplicit false
set_option linter.all false
def c_law05_HostSpelt (x : (List UInt8 × Int)) : Option Bool := Abs.Call E 10 x
def Z14 (s0 : List UInt8) (s1 : Int) : Option Bool := (Abs.Run E 10 (E.at 10 []) ⟨mkSlots [(1, (.val (.int .i64) s1)), (0, (.val .str s0))], assocB [], assocR []⟩)
def Z24 (s0 : List UInt8) (s1 : Int) (b2 : D35) (b3 : D35) : Option Bool := (Abs.Run E 10 (E.at 10 [1, 1, 1, 1, 1, 1, 1, 1, 0, 1, 9]) ⟨mkSlots [(0, (.val .str s0)), (1, (.val (.int .i64) s1)), (5, (.addr (.box 0) [])), (7, (.addr (.box 1) []))], mkBoxes [.cells T35 .live (.val T35 b2), .cells T35 .live (.val T35 b3)], mkRows []⟩)
def c_octets_Hex (x : (List Int)) : Option (List UInt8) := Abs.Call E 54 x
def Z34 (s0 : (List Int)) : Option (List UInt8) := (Abs.Run E 54 (E.at 54 []) ⟨mkSlots [(0, (.val (.sl false (.int .u8)) s0))], assocB [], assocR []⟩)
def Z44 (s0 : (List Int)) (s1 : (List Int)) (s2 : Int) (s3 : Int) (r4 : List Int) : Option (List UInt8) := (Abs.Run E 54 (E.at 54 [1, 1, 0, 1, 0, 7]) ⟨mkSlots [(0, (.val (.sl false (.int .u8)) s0)), (3, (.row 0)), (10, (.val (.sl false (.int .u8)) s1)), (11, (.val (.int .i64) s2)), (12, (.val (.int .i64) s3))], mkBoxes [], mkRows [.mk (.int .u8) .live r4]⟩)
theorem c_law05_HostSpelt_eq (x : (List UInt8 × Int)) : c_law05_HostSpelt x =
 Z14 x.1 x.2 := by kernel_rfl
theorem Z14_eq (s0 : List UInt8) (s1 : Int) : Z14 s0 s1 =
 (c_law05_alive ()).bind fun y0 =>
 bif (!y0) then
 some false
 else
 (c_host_Parse (s0, true)).bind fun y1 =>
 (c_law05_num y1.2).bind fun y2 =>
 bif (y2 != (0 : Int)) then
 some true
 else
 bif (decide ((((List.length s0) : Nat) : Int) > (10000 : Int))) then
 some true
 else
 bif (decide ((((List.length s0) : Nat) : Int) > (0 : Int))) then
 bif (inside (0 : Int) (List.length s0)) then
 bif ((((UInt8.toNat (List.getD s0 (Int.toNat (0 : Int)) (0 : UInt8))) : Nat) : Int) == (91 : Int)) then
 some true
 else
 (c_octets_Upper s0).bind fun y3 =>
 (c_host_Parse (y3, true)).bind fun y4 =>
 (c_ref01_Has (s0, (37 : Int))).bind fun y5 =>
 bif (!y5) then
 (c_law05_num y4.2).bind fun y6 =>
 bif (y6 != (0 : Int)) then
 some false
 else
 bif (!(Ty.beq T35 y4.1 y1.1)) then
 some false
 else
 (c_ref02_Valid s0).bind fun y7 =>
 bif (decide (s1 < (0 : Int))) then
 some true
 else
 bif (decide (s1 ≥ (((List.length s0) : Nat) : Int))) then
 some true
 else
 bif (!y7.1) then
 some true
 else
 bif (inside s1 (List.length s0)) then
 bif ((((UInt8.toNat (List.getD s0 (Int.toNat s1) (0 : UInt8))) : Nat) : Int) != (37 : Int)) then
 (c_ref01_Has (s0, (37 : Int))).bind fun y8 =>
 bif (!y8) then
 bif (cutOk none (some s1) (List.length s0)) then
 bif (decide (((List.length (cutList none (some s1) s0)) + (List.length ([(37 : UInt8)] : List UInt8))) ≤ (2 ^ 62))) then
 bif (inside s1 (List.length s0)) then
 bif (cutOk (some (IntKind.wrap IntKind.i64 (s1 + (1 : Int)))) none (List.length s0)) then
 (c_octets_Hex ([(((UInt8.toNat (List.getD s0 (Int.toNat s1) (0 : UInt8))) : Nat) : Int)] : List Int)).bind fun y9 =>
 bif (decide (((List.length ((cutList none (some s1) s0) ++ ([(37 : UInt8)] : List UInt8))) + (List.length y9)) ≤ (2 ^ 62))) then
 bif (decide (((List.length (((cutList none (some s1) s0) ++ ([(37 : UInt8)] : List UInt8)) ++ y9)) + (List.length (cutList (some (IntKind.wrap IntKind.i64 (s1 + (1 : Int)))) none s0))) ≤ (2 ^ 62))) then
 (c_host_Parse (((((cutList none (some s1) s0) ++ ([(37 : UInt8)] : List UInt8)) ++ y9) ++ (cutList (some (IntKind.wrap IntKind.i64 (s1 + (1 : Int)))) none s0)), true)).bind fun y10 =>
 (c_law05_num y10.2).bind fun y11 =>
 bif (y11 != (0 : Int)) then
 some false
 else
 bif (!(Ty.beq T35 y10.1 y1.1)) then
 some false
 else
 Z24 s0 s1 y1.1 y10.1
 else
 none
 else
 none
 else
 none
 else
 none
 else
 none
 else
 none
 else
 Z24 s0 s1 y1.1 y4.1
 else
 Z24 s0 s1 y1.1 y4.1
 else
 none
 else
 (c_ref02_Valid s0).bind fun y6 =>
 bif (decide (s1 < (0 : Int))) then
 some true
 else
 bif (decide (s1 ≥ (((List.length s0) : Nat) : Int))) then
 some true
 else
 bif (!y6.1) then
 some true
 else
 bif (inside s1 (List.length s0)) then
 bif ((((UInt8.toNat (List.getD s0 (Int.toNat s1) (0 : UInt8))) : Nat) : Int) != (37 : Int)) then
 (c_ref01_Has (s0, (37 : Int))).bind fun y7 =>
 bif (!y7) then
 bif (cutOk none (some s1) (List.length s0)) then
 bif (decide (((List.length (cutList none (some s1) s0)) + (List.length ([(37 : UInt8)] : List UInt8))) ≤ (2 ^ 62))) then
 bif (inside s1 (List.length s0)) then
 bif (cutOk (some (IntKind.wrap IntKind.i64 (s1 + (1 : Int)))) none (List.length s0)) then
 (c_octets_Hex ([(((UInt8.toNat (List.getD s0 (Int.toNat s1) (0 : UInt8))) : Nat) : Int)] : List Int)).bind fun y8 =>
 bif (decide (((List.length ((cutList none (some s1) s0) ++ ([(37 : UInt8)] : List UInt8))) + (List.length y8)) ≤ (2 ^ 62))) then
 bif (decide (((List.length (((cutList none (some s1) s0) ++ ([(37 : UInt8)] : List UInt8)) ++ y8)) + (List.length (cutList (some (IntKind.wrap IntKind.i64 (s1 + (1 : Int)))) none s0))) ≤ (2 ^ 62))) then
 (c_host_Parse (((((cutList none (some s1) s0) ++ ([(37 : UInt8)] : List UInt8)) ++ y8) ++ (cutList (some (IntKind.wrap IntKind.i64 (s1 + (1 : Int)))) none s0)), true)).bind fun y9 =>
 (c_law05_num y9.2).bind fun y10 =>
 bif (y10 != (0 : Int)) then
 some false
 else
 bif (!(Ty.beq T35 y9.1 y1.1)) then
 some false
 else
 Z24 s0 s1 y1.1 y9.1
 else
 none
 else
 none
 else
 none
 else
 none
 else
 none
 else
 none
 else
 Z24 s0 s1 y1.1 y4.1
 else
 Z24 s0 s1 y1.1 y4.1
 else
 none
 else
 none
 else
 (c_octets_Upper s0).bind fun y3 =>
 (c_host_Parse (y3, true)).bind fun y4 =>
 (c_ref01_Has (s0, (37 : Int))).bind fun y5 =>
 bif (!y5) then
 (c_law05_num y4.2).bind fun y6 =>
 bif (y6 != (0 : Int)) then
 some false
 else
 bif (!(Ty.beq T35 y4.1 y1.1)) then
 some false
 else
 (c_ref02_Valid s0).bind fun y7 =>
 bif (decide (s1 < (0 : Int))) then
 some true
 else
 bif (decide (s1 ≥ (((List.length s0) : Nat) : Int))) then
 some true
 else
 bif (!y7.1) then
 some true
 else
 bif (inside s1 (List.length s0)) then
 bif ((((UInt8.toNat (List.getD s0 (Int.toNat s1) (0 : UInt8))) : Nat) : Int) != (37 : Int)) then
 (c_ref01_Has (s0, (37 : Int))).bind fun y8 =>
 bif (!y8) then
 bif (cutOk none (some s1) (List.length s0)) then
 bif (decide (((List.length (cutList none (some s1) s0)) + (List.length ([(37 : UInt8)] : List UInt8))) ≤ (2 ^ 62))) then
 bif (inside s1 (List.length s0)) then
 bif (cutOk (some (IntKind.wrap IntKind.i64 (s1 + (1 : Int)))) none (List.length s0)) then
 (c_octets_Hex ([(((UInt8.toNat (List.getD s0 (Int.toNat s1) (0 : UInt8))) : Nat) : Int)] : List Int)).bind fun y9 =>
 bif (decide (((List.length ((cutList none (some s1) s0) ++ ([(37 : UInt8)] : List UInt8))) + (List.length y9)) ≤ (2 ^ 62))) then
 bif (decide (((List.length (((cutList none (some s1) s0) ++ ([(37 : UInt8)] : List UInt8)) ++ y9)) + (List.length (cutList (some (IntKind.wrap IntKind.i64 (s1 + (1 : Int)))) none s0))) ≤ (2 ^ 62))) then
 (c_host_Parse (((((cutList none (some s1) s0) ++ ([(37 : UInt8)] : List UInt8)) ++ y9) ++ (cutList (some (IntKind.wrap IntKind.i64 (s1 + (1 : Int)))) none s0)), true)).bind fun y10 =>
 (c_law05_num y10.2).bind fun y11 =>
 bif (y11 != (0 : Int)) then
 some false
 else
 bif (!(Ty.beq T35 y10.1 y1.1)) then
 some false
 else
 Z24 s0 s1 y1.1 y10.1
 else
 none
 else
 none
 else
 none
 else
 none
 else
 none
 else
 none
 else
 Z24 s0 s1 y1.1 y4.1
 else
 Z24 s0 s1 y1.1 y4.1
 else
 none
 else
 (c_ref02_Valid s0).bind fun y6 =>
 bif (decide (s1 < (0 : Int))) then
 some true
 else
 bif (decide (s1 ≥ (((List.length s0) : Nat) : Int))) then
 some true
 else
 bif (!y6.1) then
 some true
 else
 bif (inside s1 (List.length s0)) then
 bif ((((UInt8.toNat (List.getD s0 (Int.toNat s1) (0 : UInt8))) : Nat) : Int) != (37 : Int)) then
 (c_ref01_Has (s0, (37 : Int))).bind fun y7 =>
 bif (!y7) then
 bif (cutOk none (some s1) (List.length s0)) then
 bif (decide (((List.length (cutList none (some s1) s0)) + (List.length ([(37 : UInt8)] : List UInt8))) ≤ (2 ^ 62))) then
 bif (inside s1 (List.length s0)) then
 bif (cutOk (some (IntKind.wrap IntKind.i64 (s1 + (1 : Int)))) none (List.length s0)) then
 (c_octets_Hex ([(((UInt8.toNat (List.getD s0 (Int.toNat s1) (0 : UInt8))) : Nat) : Int)] : List Int)).bind fun y8 =>
 bif (decide (((List.length ((cutList none (some s1) s0) ++ ([(37 : UInt8)] : List UInt8))) + (List.length y8)) ≤ (2 ^ 62))) then
 bif (decide (((List.length (((cutList none (some s1) s0) ++ ([(37 : UInt8)] : List UInt8)) ++ y8)) + (List.length (cutList (some (IntKind.wrap IntKind.i64 (s1 + (1 : Int)))) none s0))) ≤ (2 ^ 62))) then
 (c_host_Parse (((((cutList none (some s1) s0) ++ ([(37 : UInt8)] : List UInt8)) ++ y8) ++ (cutList (some (IntKind.wrap IntKind.i64 (s1 + (1 : Int)))) none s0)), true)).bind fun y9 =>
 (c_law05_num y9.2).bind fun y10 =>
 bif (y10 != (0 : Int)) then
 some false
 else
 bif (!(Ty.beq T35 y9.1 y1.1)) then
 some false
 else
 Z24 s0 s1 y1.1 y9.1
 else
 none
 else
 none
 else
 none
 else
 none
 else
 none
 else
 none
 else
 Z24 s0 s1 y1.1 y4.1
 else
 Z24 s0 s1 y1.1 y4.1
 else
 none := by unfold Z14; rewrite [Run_unfold]; kernel_rfl
theorem Z24_eq (s0 : List UInt8) (s1 : Int) (b2 : D35) (b3 : D35) : Z24 s0 s1 b2 b3 =
 bif (inside s1 (List.length s0)) then
 bif ((((UInt8.toNat (List.getD s0 (Int.toNat s1) (0 : UInt8))) : Nat) : Int) == (46 : Int)) then
 bif (cutOk none (some s1) (List.length s0)) then
 bif (decide (((List.length (cutList none (some s1) s0)) + (List.length ([(227 : UInt8), (128 : UInt8), (130 : UInt8)] : List UInt8))) ≤ (2 ^ 62))) then
 bif (cutOk (some (IntKind.wrap IntKind.i64 (s1 + (1 : Int)))) none (List.length s0)) then
 bif (decide (((List.length ((cutList none (some s1) s0) ++ ([(227 : UInt8), (128 : UInt8), (130 : UInt8)] : List UInt8))) + (List.length (cutList (some (IntKind.wrap IntKind.i64 (s1 + (1 : Int)))) none s0))) ≤ (2 ^ 62))) then
 (c_host_Parse ((((cutList none (some s1) s0) ++ ([(227 : UInt8), (128 : UInt8), (130 : UInt8)] : List UInt8)) ++ (cutList (some (IntKind.wrap IntKind.i64 (s1 + (1 : Int)))) none s0)), true)).bind fun y0 =>
 (c_law05_num y0.2).bind fun y1 =>
 bif (y1 == (0 : Int)) then
 some (Ty.beq T35 y0.1 b2)
 else
 some false
 else
 none
 else
 none
 else
 none
 else
 none
 else
 some true
 else
 none := by unfold Z24; rewrite [Run_unfold]; kernel_rfl
theorem c_octets_Hex_eq (x : (List Int)) : c_octets_Hex x =
 Z34 x := by kernel_rfl
theorem Z34_eq (s0 : (List Int)) : Z34 s0 =
 bif ((decide ((0 : Int) ≤ (0 : Int))) && ((decide ((0 : Int) ≤ (IntKind.wrap IntKind.i64 ((2 : Int) * (((List.length s0) : Nat) : Int))))) && (decide ((IntKind.wrap IntKind.i64 ((2 : Int) * (((List.length s0) : Nat) : Int))) ≤ (((lim) : Nat) : Int))))) then
 Z44 s0 s0 (((List.length s0) : Nat) : Int) (0 : Int) (List.replicate (Int.toNat (0 : Int)) (Ty.zero (.int .u8)))
 else
 none := by unfold Z34; rewrite [Run_unfold]; kernel_rfl
theorem Z44_eq (s0 : (List Int)) (s1 : (List Int)) (s2 : Int) (s3 : Int) (r4 : List Int) : Z44 s0 s1 s2 s3 r4 =
 bif (decide (s3 < s2)) then
 bif (inside s3 (List.length s1)) then
 bif (inside (shr IntKind.u8 (List.getD s1 (Int.toNat s3) (Ty.zero (.int .u8))) (4 : Int)) (List.length ([(48 : UInt8), (49 : UInt8), (50 : UInt8), (51 : UInt8), (52 : UInt8), (53 : UInt8), (54 : UInt8), (55 : UInt8), (56 : UInt8), (57 : UInt8), (97 : UInt8), (98 : UInt8), (99 : UInt8), (100 : UInt8), (101 : UInt8), (102 : UInt8)] : List UInt8))) then
 bif (inside (bits Go.BinOp.and IntKind.u8 (List.getD s1 (Int.toNat s3) (Ty.zero (.int .u8))) (15 : Int)) (List.length ([(48 : UInt8), (49 : UInt8), (50 : UInt8), (51 : UInt8), (52 : UInt8), (53 : UInt8), (54 : UInt8), (55 : UInt8), (56 : UInt8), (57 : UInt8), (97 : UInt8), (98 : UInt8), (99 : UInt8), (100 : UInt8), (101 : UInt8), (102 : UInt8)] : List UInt8))) then
 bif (decide (((List.length r4) + (List.length ([(((UInt8.toNat (List.getD ([(48 : UInt8), (49 : UInt8), (50 : UInt8), (51 : UInt8), (52 : UInt8), (53 : UInt8), (54 : UInt8), (55 : UInt8), (56 : UInt8), (57 : UInt8), (97 : UInt8), (98 : UInt8), (99 : UInt8), (100 : UInt8), (101 : UInt8), (102 : UInt8)] : List UInt8) (Int.toNat (shr IntKind.u8 (List.getD s1 (Int.toNat s3) (Ty.zero (.int .u8))) (4 : Int))) (0 : UInt8))) : Nat) : Int), (((UInt8.toNat (List.getD ([(48 : UInt8), (49 : UInt8), (50 : UInt8), (51 : UInt8), (52 : UInt8), (53 : UInt8), (54 : UInt8), (55 : UInt8), (56 : UInt8), (57 : UInt8), (97 : UInt8), (98 : UInt8), (99 : UInt8), (100 : UInt8), (101 : UInt8), (102 : UInt8)] : List UInt8) (Int.toNat (bits Go.BinOp.and IntKind.u8 (List.getD s1 (Int.toNat s3) (Ty.zero (.int .u8))) (15 : Int))) (0 : UInt8))) : Nat) : Int)] : List Int))) ≤ (lim))) then
 Z44 s0 s1 s2 (IntKind.wrap IntKind.i64 (s3 + (1 : Int))) (r4 ++ ([(((UInt8.toNat (List.getD ([(48 : UInt8), (49 : UInt8), (50 : UInt8), (51 : UInt8), (52 : UInt8), (53 : UInt8), (54 : UInt8), (55 : UInt8), (56 : UInt8), (57 : UInt8), (97 : UInt8), (98 : UInt8), (99 : UInt8), (100 : UInt8), (101 : UInt8), (102 : UInt8)] : List UInt8) (Int.toNat (shr IntKind.u8 (List.getD s1 (Int.toNat s3) (Ty.zero (.int .u8))) (4 : Int))) (0 : UInt8))) : Nat) : Int), (((UInt8.toNat (List.getD ([(48 : UInt8), (49 : UInt8), (50 : UInt8), (51 : UInt8), (52 : UInt8), (53 : UInt8), (54 : UInt8), (55 : UInt8), (56 : UInt8), (57 : UInt8), (97 : UInt8), (98 : UInt8), (99 : UInt8), (100 : UInt8), (101 : UInt8), (102 : UInt8)] : List UInt8) (Int.toNat (bits Go.BinOp.and IntKind.u8 (List.getD s1 (Int.toNat s3) (Ty.zero (.int .u8))) (15 : Int))) (0 : UInt8))) : Nat) : Int)] : List Int))
 else
 none
 else
 none
 else
 none
 else
 none
 else
 some (strOf r4) := by unfold Z44; rewrite [Run_unfold]; kernel_rfl
end
end Go.Abs
