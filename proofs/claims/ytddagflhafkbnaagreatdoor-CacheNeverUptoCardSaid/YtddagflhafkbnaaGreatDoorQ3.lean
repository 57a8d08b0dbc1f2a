/- Part Q3 of the proof: see the last text of the claim. No condition of its own. -/
import Derived.Test.YtddagflhafkbnaaGreatDoorQ1
import Derived.Test.YtddagflhafkbnaaGreatDoorQ2
set_option linter.all false
set_option autoImplicit false
namespace Go.Abs
noncomputable section
open IntKind List
def Yt9 (x:(List UInt8×Bool)):Option (D35×Int):=Abs.Call E 48 x
def Zr1 (s0:List UInt8) (s1:Bool):Option (D35×Int):=(Abs.Run E 48 (E.at 48 []) ⟨Y7 [(1,(.val .bool s1)),(0,(.val .str s0))],Ye [],Yf []⟩)
def Zs1 (s0:List UInt8) (s1:Bool) (s2:List UInt8) (s3:Int) (s4:Int) (b5:D35):Option (D35×Int):=(Abs.Run E 48 (E.at 48 [1,1,1,1,1,0,1,0,7]) ⟨Y7 [(0,(.val .str s0)),(1,(.val .bool s1)),(4,(.addr (.box 0) [])),(10,(.val .str s2)),(95,(.val (.int .i64) s3)),(96,(.val (.int .i64) s4))],Yc [.cells T35 .live (.val T35 b5)],Yd []⟩)
def Y64 (x:List UInt8):Option (List UInt8×Int):=Abs.Call E 56 x
def Zt1 (s0:List UInt8):Option (List UInt8×Int):=(Abs.Run E 56 (E.at 56 []) ⟨Y7 [(0,(.val .str s0))],Ye [],Yf []⟩)
def Zu1 (s0:List UInt8) (s1:Int) (t2:List UInt8) (n3:Nat) (r4:List (List UInt8)):Option (List UInt8×Int):=(Abs.Run E 56 (E.at 56 [1,1,1,1,1,1,0,1,0,7]) ⟨Y7 [(0,(.val .str s0)),(6,(.row 0)),(7,(.val (.int .i64) s1)),(27,(.addr (.box 0) []))],Yc [.iter t2 n3],Yd [.mk .str .live r4]⟩)
def Zv1 (s0:List UInt8) (s1:Int) (s2:Int) (r3:List (List UInt8)):Option (List UInt8×Int):=(Abs.Run E 56 (E.at 56 [1,1,1,1,1,1,1,1,0,1,0,7]) ⟨Y7 [(0,(.val .str s0)),(6,(.row 0)),(53,(.val (.int .i64) s1)),(54,(.val (.int .i64) s2))],Yc [],Yd [.mk .str .live r3]⟩)
def Ys9 (x:List UInt8):Option (List (List UInt8)):=Abs.Call E 63 x
def Zw1 (s0:List UInt8):Option (List (List UInt8)):=(Abs.Run E 63 (E.at 63 []) ⟨Y7 [(0,(.val .str s0))],Ye [],Yf []⟩)
def Yc4 (x:(List UInt8×List UInt8)):Option Bool:=Abs.Call E 123 x
def Zx1 (s0:List UInt8) (s1:List UInt8):Option Bool:=(Abs.Run E 123 (E.at 123 []) ⟨Y7 [(1,(.val .str s1)),(0,(.val .str s0))],Ye [],Yf []⟩)
def Y94 (x:(Int×List UInt8)):Option (List UInt8×Int):=Abs.Call E 124 x
def Zy1 (s0:Int) (s1:List UInt8):Option (List UInt8×Int):=(Abs.Run E 124 (E.at 124 []) ⟨Y7 [(1,(.val .str s1)),(0,(.val (.int .i64) s0))],Ye [],Yf []⟩)
def Y84 (x:List UInt8):Option (List UInt8):=Abs.Call E 125 x
def Zz1 (s0:List UInt8):Option (List UInt8):=(Abs.Run E 125 (E.at 125 []) ⟨Y7 [(0,(.val .str s0))],Ye [],Yf []⟩)
def Yu7 (x:List UInt8):Option (Bool×Int):=Abs.Call E 134 x
def Z02 (s0:List UInt8):Option (Bool×Int):=(Abs.Run E 134 (E.at 134 []) ⟨Y7 [(0,(.val .str s0))],Ye [],Yf []⟩)
def Z12 (s0:List UInt8) (t1:List UInt8) (n2:Nat):Option (Bool×Int):=(Abs.Run E 134 (E.at 134 [1,0,1,0,7]) ⟨Y7 [(0,(.val .str s0)),(6,(.addr (.box 0) []))],Yc [.iter t1 n2],Yd []⟩)
def YU6 (x:Int):Option Bool:=Abs.Call E 135 x
def Z22 (s0:Int):Option Bool:=(Abs.Run E 135 (E.at 135 []) ⟨Y7 [(0,(.val (.int .i32) s0))],Ye [],Yf []⟩)
def Yz5 (x:(List UInt8×Bool)):Option (List UInt8×Int):=Abs.Call E 136 x
def Z32 (s0:List UInt8) (s1:Bool):Option (List UInt8×Int):=(Abs.Run E 136 (E.at 136 []) ⟨Y7 [(1,(.val .bool s1)),(0,(.val .str s0))],Ye [],Yf []⟩)
def Z42 (s0:List UInt8) (s1:Bool) (s2:Bool):Option (List UInt8×Int):=(Abs.Run E 136 (E.at 136 [1,1,1,0,1,9]) ⟨Y7 [(0,(.val .str s0)),(1,(.val .bool s1)),(6,(.val .bool s2))],Yc [],Yd []⟩)
def Ygf (x:((List (List UInt8))×List UInt8)):Option (List UInt8):=Abs.Call E 137 x
def Yba (x:(List UInt8×List UInt8)):Option (List UInt8):=Abs.Call E 138 x
def Z52 (s0:List UInt8) (s1:List UInt8):Option (List UInt8):=(Abs.Run E 138 (E.at 138 []) ⟨Y7 [(1,(.val .str s1)),(0,(.val .str s0))],Ye [],Yf []⟩)
def YB5 (x:List UInt8):Option (List UInt8×Int):=Abs.Call E 143 x
def Z62 (s0:List UInt8):Option (List UInt8×Int):=(Abs.Run E 143 (E.at 143 []) ⟨Y7 [(0,(.val .str s0))],Ye [],Yf []⟩)
def Y9a (x:(List UInt8×List UInt8)):Option Int:=Abs.Call E 177 x
def Z72 (s0:List UInt8) (s1:List UInt8):Option Int:=(Abs.Run E 177 (E.at 177 []) ⟨Y7 [(1,(.val .str s1)),(0,(.val .str s0))],Ye [],Yf []⟩)
def Z82 (s0:List UInt8) (s1:List UInt8) (s2:Int):Option Int:=(Abs.Run E 177 (E.at 177 [1,1,0,1,0,1,0,1,9]) ⟨Y7 [(0,(.val .str s0)),(1,(.val .str s1)),(5,(.val (.int .i32) s2))],Yc [],Yd []⟩)
def Z92 (s0:List UInt8) (s1:List UInt8) (s2:Int) (b3:(List Bool)):Option Int:=(Abs.Run E 177 (E.at 177 [1,1,1,0,1,0,1,1,0,0,1,0,7]) ⟨Y7 [(0,(.val .str s0)),(1,(.val .str s1)),(6,(.addr (.box 0) [])),(8,(.val (.int .i64) s2))],Yc [.cells (.arr 256 .bool) .live (.val (.arr 256 .bool) b3)],Yd []⟩)
def Za2 (s0:List UInt8) (s1:List UInt8):Option Int:=(Abs.Run E 177 (E.at 177 [1,1,1,0,1,9]) ⟨Y7 [(0,(.val .str s0)),(1,(.val .str s1))],Yc [],Yd []⟩)
def Zb2 (s0:List UInt8) (s1:List UInt8) (t2:List UInt8) (n3:Nat):Option Int:=(Abs.Run E 177 (E.at 177 [1,1,1,1,0,1,0,7]) ⟨Y7 [(0,(.val .str s0)),(1,(.val .str s1)),(45,(.addr (.box 0) []))],Yc [.iter t2 n3],Yd []⟩)
def Ywe (x:(Int×(List Int))):Option (List UInt8×Int):=Abs.Call E 178 x
def Zc2 (s0:Int) (s1:(List Int)):Option (List UInt8×Int):=(Abs.Run E 178 (E.at 178 []) ⟨Y7 [(1,(.val (.sl false (.int .u8)) s1)),(0,(.val (.int .i64) s0))],Ye [],Yf []⟩)
def Zd2 (s0:Int) (s1:(List Int)) (s2:(List Int)) (s3:Int) (s4:Int) (b5:(List Bool)) (r6:List Int):Option (List UInt8×Int):=(Abs.Run E 178 (E.at 178 [1,1,1,1,0,1,0,7]) ⟨Y7 [(0,(.val (.int .i64) s0)),(1,(.val (.sl false (.int .u8)) s1)),(6,(.addr (.box 0) [])),(7,(.row 0)),(16,(.val (.sl false (.int .u8)) s2)),(17,(.val (.int .i64) s3)),(18,(.val (.int .i64) s4))],Yc [.cells (.arr 256 .bool) .live (.val (.arr 256 .bool) b5)],Yd [.mk (.int .u8) .live r6]⟩)
def Yv7 (x:List UInt8):Option (List UInt8):=Abs.Call E 179 x
def Ze2 (s0:List UInt8):Option (List UInt8):=(Abs.Run E 179 (E.at 179 []) ⟨Y7 [(0,(.val .str s0))],Ye [],Yf []⟩)
def Yve (x:List UInt8):Option (List Int):=Abs.Call E 180 x
def Zf2 (s0:List UInt8):Option (List Int):=(Abs.Run E 180 (E.at 180 []) ⟨Y7 [(0,(.val .str s0))],Ye [],Yf []⟩)
def Zg2 (s0:List UInt8) (s1:Int) (r2:List Int):Option (List Int):=(Abs.Run E 180 (E.at 180 [1,1,0,1,0,7]) ⟨Y7 [(0,(.val .str s0)),(3,(.row 0)),(4,(.val (.int .i64) s1))],Yc [],Yd [.mk (.int .u8) .live r2]⟩)
def Yw7 (x:(List UInt8×Int)):Option D181:=Abs.Call E 190 x
def Zh2 (s0:List UInt8) (s1:Int):Option D181:=(Abs.Run E 190 (E.at 190 []) ⟨Y7 [(1,(.val (.int .i64) s1)),(0,(.val .str s0))],Ye [],Yf []⟩)
def YJ4 (x:(List UInt8×Int)):Option Bool:=Abs.Call E 191 x
def Zi2 (s0:List UInt8) (s1:Int):Option Bool:=(Abs.Run E 191 (E.at 191 []) ⟨Y7 [(1,(.val (.int .i32) s1)),(0,(.val .str s0))],Ye [],Yf []⟩)
def Zj2 (s0:List UInt8) (s1:Int) (t2:List UInt8) (n3:Nat):Option Bool:=(Abs.Run E 191 (E.at 191 [1,0,1,0,7]) ⟨Y7 [(0,(.val .str s0)),(1,(.val (.int .i32) s1)),(8,(.addr (.box 0) []))],Yc [.iter t2 n3],Yd []⟩)
def Yu9 (x:List UInt8):Option Bool:=Abs.Call E 192 x
def Zk2 (s0:List UInt8):Option Bool:=(Abs.Run E 192 (E.at 192 []) ⟨Y7 [(0,(.val .str s0))],Ye [],Yf []⟩)
def Y17 (x:List UInt8):Option (List UInt8×Int):=Abs.Call E 193 x
def Zl2 (s0:List UInt8):Option (List UInt8×Int):=(Abs.Run E 193 (E.at 193 []) ⟨Y7 [(0,(.val .str s0))],Ye [],Yf []⟩)
def Ydf (x:(List UInt8×Unit)):Option Int:=Abs.Call E 194 x
def Zm2 (s0:List UInt8) (s1:Unit):Option Int:=(Abs.Run E 194 (E.at 194 []) ⟨Y7 [(1,(.cl 239 0 (.val .unit s1))),(0,(.val .str s0))],Ye [],Yf []⟩)
def Yef (x:(List UInt8×Unit)):Option Int:=Abs.Call E 1194 x
def Zn2 (s0:List UInt8) (s1:Unit):Option Int:=(Abs.Run E 1194 (E.at 1194 []) ⟨Y7 [(1,(.cl 248 0 (.val .unit s1))),(0,(.val .str s0))],Ye [],Yf []⟩)
def YQ5 (x:(List UInt8×Unit)):Option Int:=Abs.Call E 2194 x
def Zo2 (s0:List UInt8) (s1:Unit):Option Int:=(Abs.Run E 2194 (E.at 2194 []) ⟨Y7 [(1,(.cl 135 0 (.val .unit s1))),(0,(.val .str s0))],Ye [],Yf []⟩)
def Yse (x:(List UInt8×List UInt8)):Option (List UInt8):=Abs.Call E 198 x
def Zp2 (s0:List UInt8) (s1:List UInt8):Option (List UInt8):=(Abs.Run E 198 (E.at 198 []) ⟨Y7 [(1,(.val .str s1)),(0,(.val .str s0))],Ye [],Yf []⟩)
def YC9 (x:List UInt8):Option (List UInt8×(Int×Int)):=Abs.Call E 204 x
def Zq2 (s0:List UInt8):Option (List UInt8×(Int×Int)):=(Abs.Run E 204 (E.at 204 []) ⟨Y7 [(0,(.val .str s0))],Ye [],Yf []⟩)
def Y27 (x:List UInt8):Option Bool:=Abs.Call E 205 x
def Zr2 (s0:List UInt8):Option Bool:=(Abs.Run E 205 (E.at 205 []) ⟨Y7 [(0,(.val .str s0))],Ye [],Yf []⟩)
def Yy9 (x:(List UInt8×List UInt8)):Option Bool:=Abs.Call E 206 x
def Zs2 (s0:List UInt8) (s1:List UInt8):Option Bool:=(Abs.Run E 206 (E.at 206 []) ⟨Y7 [(1,(.val .str s1)),(0,(.val .str s0))],Ye [],Yf []⟩)
def Yr7 (x:(List UInt8×Int)):Option Int:=Abs.Call E 216 x
def Zt2 (s0:List UInt8) (s1:Int):Option Int:=(Abs.Run E 216 (E.at 216 []) ⟨Y7 [(1,(.val (.int .i32) s1)),(0,(.val .str s0))],Ye [],Yf []⟩)
def Zu2 (s0:List UInt8) (s1:Int) (t2:List UInt8) (n3:Nat):Option Int:=(Abs.Run E 216 (E.at 216 [1,0,1,1,1,0,0,1,0,7]) ⟨Y7 [(0,(.val .str s0)),(1,(.val (.int .i32) s1)),(175,(.addr (.box 0) []))],Yc [.iter t2 n3],Yd []⟩)
def Zv2 (s0:List UInt8) (s1:Int) (s2:List UInt8) (s3:Int) (s4:Int):Option Int:=(Abs.Run E 216 (E.at 216 [1,0,1,1,1,1,1,1,0,1,1,1,1,0,0,7]) ⟨Y7 [(0,(.val .str s0)),(1,(.val (.int .i32) s1)),(7,(.val .str s2)),(8,(.val (.int .i64) s3)),(9,(.val (.int .i64) s4))],Yc [],Yd []⟩)
def Zw2 (s0:List UInt8) (s1:Int) (s2:List UInt8) (s3:Int) (s4:Int):Option Int:=(Abs.Run E 216 (E.at 216 [1,0,1,1,1,1,1,1,0,1,1,1,1,0,0,0,1,0,0,0,1,9]) ⟨Y7 [(0,(.val .str s0)),(1,(.val (.int .i32) s1)),(7,(.val .str s2)),(8,(.val (.int .i64) s3)),(9,(.val (.int .i64) s4))],Yc [],Yd []⟩)
def Ymf (x:Int):Option Bool:=Abs.Call E 217 x
def Zx2 (s0:Int):Option Bool:=(Abs.Run E 217 (E.at 217 []) ⟨Y7 [(0,(.val (.int .i64) s0))],Ye [],Yf []⟩)
def Ylf (x:List UInt8):Option ((List Bool)×Bool):=Abs.Call E 218 x
def Yhf (x:((List Bool)×Int)):Option (Bool×(List Bool)):=Abs.Call E 219 x
def Zy2 (s0:Int) (b1:(List Bool)):Option (Bool×(List Bool)):=(Abs.Run E 219 (E.at 219 []) ⟨Y7 [(1,(.val (.int .u8) s0)),(0,(.addr (.box 1073741824) []))],Ye [(1073741824,.cells (.arr 256 .bool) .live (.val (.arr 256 .bool) b1))],Yf []⟩)
def Yye (x:Int):Option Bool:=Abs.Call E 220 x
def Zz2 (s0:Int):Option Bool:=(Abs.Run E 220 (E.at 220 []) ⟨Y7 [(0,(.val (.int .i64) s0))],Ye [],Yf []⟩)
def Yxe (x:Unit):Option (List (List Bool)):=Abs.Call E 221 x
def YA9 (x:((List Int)×Int)):Option (List Int):=Abs.Call E 222 x
def Z03 (s0:Int) (r1:List Int):Option (List Int):=(Abs.Run E 222 (E.at 222 []) ⟨Y7 [(1,(.val (.int .u8) s0)),(0,(.row 1073741824))],Ye [],Yf [(1073741824,.mk (.int .u8) .live r1)]⟩)
def Yea (x:(List D181)):Option (List UInt8):=Abs.Call E 223 x
def Z13 (s0:(List D181)):Option (List UInt8):=(Abs.Run E 223 (E.at 223 []) ⟨Y7 [(0,(.val (.sl false T181) s0))],Ye [],Yf []⟩)
def Z23 (s0:(List D181)) (s1:(List D181)) (s2:Int) (s3:Int):Option (List UInt8):=(Abs.Run E 223 (E.at 223 [1,1,0,1,0,7]) ⟨Y7 [(0,(.val (.sl false T181) s0)),(3,.nils),(6,(.val (.sl false T181) s1)),(7,(.val (.int .i64) s2)),(8,(.val (.int .i64) s3))],Yc [],Yd []⟩)
def Z33 (s0:(List D181)) (s1:(List D181)) (s2:Int) (s3:Int) (r4:List Int):Option (List UInt8):=(Abs.Run E 223 (E.at 223 [1,1,0,1,0,7]) ⟨Y7 [(0,(.val (.sl false T181) s0)),(3,(.row 0)),(6,(.val (.sl false T181) s1)),(7,(.val (.int .i64) s2)),(8,(.val (.int .i64) s3))],Yc [],Yd [.mk (.int .u8) .live r4]⟩)
def Yca (x:List UInt8):Option (List D181):=Abs.Call E 224 x
def Z43 (s0:List UInt8):Option (List D181):=(Abs.Run E 224 (E.at 224 []) ⟨Y7 [(0,(.val .str s0))],Ye [],Yf []⟩)
def Z53 (s0:List UInt8) (s1:Int) (r2:List D181):Option (List D181):=(Abs.Run E 224 (E.at 224 [1,1,0,1,0,7]) ⟨Y7 [(0,(.val .str s0)),(3,(.row 0)),(4,(.val (.int .i64) s1))],Yc [],Yd [.mk T181 .live r2]⟩)
def Z63 (s0:List UInt8) (s1:Int) (b2:D181) (r3:List D181):Option (List D181):=(Abs.Run E 224 (E.at 224 [1,1,0,1,0,0,1,0,1,0,1,9]) ⟨Y7 [(0,(.val .str s0)),(3,(.row 0)),(4,(.val (.int .i64) s1)),(5,(.addr (.box 0) []))],Yc [.cells T181 .live (.val T181 b2)],Yd [.mk T181 .live r3]⟩)
def YB9 (x:(List UInt8×Int)):Option Int:=Abs.Call E 225 x
def Z73 (s0:List UInt8) (s1:Int):Option Int:=(Abs.Run E 225 (E.at 225 []) ⟨Y7 [(1,(.val (.int .i64) s1)),(0,(.val .str s0))],Ye [],Yf []⟩)
def Yof (x:List UInt8):Option (Int×Int):=Abs.Call E 238 x
def Yhe (x:Int):Option Bool:=Abs.Call E 239 x
def Z83 (s0:Int):Option Bool:=(Abs.Run E 239 (E.at 239 []) ⟨Y7 [(0,(.val (.int .i32) s0))],Ye [],Yf []⟩)
def YD9 (x:List UInt8):Option (List UInt8×Int):=Abs.Call E 240 x
def Z93 (s0:List UInt8):Option (List UInt8×Int):=(Abs.Run E 240 (E.at 240 []) ⟨Y7 [(0,(.val .str s0))],Ye [],Yf []⟩)
def Za3 (s0:List UInt8) (s1:Int) (s2:Int) (r3:List Int) (r4:List Int):Option (List UInt8×Int):=(Abs.Run E 240 (E.at 240 [1,1,1,1,1,0,1,0,7]) ⟨Y7 [(0,(.val .str s0)),(6,(.row 0)),(7,(.row 1)),(35,(.row 0)),(36,(.val (.int .i64) s1)),(37,(.val (.int .i64) s2))],Yc [],Yd [.mk (.int .i32) .live r3,.mk (.int .u8) .live r4]⟩)
def Zb3 (s0:List UInt8) (s1:Int) (s2:Int) (r3:List Int) (r4:List Int):Option (List UInt8×Int):=(Abs.Run E 240 (E.at 240 [1,1,1,1,1,1,1,1,0,1,9]) ⟨Y7 [(0,(.val .str s0)),(6,(.row 0)),(7,(.row 1)),(10,(.val (.int .i64) s1)),(11,(.val (.int .i64) s2))],Yc [],Yd [.mk (.int .i32) .live r3,.mk (.int .u8) .live r4]⟩)
def Zc3 (s0:List UInt8) (s1:Int) (s2:Int) (s3:Int) (s4:Int) (s5:Int) (r6:List Int) (r7:List Int):Option (List UInt8×Int):=(Abs.Run E 240 (E.at 240 [1,1,1,1,1,1,1,1,1,1,0,0,7]) ⟨Y7 [(0,(.val .str s0)),(6,(.row 0)),(7,(.row 1)),(10,(.val (.int .i64) s1)),(11,(.val (.int .i64) s2)),(12,(.val (.int .i32) s3)),(13,(.val (.int .i64) s4)),(14,(.val (.int .i64) s5))],Yc [],Yd [.mk (.int .i32) .live r6,.mk (.int .u8) .live r7]⟩)
def Zd3 (s0:List UInt8) (s1:Int) (s2:Int) (s3:Int) (s4:Int) (s5:Int) (s6:Int) (s7:Int) (s8:Int) (r9:List Int) (r10:List Int):Option (List UInt8×Int):=(Abs.Run E 240 (E.at 240 [1,1,1,1,1,1,1,1,1,1,0,0,0,1,0,1,0,1,0,7]) ⟨Y7 [(0,(.val .str s0)),(6,(.row 0)),(7,(.row 1)),(10,(.val (.int .i64) s1)),(11,(.val (.int .i64) s2)),(12,(.val (.int .i32) s3)),(13,(.val (.int .i64) s4)),(14,(.val (.int .i64) s5)),(15,(.val (.int .i32) s6)),(61,(.row 0)),(62,(.val (.int .i64) s7)),(63,(.val (.int .i64) s8))],Yc [],Yd [.mk (.int .i32) .live r9,.mk (.int .u8) .live r10]⟩)
def Ze3 (s0:List UInt8) (s1:Int) (s2:Int) (s3:Int) (s4:Int) (s5:Int) (s6:Int) (s7:Int) (r8:List Int) (r9:List Int):Option (List UInt8×Int):=(Abs.Run E 240 (E.at 240 [1,1,1,1,1,1,1,1,1,1,0,0,0,1,0,1,1,1,1,0,1,0,7]) ⟨Y7 [(0,(.val .str s0)),(6,(.row 0)),(7,(.row 1)),(10,(.val (.int .i64) s1)),(11,(.val (.int .i64) s2)),(12,(.val (.int .i32) s3)),(13,(.val (.int .i64) s4)),(14,(.val (.int .i64) s5)),(87,(.row 0)),(88,(.val (.int .i64) s6)),(89,(.val (.int .i64) s7))],Yc [],Yd [.mk (.int .i32) .live r8,.mk (.int .u8) .live r9]⟩)
def Zf3 (s0:List UInt8) (s1:Int) (s2:Int) (s3:Int) (s4:Int) (s5:Int) (s6:Int) (s7:Int) (s8:Int) (r9:List Int) (r10:List Int):Option (List UInt8×Int):=(Abs.Run E 240 (E.at 240 [1,1,1,1,1,1,1,1,1,1,0,0,0,1,0,1,1,1,1,0,1,0,0,1,1,0,0,1,0,1,9]) ⟨Y7 [(0,(.val .str s0)),(6,(.row 0)),(7,(.row 1)),(10,(.val (.int .i64) s1)),(11,(.val (.int .i64) s2)),(12,(.val (.int .i32) s3)),(13,(.val (.int .i64) s4)),(14,(.val (.int .i64) s5)),(19,(.val (.int .i32) s6)),(87,(.row 0)),(88,(.val (.int .i64) s7)),(89,(.val (.int .i64) s8))],Yc [],Yd [.mk (.int .i32) .live r9,.mk (.int .u8) .live r10]⟩)
def Yif (x:(List UInt8×(Unit×Bool))):Option Int:=Abs.Call E 241 x
def Zg3 (s0:List UInt8) (s1:Unit) (s2:Bool):Option Int:=(Abs.Run E 241 (E.at 241 []) ⟨Y7 [(2,(.val .bool s2)),(1,(.cl 239 0 (.val .unit s1))),(0,(.val .str s0))],Ye [],Yf []⟩)
def Zh3 (s0:List UInt8) (s1:Unit) (s2:Bool) (t3:List UInt8) (n4:Nat):Option Int:=(Abs.Run E 241 (E.at 241 [1,0,1,0,7]) ⟨Y7 [(0,(.val .str s0)),(1,(.cl 239 0 (.val .unit s1))),(2,(.val .bool s2)),(10,(.addr (.box 0) []))],Yc [.iter t3 n4],Yd []⟩)
def Ykf (x:(List UInt8×(Unit×Bool))):Option Int:=Abs.Call E 1241 x
def Zi3 (s0:List UInt8) (s1:Unit) (s2:Bool):Option Int:=(Abs.Run E 1241 (E.at 1241 []) ⟨Y7 [(2,(.val .bool s2)),(1,(.cl 248 0 (.val .unit s1))),(0,(.val .str s0))],Ye [],Yf []⟩)
def Zj3 (s0:List UInt8) (s1:Unit) (s2:Bool) (t3:List UInt8) (n4:Nat):Option Int:=(Abs.Run E 1241 (E.at 1241 [1,0,1,0,7]) ⟨Y7 [(0,(.val .str s0)),(1,(.cl 248 0 (.val .unit s1))),(2,(.val .bool s2)),(10,(.addr (.box 0) []))],Yc [.iter t3 n4],Yd []⟩)
def Yjf (x:(List UInt8×(Unit×Bool))):Option Int:=Abs.Call E 2241 x
def Zk3 (s0:List UInt8) (s1:Unit) (s2:Bool):Option Int:=(Abs.Run E 2241 (E.at 2241 []) ⟨Y7 [(2,(.val .bool s2)),(1,(.cl 135 0 (.val .unit s1))),(0,(.val .str s0))],Ye [],Yf []⟩)
def Zl3 (s0:List UInt8) (s1:Unit) (s2:Bool) (t3:List UInt8) (n4:Nat):Option Int:=(Abs.Run E 2241 (E.at 2241 [1,0,1,0,7]) ⟨Y7 [(0,(.val .str s0)),(1,(.cl 135 0 (.val .unit s1))),(2,(.val .bool s2)),(10,(.addr (.box 0) []))],Yc [.iter t3 n4],Yd []⟩)
def Yqe (x:(List UInt8×List UInt8)):Option Bool:=Abs.Call E 244 x
def Zm3 (s0:List UInt8) (s1:List UInt8):Option Bool:=(Abs.Run E 244 (E.at 244 []) ⟨Y7 [(1,(.val .str s1)),(0,(.val .str s0))],Ye [],Yf []⟩)
def Y37 (x:List UInt8):Option (List UInt8×(Int×Int)):=Abs.Call E 247 x
def Zn3 (s0:List UInt8):Option (List UInt8×(Int×Int)):=(Abs.Run E 247 (E.at 247 []) ⟨Y7 [(0,(.val .str s0))],Ye [],Yf []⟩)
def Zo3 (s0:List UInt8) (s1:Int) (s2:Int):Option (List UInt8×(Int×Int)):=(Abs.Run E 247 (E.at 247 [1,0,1,0,7]) ⟨Y7 [(0,(.val .str s0)),(19,(.val (.int .i64) s1)),(20,(.val (.int .i64) s2))],Yc [],Yd []⟩)
def Zp3 (s0:List UInt8) (s1:Int) (r2:List Int):Option (List UInt8×(Int×Int)):=(Abs.Run E 247 (E.at 247 [1,1,1,1,0,1,9]) ⟨Y7 [(0,(.val .str s0)),(6,(.row 0)),(7,(.val (.int .i64) s1))],Yc [],Yd [.mk (.int .i32) .live r2]⟩)
def Zq3 (s0:List UInt8) (s1:Int):Option (List UInt8×(Int×Int)):=(Abs.Run E 247 (E.at 247 [1,1,1,1,0,1,9]) ⟨Y7 [(0,(.val .str s0)),(6,.nils),(7,(.val (.int .i64) s1))],Yc [],Yd []⟩)
def Zr3 (s0:List UInt8) (s1:Int) (s2:Int) (s3:Int) (s4:Int) (s5:Int) (r6:List Int):Option (List UInt8×(Int×Int)):=(Abs.Run E 247 (E.at 247 [1,1,1,1,1,1,1,0,0,7]) ⟨Y7 [(0,(.val .str s0)),(6,(.row 0)),(7,(.val (.int .i64) s1)),(8,(.val (.int .i64) s2)),(9,(.val (.int .i64) s3)),(10,(.val (.int .i64) s4)),(11,(.val (.int .i64) s5))],Yc [],Yd [.mk (.int .i32) .live r6]⟩)
def Zs3 (s0:List UInt8) (s1:Int) (s2:Int) (s3:Int) (s4:Int) (s5:Int):Option (List UInt8×(Int×Int)):=(Abs.Run E 247 (E.at 247 [1,1,1,1,1,1,1,0,0,7]) ⟨Y7 [(0,(.val .str s0)),(6,.nils),(7,(.val (.int .i64) s1)),(8,(.val (.int .i64) s2)),(9,(.val (.int .i64) s3)),(10,(.val (.int .i64) s4)),(11,(.val (.int .i64) s5))],Yc [],Yd []⟩)
def YCe (x:Int):Option Bool:=Abs.Call E 248 x
def Zt3 (s0:Int):Option Bool:=(Abs.Run E 248 (E.at 248 []) ⟨Y7 [(0,(.val (.int .i32) s0))],Ye [],Yf []⟩)
def Yt7 (x:Int):Option Bool:=Abs.Call E 256 x
def Zu3 (s0:Int):Option Bool:=(Abs.Run E 256 (E.at 256 []) ⟨Y7 [(0,(.val (.int .i32) s0))],Ye [],Yf []⟩)
def Ys7 (x:((List Int)×Int)):Option (List Int):=Abs.Call E 258 x
def Zv3 (s0:Int) (r1:List Int):Option (List Int):=(Abs.Run E 258 (E.at 258 []) ⟨Y7 [(1,(.val (.int .i32) s0)),(0,(.row 1073741824))],Ye [],Yf [(1073741824,.mk (.int .u8) .live r1)]⟩)
def Yfa (x:List UInt8):Option Int:=Abs.Call E 259 x
def Zw3 (s0:List UInt8):Option Int:=(Abs.Run E 259 (E.at 259 []) ⟨Y7 [(0,(.val .str s0))],Ye [],Yf []⟩)
def Zx3 (s0:List UInt8) (s1:Int) (s2:Int) (s3:Int) (s4:Int):Option Int:=(Abs.Run E 259 (E.at 259 [1,1,1,0,0,7]) ⟨Y7 [(0,(.val .str s0)),(3,(.val (.int .u8) s1)),(4,(.val (.int .u8) s2)),(5,(.val (.int .i64) s3)),(6,(.val (.int .i64) s4))],Yc [],Yd []⟩)
def Y07 (x:Int):Option Int:=Abs.Call E 260 x
def Zy3 (s0:Int):Option Int:=(Abs.Run E 260 (E.at 260 []) ⟨Y7 [(0,(.val (.int .u8) s0))],Ye [],Yf []⟩)
def YE9 (x:((List Int)×(Int×Int))):Option (List Int):=Abs.Call E 270 x
def Zz3 (s0:Int) (s1:Int) (r2:List Int):Option (List Int):=(Abs.Run E 270 (E.at 270 []) ⟨Y7 [(2,(.val (.int .i64) s1)),(1,(.val (.int .i64) s0)),(0,(.row 1073741824))],Ye [],Yf [(1073741824,.mk (.int .u8) .live r2)]⟩)
def Z04 (s0:Int) (s1:Int) (s2:Int) (r3:List Int):Option (List Int):=(Abs.Run E 270 (E.at 270 [1,1,0,7]) ⟨Y7 [(0,(.row 0)),(1,(.val (.int .i64) s0)),(2,(.val (.int .i64) s1)),(7,(.val (.int .i64) s2))],Yc [],Yd [.mk (.int .u8) .live r3]⟩)
def YC5 (x:(Int×(Int×Bool))):Option Int:=Abs.Call E 271 x
def Z14 (s0:Int) (s1:Int) (s2:Bool):Option Int:=(Abs.Run E 271 (E.at 271 []) ⟨Y7 [(2,(.val .bool s2)),(1,(.val (.int .i64) s1)),(0,(.val (.int .i64) s0))],Ye [],Yf []⟩)
def Z24 (s0:Int) (s1:Int) (s2:Bool):Option Int:=(Abs.Run E 271 (E.at 271 [1,0,1,9]) ⟨Y7 [(0,(.val (.int .i64) s0)),(1,(.val (.int .i64) s1)),(2,(.val .bool s2))],Yc [],Yd []⟩)
def Z34 (s0:Int) (s1:Int) (s2:Bool) (s3:Int):Option Int:=(Abs.Run E 271 (E.at 271 [1,1,1,1,0,0,7]) ⟨Y7 [(0,(.val (.int .i64) s0)),(1,(.val (.int .i64) s1)),(2,(.val .bool s2)),(7,(.val (.int .i64) s3))],Yc [],Yd []⟩)
def Yaa (x:(List UInt8×Int)):Option Int:=Abs.Call E 275 x
def Z44 (s0:List UInt8) (s1:Int):Option Int:=(Abs.Run E 275 (E.at 275 []) ⟨Y7 [(1,(.val (.int .u8) s1)),(0,(.val .str s0))],Ye [],Yf []⟩)
def Y47 (x:(List UInt8×(Int×(Int×Int)))):Option (Int×(Int×(Int×Int))):=Abs.Call E 276 x
def Z54 (s0:List UInt8) (s1:Int) (s2:Int) (s3:Int):Option (Int×(Int×(Int×Int))):=(Abs.Run E 276 (E.at 276 []) ⟨Y7 [(3,(.val (.int .i64) s3)),(2,(.val (.int .i64) s2)),(1,(.val (.int .i64) s1)),(0,(.val .str s0))],Ye [],Yf []⟩)
def Z64 (s0:List UInt8) (s1:Int) (s2:Int) (s3:Int) (s4:Int) (s5:Int) (s6:Int):Option (Int×(Int×(Int×Int))):=(Abs.Run E 276 (E.at 276 [1,1,1,1,0,7]) ⟨Y7 [(0,(.val .str s0)),(1,(.val (.int .i64) s1)),(2,(.val (.int .i64) s2)),(3,(.val (.int .i64) s3)),(12,(.val (.int .i64) s4)),(13,(.val (.int .i64) s5)),(14,(.val (.int .i64) s6))],Yc [],Yd []⟩)
def Z74 (s0:List UInt8) (s1:Int) (s2:Int) (s3:Int) (s4:Int) (s5:Int) (s6:Int) (s7:Int):Option (Int×(Int×(Int×Int))):=(Abs.Run E 276 (E.at 276 [1,1,1,1,0,0,0,0,1,1,0,1,1,9]) ⟨Y7 [(0,(.val .str s0)),(1,(.val (.int .i64) s1)),(2,(.val (.int .i64) s2)),(3,(.val (.int .i64) s3)),(12,(.val (.int .i64) s4)),(13,(.val (.int .i64) s5)),(14,(.val (.int .i64) s6)),(15,(.val (.int .i64) s7))],Yc [],Yd []⟩)
def Yb4 (x:((List Int)×(Int×(List Int)))):Option (List Int):=Abs.Call E 277 x
def Ypf (x:((List Int)×Int)):Option (List Int):=Abs.Call E 282 x
def Z84 (s0:Int) (r1:List Int):Option (List Int):=(Abs.Run E 282 (E.at 282 []) ⟨Y7 [(1,(.val (.int .i32) s0)),(0,(.row 1073741824))],Ye [],Yf [(1073741824,.mk (.int .u8) .live r1)]⟩)
def Z94 (s0:Int) (s1:Int) (s2:Bool) (r3:List Int):Option (List Int):=(Abs.Run E 282 (E.at 282 [1,1,0,1,1,0,1,9]) ⟨Y7 [(0,(.row 0)),(1,(.val (.int .i32) s0)),(5,(.val (.int .u32) s1)),(25,(.val .bool s2))],Yc [],Yd [.mk (.int .u8) .live r3]⟩)
def Yda (x:Int):Option (Int×(Int×Int)):=Abs.Call E 283 x
def Za4 (s0:Int):Option (Int×(Int×Int)):=(Abs.Run E 283 (E.at 283 []) ⟨Y7 [(0,(.val (.int .u8) s0))],Ye [],Yf []⟩)
def Y57 (x:(Int×Int)):Option Int:=Abs.Call E 290 x
def Zb4 (s0:Int) (s1:Int):Option Int:=(Abs.Run E 290 (E.at 290 []) ⟨Y7 [(1,(.val (.int .i64) s1)),(0,(.val (.int .i64) s0))],Ye [],Yf []⟩)
def Yne (x:(List UInt8×Int)):Option Int:=Abs.Call E 292 x
def Zc4 (s0:List UInt8) (s1:Int):Option Int:=(Abs.Run E 292 (E.at 292 []) ⟨Y7 [(1,(.val (.int .u8) s1)),(0,(.val .str s0))],Ye [],Yf []⟩)
def Zd4 (s0:List UInt8) (s1:Int) (s2:Int):Option Int:=(Abs.Run E 292 (E.at 292 [1,0,1,0,7]) ⟨Y7 [(0,(.val .str s0)),(1,(.val (.int .u8) s1)),(5,(.val (.int .i64) s2))],Yc [],Yd []⟩)
theorem YCm (x:(List UInt8×Bool)):Yt9 x=
 Zr1 x.1 x.2:=by kernel_rfl
theorem Ybl (s0:List UInt8) (s1:Bool):Zr1 s0 s1=
 bif (decide ((((length s0):Nat):Int) > 65536)) then
 some (((Ty.zero (.int .i64)),((Ty.zero .str),((Ty.zero (.int .u32)),(Ty.zero (.arr 8 (.int .u16)))))),(5:Int))
 else
 bif (!(s0==([]:List UInt8))) then
 bif (Ya (0:Int) (length s0)) then
 bif ((((UInt8.toNat (getD s0 (Int.toNat (0:Int)) (0:UInt8))):Nat):Int)==91) then
 bif (Ya (wrap i64 ((((length s0):Nat):Int) - 1)) (length s0)) then
 bif ((((UInt8.toNat (getD s0 (Int.toNat (wrap i64 ((((length s0):Nat):Int) - 1))) (0:UInt8))):Nat):Int) !=93) then
 some (((Ty.zero (.int .i64)),((Ty.zero .str),((Ty.zero (.int .u32)),(Ty.zero (.arr 8 (.int .u16)))))),(51:Int))
 else
 bif (decide ((((length s0):Nat):Int) < 2)) then
 some (((Ty.zero (.int .i64)),((Ty.zero .str),((Ty.zero (.int .u32)),(Ty.zero (.arr 8 (.int .u16)))))),(51:Int))
 else
 bif (Yi (some (1:Int)) (some (wrap i64 ((((length s0):Nat):Int) - 1))) (length s0)) then
 (Yr9 (Ym (some (1:Int)) (some (wrap i64 ((((length s0):Nat):Int) - 1))) s0)).bind fun y0=>
 bif (y0.2 !=0) then
 some (((Ty.zero (.int .i64)),((Ty.zero .str),((Ty.zero (.int .u32)),(Ty.zero (.arr 8 (.int .u16)))))),y0.2)
 else
 some (((3:Int),((Ty.zero .str),((Ty.zero (.int .u32)),y0.1))),(0:Int))
 else
 none
 else
 none
 else
 bif (!s1) then
 bif (s0==([]:List UInt8)) then
 some (((5:Int),((Ty.zero .str),((Ty.zero (.int .u32)),(Ty.zero (.arr 8 (.int .u16)))))),(0:Int))
 else
 bif (!s1) then
 (Yc4 (s0,([0,9,10,13,32,35,47,58,60,62,63,64,91,92,93,94,124]:List UInt8))).bind fun y0=>
 bif y0 then
 some (((Ty.zero (.int .i64)),((Ty.zero .str),((Ty.zero (.int .u32)),(Ty.zero (.arr 8 (.int .u16)))))),(52:Int))
 else
 (Y94 ((1:Int),s0)).bind fun y1=>
 bif (decide ((((length y1.1):Nat):Int) > 65536)) then
 some (((Ty.zero (.int .i64)),((Ty.zero .str),((Ty.zero (.int .u32)),(Ty.zero (.arr 8 (.int .u16)))))),(5:Int))
 else
 some (((4:Int),(y1.1,((Ty.zero (.int .u32)),(Ty.zero (.arr 8 (.int .u16)))))),(0:Int))
 else
 (Y84 s0).bind fun y0=>
 (Y64 y0).bind fun y1=>
 bif (y1.2 !=0) then
 some (((Ty.zero (.int .i64)),((Ty.zero .str),((Ty.zero (.int .u32)),(Ty.zero (.arr 8 (.int .u16)))))),y1.2)
 else
 bif (y1.1==([]:List UInt8)) then
 some (((Ty.zero (.int .i64)),((Ty.zero .str),((Ty.zero (.int .u32)),(Ty.zero (.arr 8 (.int .u16)))))),(51:Int))
 else
 Zs1 s0 s1 y1.1 (((length y1.1):Nat):Int) (0:Int) ((Ty.zero (.int .i64)),((Ty.zero .str),((Ty.zero (.int .u32)),(Ty.zero (.arr 8 (.int .u16))))))
 else
 bif (!s1) then
 (Yc4 (s0,([0,9,10,13,32,35,47,58,60,62,63,64,91,92,93,94,124]:List UInt8))).bind fun y0=>
 bif y0 then
 some (((Ty.zero (.int .i64)),((Ty.zero .str),((Ty.zero (.int .u32)),(Ty.zero (.arr 8 (.int .u16)))))),(52:Int))
 else
 (Y94 ((1:Int),s0)).bind fun y1=>
 bif (decide ((((length y1.1):Nat):Int) > 65536)) then
 some (((Ty.zero (.int .i64)),((Ty.zero .str),((Ty.zero (.int .u32)),(Ty.zero (.arr 8 (.int .u16)))))),(5:Int))
 else
 some (((4:Int),(y1.1,((Ty.zero (.int .u32)),(Ty.zero (.arr 8 (.int .u16)))))),(0:Int))
 else
 (Y84 s0).bind fun y0=>
 (Y64 y0).bind fun y1=>
 bif (y1.2 !=0) then
 some (((Ty.zero (.int .i64)),((Ty.zero .str),((Ty.zero (.int .u32)),(Ty.zero (.arr 8 (.int .u16)))))),y1.2)
 else
 bif (y1.1==([]:List UInt8)) then
 some (((Ty.zero (.int .i64)),((Ty.zero .str),((Ty.zero (.int .u32)),(Ty.zero (.arr 8 (.int .u16)))))),(51:Int))
 else
 Zs1 s0 s1 y1.1 (((length y1.1):Nat):Int) (0:Int) ((Ty.zero (.int .i64)),((Ty.zero .str),((Ty.zero (.int .u32)),(Ty.zero (.arr 8 (.int .u16))))))
 else
 none
 else
 bif (!s1) then
 bif (s0==([]:List UInt8)) then
 some (((5:Int),((Ty.zero .str),((Ty.zero (.int .u32)),(Ty.zero (.arr 8 (.int .u16)))))),(0:Int))
 else
 bif (!s1) then
 (Yc4 (s0,([0,9,10,13,32,35,47,58,60,62,63,64,91,92,93,94,124]:List UInt8))).bind fun y0=>
 bif y0 then
 some (((Ty.zero (.int .i64)),((Ty.zero .str),((Ty.zero (.int .u32)),(Ty.zero (.arr 8 (.int .u16)))))),(52:Int))
 else
 (Y94 ((1:Int),s0)).bind fun y1=>
 bif (decide ((((length y1.1):Nat):Int) > 65536)) then
 some (((Ty.zero (.int .i64)),((Ty.zero .str),((Ty.zero (.int .u32)),(Ty.zero (.arr 8 (.int .u16)))))),(5:Int))
 else
 some (((4:Int),(y1.1,((Ty.zero (.int .u32)),(Ty.zero (.arr 8 (.int .u16)))))),(0:Int))
 else
 (Y84 s0).bind fun y0=>
 (Y64 y0).bind fun y1=>
 bif (y1.2 !=0) then
 some (((Ty.zero (.int .i64)),((Ty.zero .str),((Ty.zero (.int .u32)),(Ty.zero (.arr 8 (.int .u16)))))),y1.2)
 else
 bif (y1.1==([]:List UInt8)) then
 some (((Ty.zero (.int .i64)),((Ty.zero .str),((Ty.zero (.int .u32)),(Ty.zero (.arr 8 (.int .u16)))))),(51:Int))
 else
 Zs1 s0 s1 y1.1 (((length y1.1):Nat):Int) (0:Int) ((Ty.zero (.int .i64)),((Ty.zero .str),((Ty.zero (.int .u32)),(Ty.zero (.arr 8 (.int .u16))))))
 else
 bif (!s1) then
 (Yc4 (s0,([0,9,10,13,32,35,47,58,60,62,63,64,91,92,93,94,124]:List UInt8))).bind fun y0=>
 bif y0 then
 some (((Ty.zero (.int .i64)),((Ty.zero .str),((Ty.zero (.int .u32)),(Ty.zero (.arr 8 (.int .u16)))))),(52:Int))
 else
 (Y94 ((1:Int),s0)).bind fun y1=>
 bif (decide ((((length y1.1):Nat):Int) > 65536)) then
 some (((Ty.zero (.int .i64)),((Ty.zero .str),((Ty.zero (.int .u32)),(Ty.zero (.arr 8 (.int .u16)))))),(5:Int))
 else
 some (((4:Int),(y1.1,((Ty.zero (.int .u32)),(Ty.zero (.arr 8 (.int .u16)))))),(0:Int))
 else
 (Y84 s0).bind fun y0=>
 (Y64 y0).bind fun y1=>
 bif (y1.2 !=0) then
 some (((Ty.zero (.int .i64)),((Ty.zero .str),((Ty.zero (.int .u32)),(Ty.zero (.arr 8 (.int .u16)))))),y1.2)
 else
 bif (y1.1==([]:List UInt8)) then
 some (((Ty.zero (.int .i64)),((Ty.zero .str),((Ty.zero (.int .u32)),(Ty.zero (.arr 8 (.int .u16)))))),(51:Int))
 else
 Zs1 s0 s1 y1.1 (((length y1.1):Nat):Int) (0:Int) ((Ty.zero (.int .i64)),((Ty.zero .str),((Ty.zero (.int .u32)),(Ty.zero (.arr 8 (.int .u16)))))):=by unfold Zr1; rewrite [Y8]; kernel_rfl
theorem Yvd (s0:List UInt8) (s1:Bool) (s2:List UInt8) (s3:Int) (s4:Int) (b5:D35):Zs1 s0 s1 s2 s3 s4 b5=
 bif (decide (s4 < s3)) then
 bif (Ya s4 (length s2)) then
 bif (decide ((((UInt8.toNat (getD s2 (Int.toNat s4) (0:UInt8))):Nat):Int) < 32)) then
 some (((Ty.zero (.int .i64)),((Ty.zero .str),((Ty.zero (.int .u32)),(Ty.zero (.arr 8 (.int .u16)))))),(52:Int))
 else
 bif ((((UInt8.toNat (getD s2 (Int.toNat s4) (0:UInt8))):Nat):Int)==37) then
 some (((Ty.zero (.int .i64)),((Ty.zero .str),((Ty.zero (.int .u32)),(Ty.zero (.arr 8 (.int .u16)))))),(52:Int))
 else
 bif ((((UInt8.toNat (getD s2 (Int.toNat s4) (0:UInt8))):Nat):Int)==127) then
 some (((Ty.zero (.int .i64)),((Ty.zero .str),((Ty.zero (.int .u32)),(Ty.zero (.arr 8 (.int .u16)))))),(52:Int))
 else
 (Yd4 (([0,9,10,13,32,35,47,58,60,62,63,64,91,92,93,94,124]:List UInt8),(((UInt8.toNat (getD s2 (Int.toNat s4) (0:UInt8))):Nat):Int))).bind fun y0=>
 bif (decide (y0>=0)) then
 some (((Ty.zero (.int .i64)),((Ty.zero .str),((Ty.zero (.int .u32)),(Ty.zero (.arr 8 (.int .u16)))))),(52:Int))
 else
 Zs1 s0 s1 s2 s3 (wrap i64 (s4+1)) b5
 else
 none
 else
 (Yp9 s2).bind fun y0=>
 bif y0 then
 (Yq9 s2).bind fun y1=>
 bif (y1.2 !=0) then
 some (((Ty.zero (.int .i64)),((Ty.zero .str),((Ty.zero (.int .u32)),(Ty.zero (.arr 8 (.int .u16)))))),y1.2)
 else
 some (((2:Int),((Ty.zero .str),(y1.1,(Ty.zero (.arr 8 (.int .u16)))))),(0:Int))
 else
 some (((1:Int),(s2,((Ty.zero (.int .u32)),(Ty.zero (.arr 8 (.int .u16)))))),(0:Int)):=by unfold Zs1; rewrite [Y8]; kernel_rfl
theorem YEm (x:List UInt8):Y64 x=
 Zt1 x:=by kernel_rfl
theorem Yll (s0:List UInt8):Zt1 s0=
 (Yu7 s0).bind fun y0=>
 bif (!y0.1) then
 some (([]:List UInt8),(21:Int))
 else
 bif (decide ((((length s0):Nat):Int) > 65536)) then
 some (([]:List UInt8),(5:Int))
 else
 bif (s0==([]:List UInt8)) then
 some (([]:List UInt8),(0:Int))
 else
 Zu1 s0 (0:Int) s0 0 ([]:List (List UInt8)):=by unfold Zt1; rewrite [Y8]; kernel_rfl
theorem YAd (s0:List UInt8) (s1:Int) (t2:List UInt8) (n3:Nat) (r4:List (List UInt8)):Zu1 s0 s1 t2 n3 r4=
 bif (decide (n3 < (length t2))) then
 (YU6 (((Yx t2 n3).1:Nat):Int)).bind fun y0=>
 bif y0 then
 bif (Yi (some s1) (some ((n3:Nat):Int)) (length s0)) then
 bif (decide (((length r4)+(length ([(Ym (some s1) (some ((n3:Nat):Int)) s0)]:List (List UInt8))))<=(lim))) then
 Zu1 s0 (wrap i64 (((n3:Nat):Int)+(((length (Yy1 (((Yx t2 n3).1:Nat):Int))):Nat):Int))) t2 (n3+(Yx t2 n3).2) (r4++([(Ym (some s1) (some ((n3:Nat):Int)) s0)]:List (List UInt8)))
 else
 none
 else
 none
 else
 Zu1 s0 s1 t2 (n3+(Yx t2 n3).2) r4
 else
 bif (Yi (some s1) none (length s0)) then
 bif (decide (((length r4)+(length ([(Ym (some s1) none s0)]:List (List UInt8))))<=(lim))) then
 Zv1 s0 (((length (r4++([(Ym (some s1) none s0)]:List (List UInt8)))):Nat):Int) (0:Int) (r4++([(Ym (some s1) none s0)]:List (List UInt8)))
 else
 none
 else
 none:=by unfold Zu1; rewrite [Y8]; kernel_rfl
theorem YDd (s0:List UInt8) (s1:Int) (s2:Int) (r3:List (List UInt8)):Zv1 s0 s1 s2 r3=
 bif (decide (s2 < s1)) then
 bif (Ya s2 (length r3)) then
 bif (s2==(wrap i64 ((((length r3):Nat):Int) - 1))) then
 (Yz5 ((getD r3 (Int.toNat s2) (Ty.zero .str)),(decide (s2 > 0)))).bind fun y0=>
 bif (y0.2 !=0) then
 some (([]:List UInt8),y0.2)
 else
 bif (Ya s2 (length r3)) then
 Zv1 s0 s1 (wrap i64 (s2+1)) (List.set r3 (Int.toNat s2) y0.1)
 else
 none
 else
 (Yz5 ((getD r3 (Int.toNat s2) (Ty.zero .str)),false)).bind fun y0=>
 bif (y0.2 !=0) then
 some (([]:List UInt8),y0.2)
 else
 bif (Ya s2 (length r3)) then
 Zv1 s0 s1 (wrap i64 (s2+1)) (List.set r3 (Int.toNat s2) y0.1)
 else
 none
 else
 none
 else
 (Ygf (r3,([46]:List UInt8))).bind fun y0=>
 (Yba (y0,([46]:List UInt8))).bind fun y1=>
 bif (decide ((((length y1):Nat):Int) > 253)) then
 some (([]:List UInt8),(5:Int))
 else
 some (y0,(0:Int)):=by unfold Zv1; rewrite [Y8]; kernel_rfl
theorem YAm (x:List UInt8):Ys9 x=
 Zw1 x:=by kernel_rfl
theorem Yyl (s0:List UInt8):Zw1 s0=
 bif (s0==([]:List UInt8)) then
 some ([]:List (List UInt8))
 else
 (YL4 (s0,(46:Int))).bind fun y0=>
 bif (Ya (wrap i64 ((((length y0):Nat):Int) - 1)) (length y0)) then
 bif ((getD y0 (Int.toNat (wrap i64 ((((length y0):Nat):Int) - 1))) (Ty.zero .str))==([]:List UInt8)) then
 bif (Yi none (some (wrap i64 ((((length y0):Nat):Int) - 1))) (length y0)) then
 some (List.take (Option.getD (Option.map (Int.toNat) (some (wrap i64 ((((length y0):Nat):Int) - 1)))) (length y0)) y0)
 else
 none
 else
 some y0
 else
 none:=by unfold Zw1; rewrite [Y8]; kernel_rfl
theorem Y2p (x:(List UInt8×List UInt8)):Yc4 x=
 Zx1 x.1 x.2:=by kernel_rfl
theorem YEl (s0:List UInt8) (s1:List UInt8):Zx1 s0 s1=
 (Y9a (s0,s1)).bind fun y0=>
 some (decide (y0>=0)):=by unfold Zx1; rewrite [Y8]; kernel_rfl
theorem Ygn (x:(Int×List UInt8)):Y94 x=
 Zy1 x.1 x.2:=by kernel_rfl
theorem YIl (s0:Int) (s1:List UInt8):Zy1 s0 s1=
 (Yv7 s1).bind fun y0=>
 (Ywe (s0,(YL y0))).bind fun y1=>
 some (y1.1,y1.2):=by unfold Zy1; rewrite [Y8]; kernel_rfl
theorem Ydn (x:List UInt8):Y84 x=
 Zz1 x:=by kernel_rfl
theorem YPl (s0:List UInt8):Zz1 s0=
 (Yve s0).bind fun y0=>
 (Yv7 (Yn y0)).bind fun y1=>
 some y1:=by unfold Zz1; rewrite [Y8]; kernel_rfl
theorem Yqp (x:List UInt8):Yu7 x=
 Z02 x:=by kernel_rfl
theorem YRi (s0:List UInt8):Z02 s0=
 Z12 s0 s0 0:=by unfold Z02; rewrite [Y8]; kernel_rfl
theorem Ypc (s0:List UInt8) (t1:List UInt8) (n2:Nat):Z12 s0 t1 n2=
 bif (decide (n2 < (length t1))) then
 (Yw7 (s0,((n2:Nat):Int))).bind fun y0=>
 bif y0.2.2.2 then
 some (false,((n2:Nat):Int))
 else
 Z12 s0 t1 (n2+(Yx t1 n2).2)
 else
 some (true,(0:Int)):=by unfold Z12; rewrite [Y8]; kernel_rfl
theorem YNm (x:Int):YU6 x=
 Z22 x:=by kernel_rfl
theorem Y3j (s0:Int):Z22 s0=
 bif (s0==46) then
 some true
 else
 bif (s0==12290) then
 some true
 else
 bif (s0==65294) then
 some true
 else
 some (s0==65377):=by unfold Z22; rewrite [Y8]; kernel_rfl
theorem YPm (x:(List UInt8×Bool)):Yz5 x=
 Z32 x.1 x.2:=by kernel_rfl
theorem Yaj (s0:List UInt8) (s1:Bool):Z32 s0 s1=
 (Yu3 s0).bind fun y0=>
 (YJ4 (y0,(65533:Int))).bind fun y1=>
 (Yu9 y0).bind fun y2=>
 bif (!y2) then
 bif (!y1) then
 (Y17 y0).bind fun y3=>
 bif (y3.2 !=0) then
 some (([]:List UInt8),(53:Int))
 else
 Z42 y3.1 s1 y1
 else
 Z42 y0 s1 y1
 else
 Z42 y0 s1 y1:=by unfold Z32; rewrite [Y8]; kernel_rfl
theorem YX8 (s0:List UInt8) (s1:Bool) (s2:Bool):Z42 s0 s1 s2=
 bif s2 then
 some (([]:List UInt8),(53:Int))
 else
 bif (decide ((((length s0):Nat):Int) > 63)) then
 some (([]:List UInt8),(53:Int))
 else
 bif (s0==([]:List UInt8)) then
 bif (!s1) then
 some (([]:List UInt8),(53:Int))
 else
 (YO4 (s0,([120,110,45,45]:List UInt8))).bind fun y0=>
 bif y0 then
 (YB5 s0).bind fun y1=>
 bif (y1.2 !=0) then
 some (([]:List UInt8),(53:Int))
 else
 (YJ4 (y1.1,(65533:Int))).bind fun y2=>
 bif y2 then
 some (([]:List UInt8),(53:Int))
 else
 (YQ5 (y1.1,())).bind fun y3=>
 bif (decide (y3>=0)) then
 some (([]:List UInt8),(53:Int))
 else
 some (s0,(0:Int))
 else
 some (s0,(0:Int))
 else
 (YO4 (s0,([120,110,45,45]:List UInt8))).bind fun y0=>
 bif y0 then
 (YB5 s0).bind fun y1=>
 bif (y1.2 !=0) then
 some (([]:List UInt8),(53:Int))
 else
 (YJ4 (y1.1,(65533:Int))).bind fun y2=>
 bif y2 then
 some (([]:List UInt8),(53:Int))
 else
 (YQ5 (y1.1,())).bind fun y3=>
 bif (decide (y3>=0)) then
 some (([]:List UInt8),(53:Int))
 else
 some (s0,(0:Int))
 else
 some (s0,(0:Int)):=by unfold Z42; rewrite [Y8]; kernel_rfl
theorem Ydp (x:((List (List UInt8))×List UInt8)):Ygf x=Yx4 x:=by kernel_rfl
theorem Yfp (x:(List UInt8×List UInt8)):Yba x=
 Z52 x.1 x.2:=by kernel_rfl
theorem Yjj (s0:List UInt8) (s1:List UInt8):Z52 s0 s1=
 (Yse (s0,s1)).bind fun y0=>
 some y0:=by unfold Z52; rewrite [Y8]; kernel_rfl
theorem Yun (x:List UInt8):YB5 x=
 Z62 x:=by kernel_rfl
theorem Ynj (s0:List UInt8):Z62 s0=
 bif (decide ((((length s0):Nat):Int) < 4)) then
 some (s0,(0:Int))
 else
 bif (Yi none (some (4:Int)) (length s0)) then
 (Yu3 (Ym none (some (4:Int)) s0)).bind fun y0=>
 bif (!(y0==([120,110,45,45]:List UInt8))) then
 some (s0,(0:Int))
 else
 bif (Yi (some (4:Int)) none (length s0)) then
 (YC9 (Ym (some (4:Int)) none s0)).bind fun y1=>
 bif (y1.2.1 !=0) then
 some (([]:List UInt8),y1.2.1)
 else
 (Y17 y1.1).bind fun y2=>
 bif (y2.2 !=0) then
 some (([]:List UInt8),(31:Int))
 else
 (Y27 y1.1).bind fun y3=>
 bif y3 then
 some (([]:List UInt8),(31:Int))
 else
 (Yy9 (y2.1,s0)).bind fun y4=>
 bif (!y4) then
 some (([]:List UInt8),(31:Int))
 else
 some (y1.1,(0:Int))
 else
 none
 else
 none:=by unfold Z62; rewrite [Y8]; kernel_rfl
theorem Y8p (x:(List UInt8×List UInt8)):Y9a x=
 Z72 x.1 x.2:=by kernel_rfl
theorem Yuj (s0:List UInt8) (s1:List UInt8):Z72 s0 s1=
 bif (s1==([]:List UInt8)) then
 some (-(1:Int))
 else
 bif ((((length s1):Nat):Int)==1) then
 bif (Ya (0:Int) (length s1)) then
 bif (decide ((wrap i32 (((UInt8.toNat (getD s1 (Int.toNat (0:Int)) (0:UInt8))):Nat):Int))>=128)) then
 Z82 s0 s1 (65533:Int)
 else
 Z82 s0 s1 (wrap i32 (((UInt8.toNat (getD s1 (Int.toNat (0:Int)) (0:UInt8))):Nat):Int))
 else
 none
 else
 (Ymf (((length s0):Nat):Int)).bind fun y0=>
 bif y0 then
 (Ylf s1).bind fun y1=>
 bif y1.2 then
 Z92 s0 s1 (0:Int) y1.1
 else
 Za2 s0 s1
 else
 Za2 s0 s1:=by unfold Z72; rewrite [Y8]; kernel_rfl
theorem YIc (s0:List UInt8) (s1:List UInt8) (s2:Int) (b3:(List Bool)):Z92 s0 s1 s2 b3=
 bif (decide (s2 < (((length s0):Nat):Int))) then
 bif (Ya s2 (length s0)) then
 (Yhf (b3,(((UInt8.toNat (getD s0 (Int.toNat s2) (0:UInt8))):Nat):Int))).bind fun y0=>
 bif y0.1 then
 some s2
 else
 Z92 s0 s1 (wrap i64 (s2+1)) y0.2
 else
 none
 else
 some (-(1:Int)):=by unfold Z92; rewrite [Y8]; kernel_rfl
theorem YOj (s0:List UInt8) (s1:List UInt8):Za2 s0 s1=
 Zb2 s0 s1 s0 0:=by unfold Za2; rewrite [Y8]; kernel_rfl
theorem YNc (s0:List UInt8) (s1:List UInt8) (t2:List UInt8) (n3:Nat):Zb2 s0 s1 t2 n3=
 bif (decide (n3 < (length t2))) then
 (Yr7 (s1,(((Yx t2 n3).1:Nat):Int))).bind fun y0=>
 bif (decide (y0>=0)) then
 some ((n3:Nat):Int)
 else
 Zb2 s0 s1 t2 (n3+(Yx t2 n3).2)
 else
 some (-(1:Int)):=by unfold Zb2; rewrite [Y8]; kernel_rfl
theorem Yin (x:(Int×(List Int))):Ywe x=
 Zc2 x.1 x.2:=by kernel_rfl
theorem YZj (s0:Int) (s1:(List Int)):Zc2 s0 s1=
 (Yye s0).bind fun y0=>
 bif (!y0) then
 some (([]:List UInt8),(42:Int))
 else
 (Yxe ()).bind fun y1=>
 bif (Ya s0 9) then
 Zd2 s0 s1 s1 (((length s1):Nat):Int) (0:Int) (getD y1 (Int.toNat s0) (Ty.zero (.arr 256 .bool))) ([]:List Int)
 else
 none:=by unfold Zc2; rewrite [Y8]; kernel_rfl
theorem YUc (s0:Int) (s1:(List Int)) (s2:(List Int)) (s3:Int) (s4:Int) (b5:(List Bool)) (r6:List Int):Zd2 s0 s1 s2 s3 s4 b5 r6=
 bif (decide (s4 < s3)) then
 bif (Ya s4 (length s2)) then
 bif (Ya (getD s2 (Int.toNat s4) (Ty.zero (.int .u8))) 256) then
 bif (getD b5 (Int.toNat (getD s2 (Int.toNat s4) (Ty.zero (.int .u8)))) (Ty.zero .bool)) then
 (YA9 (r6,(getD s2 (Int.toNat s4) (Ty.zero (.int .u8))))).bind fun y0=>
 Zd2 s0 s1 s2 s3 (wrap i64 (s4+1)) b5 y0
 else
 bif (decide (((length r6)+(length ([(getD s2 (Int.toNat s4) (Ty.zero (.int .u8)))]:List Int)))<=(lim))) then
 Zd2 s0 s1 s2 s3 (wrap i64 (s4+1)) b5 (r6++([(getD s2 (Int.toNat s4) (Ty.zero (.int .u8)))]:List Int))
 else
 none
 else
 none
 else
 none
 else
 some ((Yn r6),(0:Int)):=by unfold Zd2; rewrite [Y8]; kernel_rfl
theorem Yrp (x:List UInt8):Yv7 x=
 Ze2 x:=by kernel_rfl
theorem Y3k (s0:List UInt8):Ze2 s0=
 (Yca s0).bind fun y0=>
 (Yea y0).bind fun y1=>
 some y1:=by unfold Ze2; rewrite [Y8]; kernel_rfl
theorem Yfn (x:List UInt8):Yve x=
 Zf2 x:=by kernel_rfl
theorem Y8k (s0:List UInt8):Zf2 s0=
 Zg2 s0 (0:Int) ([]:List Int):=by unfold Zf2; rewrite [Y8]; kernel_rfl
theorem Y7d (s0:List UInt8) (s1:Int) (r2:List Int):Zg2 s0 s1 r2=
 bif (decide (s1 < (((length s0):Nat):Int))) then
 (YB9 (s0,s1)).bind fun y0=>
 bif (decide (y0>=0)) then
 bif (decide (((length r2)+(length ([(wrap u8 y0)]:List Int)))<=(lim))) then
 Zg2 s0 (wrap i64 ((wrap i64 (s1+2))+1)) (r2++([(wrap u8 y0)]:List Int))
 else
 none
 else
 bif (Ya s1 (length s0)) then
 bif (decide (((length r2)+(length ([(((UInt8.toNat (getD s0 (Int.toNat s1) (0:UInt8))):Nat):Int)]:List Int)))<=(lim))) then
 Zg2 s0 (wrap i64 (s1+1)) (r2++([(((UInt8.toNat (getD s0 (Int.toNat s1) (0:UInt8))):Nat):Int)]:List Int))
 else
 none
 else
 none
 else
 some r2:=by unfold Zg2; rewrite [Y8]; kernel_rfl
theorem Yup (x:(List UInt8×Int)):Yw7 x=
 Zh2 x.1 x.2:=by kernel_rfl
theorem Yfk (s0:List UInt8) (s1:Int):Zh2 s0 s1=
 bif (Yi (some s1) none (length s0)) then
 (Yof (Ym (some s1) none s0)).bind fun y0=>
 bif (y0.1==65533) then
 some (s1,(y0.2,(y0.1,(y0.2==1))))
 else
 some (s1,(y0.2,(y0.1,false)))
 else
 none:=by unfold Zh2; rewrite [Y8]; kernel_rfl
theorem YOm (x:(List UInt8×Int)):YJ4 x=
 Zi2 x.1 x.2:=by kernel_rfl
theorem Yjk (s0:List UInt8) (s1:Int):Zi2 s0 s1=
 Zj2 s0 s1 s0 0:=by unfold Zi2; rewrite [Y8]; kernel_rfl
theorem Yed (s0:List UInt8) (s1:Int) (t2:List UInt8) (n3:Nat):Zj2 s0 s1 t2 n3=
 bif (decide (n3 < (length t2))) then
 bif ((((Yx t2 n3).1:Nat):Int)==s1) then
 some true
 else
 Zj2 s0 s1 t2 (n3+(Yx t2 n3).2)
 else
 some false:=by unfold Zj2; rewrite [Y8]; kernel_rfl
theorem YIm (x:List UInt8):Yu9 x=
 Zk2 x:=by kernel_rfl
theorem Yvk (s0:List UInt8):Zk2 s0=
 (Ydf (s0,())).bind fun y0=>
 some (decide (y0 < 0)):=by unfold Zk2; rewrite [Y8]; kernel_rfl
theorem Ytn (x:List UInt8):Y17 x=
 Zl2 x:=by kernel_rfl
theorem YCk (s0:List UInt8):Zl2 s0=
 (YD9 s0).bind fun y0=>
 bif (y0.2 !=0) then
 some (([]:List UInt8),y0.2)
 else
 (Y27 s0).bind fun y1=>
 bif y1 then
 some (s0,(0:Int))
 else
 bif (decide (((length ([120,110,45,45]:List UInt8))+(length y0.1))<=(2 ^ 62))) then
 some ((([120,110,45,45]:List UInt8)++y0.1),(0:Int))
 else
 none:=by unfold Zl2; rewrite [Y8]; kernel_rfl
theorem Ybp (x:(List UInt8×Unit)):Ydf x=
 Zm2 x.1 x.2:=by kernel_rfl
theorem YGk (s0:List UInt8) (s1:Unit):Zm2 s0 s1=
 (Yif (s0,(s1,true))).bind fun y0=>
 some y0:=by unfold Zm2; rewrite [Y8]; kernel_rfl
theorem Yap (x:(List UInt8×Unit)):Yef x=
 Zn2 x.1 x.2:=by kernel_rfl
theorem YNk (s0:List UInt8) (s1:Unit):Zn2 s0 s1=
 (Ykf (s0,(s1,true))).bind fun y0=>
 some y0:=by unfold Zn2; rewrite [Y8]; kernel_rfl
theorem Y9p (x:(List UInt8×Unit)):YQ5 x=
 Zo2 x.1 x.2:=by kernel_rfl
theorem YSk (s0:List UInt8) (s1:Unit):Zo2 s0 s1=
 (Yjf (s0,(s1,true))).bind fun y0=>
 some y0:=by unfold Zo2; rewrite [Y8]; kernel_rfl
theorem Y1n (x:(List UInt8×List UInt8)):Yse x=
 Zp2 x.1 x.2:=by kernel_rfl
theorem YXk (s0:List UInt8) (s1:List UInt8):Zp2 s0 s1=
 (Yqe (s0,s1)).bind fun y0=>
 bif y0 then
 bif (Yi none (some (wrap i64 ((((length s0):Nat):Int) - (((length s1):Nat):Int)))) (length s0)) then
 some (Ym none (some (wrap i64 ((((length s0):Nat):Int) - (((length s1):Nat):Int)))) s0)
 else
 none
 else
 some s0:=by unfold Zp2; rewrite [Y8]; kernel_rfl
theorem Ypn (x:List UInt8):YC9 x=
 Zq2 x:=by kernel_rfl
theorem Y4l (s0:List UInt8):Zq2 s0=
 bif (decide ((((length s0):Nat):Int) > 65536)) then
 some (([]:List UInt8),((5:Int),(0:Int)))
 else
 (Y37 s0).bind fun y0=>
 some (y0.1,(y0.2.1,y0.2.2)):=by unfold Zq2; rewrite [Y8]; kernel_rfl
theorem Yyn (x:List UInt8):Y27 x=
 Zr2 x:=by kernel_rfl
theorem Ycl (s0:List UInt8):Zr2 s0=
 (Yef (s0,())).bind fun y0=>
 some (decide (y0 < 0)):=by unfold Zr2; rewrite [Y8]; kernel_rfl
theorem Y6n (x:(List UInt8×List UInt8)):Yy9 x=
 Zs2 x.1 x.2:=by kernel_rfl
theorem Ygl (s0:List UInt8) (s1:List UInt8):Zs2 s0 s1=
 (Yu3 s0).bind fun y0=>
 (Yu3 s1).bind fun y1=>
 some (y0==y1):=by unfold Zs2; rewrite [Y8]; kernel_rfl
theorem Yff (x:(List UInt8×Int)):Yr7 x=
 Zt2 x.1 x.2:=by kernel_rfl
theorem Yyd (s0:List UInt8) (s1:Int):Zt2 s0 s1=
 bif (decide ((0:Int)<=s1)) then
 bif (decide (s1 < 128)) then
 (Yd4 (s0,(wrap u8 s1))).bind fun y0=>
 some y0
 else
 bif (s1==65533) then
 Zu2 s0 s1 s0 0
 else
 (Yt7 s1).bind fun y0=>
 bif (!y0) then
 some (-(1:Int))
 else
 Zv2 s0 s1 (Yy1 s1) (wrap i64 ((((length (Yy1 s1)):Nat):Int) - 1)) (wrap i64 ((((length (Yy1 s1)):Nat):Int) - 1))
 else
 bif (s1==65533) then
 Zu2 s0 s1 s0 0
 else
 (Yt7 s1).bind fun y0=>
 bif (!y0) then
 some (-(1:Int))
 else
 Zv2 s0 s1 (Yy1 s1) (wrap i64 ((((length (Yy1 s1)):Nat):Int) - 1)) (wrap i64 ((((length (Yy1 s1)):Nat):Int) - 1)):=by unfold Zt2; rewrite [Y8]; kernel_rfl
theorem Yvl (s0:List UInt8) (s1:Int) (s2:List UInt8) (s3:Int) (s4:Int):Zv2 s0 s1 s2 s3 s4=
 bif (decide (s4 < (((length s0):Nat):Int))) then
 bif (Ya s4 (length s0)) then
 bif (Ya s3 (length s2)) then
 bif ((((UInt8.toNat (getD s0 (Int.toNat s4) (0:UInt8))):Nat):Int) !=(((UInt8.toNat (getD s2 (Int.toNat s3) (0:UInt8))):Nat):Int)) then
 bif (Yi (some (wrap i64 (s4+1))) none (length s0)) then
 bif (Ya s3 (length s2)) then
 (Yd4 ((Ym (some (wrap i64 (s4+1))) none s0),(((UInt8.toNat (getD s2 (Int.toNat s3) (0:UInt8))):Nat):Int))).bind fun y0=>
 bif (decide (y0 < 0)) then
 some (-(1:Int))
 else
 Zw2 s0 s1 s2 s3 (wrap i64 (s4+(wrap i64 (y0+1))))
 else
 none
 else
 none
 else
 Zw2 s0 s1 s2 s3 s4
 else
 none
 else
 none
 else
 some (-(1:Int)):=by unfold Zv2; rewrite [Y8]; kernel_rfl
theorem Ykp (x:Int):Ymf x=
 Zx2 x:=by kernel_rfl
theorem YFl (s0:Int):Zx2 s0=
 some (decide (s0 > 8)):=by unfold Zx2; rewrite [Y8]; kernel_rfl
theorem Ygp (x:((List Bool)×Int)):Yhf x=
 Zy2 x.2 x.1:=by kernel_rfl
theorem YJl (s0:Int) (b1:(List Bool)):Zy2 s0 b1=
 bif (Ya s0 256) then
 some ((getD b1 (Int.toNat s0) (Ty.zero .bool)),b1)
 else
 none:=by unfold Zy2; rewrite [Y8]; kernel_rfl
theorem Yln (x:Int):Yye x=
 Zz2 x:=by kernel_rfl
theorem YQl (s0:Int):Zz2 s0=
 bif (decide (s0>=1)) then
 some (decide (s0<=8))
 else
 some false:=by unfold Zz2; rewrite [Y8]; kernel_rfl
theorem Yjn (x:((List Int)×Int)):YA9 x=
 Z03 x.2 x.1:=by kernel_rfl
theorem YSi (s0:Int) (r1:List Int):Z03 s0 r1=
 bif (Ya (shr u8 s0 (4:Int)) (length ([48,49,50,51,52,53,54,55,56,57,65,66,67,68,69,70]:List UInt8))) then
 bif (Ya (bits Go.BinOp.and u8 s0 (15:Int)) (length ([48,49,50,51,52,53,54,55,56,57,65,66,67,68,69,70]:List UInt8))) then
 bif (decide (((length r1)+(length ([(37:Int),(((UInt8.toNat (getD ([48,49,50,51,52,53,54,55,56,57,65,66,67,68,69,70]:List UInt8) (Int.toNat (shr u8 s0 (4:Int))) (0:UInt8))):Nat):Int),(((UInt8.toNat (getD ([48,49,50,51,52,53,54,55,56,57,65,66,67,68,69,70]:List UInt8) (Int.toNat (bits Go.BinOp.and u8 s0 (15:Int))) (0:UInt8))):Nat):Int)]:List Int)))<=(lim))) then
 some (r1++([(37:Int),(((UInt8.toNat (getD ([48,49,50,51,52,53,54,55,56,57,65,66,67,68,69,70]:List UInt8) (Int.toNat (shr u8 s0 (4:Int))) (0:UInt8))):Nat):Int),(((UInt8.toNat (getD ([48,49,50,51,52,53,54,55,56,57,65,66,67,68,69,70]:List UInt8) (Int.toNat (bits Go.BinOp.and u8 s0 (15:Int))) (0:UInt8))):Nat):Int)]:List Int))
 else
 none
 else
 none
 else
 none:=by unfold Z03; rewrite [Y8]; kernel_rfl
theorem Yxp (x:(List D181)):Yea x=
 Z13 x:=by kernel_rfl
theorem YXi (s0:(List D181)):Z13 s0=
 Z23 s0 s0 (((length s0):Nat):Int) (0:Int):=by unfold Z13; rewrite [Y8]; kernel_rfl
theorem Y4j (s0:(List D181)) (s1:(List D181)) (s2:Int) (s3:Int):Z23 s0 s1 s2 s3=
 bif (decide (s3 < s2)) then
 bif (Ya s3 (length s1)) then
 (Ys7 (([]:List Int),(getD s1 (Int.toNat s3) (Ty.zero T181)).2.2.1)).bind fun y0=>
 Z33 s0 s1 s2 (wrap i64 (s3+1)) y0
 else
 none
 else
 some (Yn ([]:List Int)):=by unfold Z23; rewrite [Y8]; kernel_rfl
theorem Ysc (s0:(List D181)) (s1:(List D181)) (s2:Int) (s3:Int) (r4:List Int):Z33 s0 s1 s2 s3 r4=
 bif (decide (s3 < s2)) then
 bif (Ya s3 (length s1)) then
 (Ys7 (r4,(getD s1 (Int.toNat s3) (Ty.zero T181)).2.2.1)).bind fun y0=>
 Z33 s0 s1 s2 (wrap i64 (s3+1)) y0
 else
 none
 else
 some (Yn r4):=by unfold Z33; rewrite [Y8]; kernel_rfl
theorem Ysp (x:List UInt8):Yca x=
 Z43 x:=by kernel_rfl
theorem Yej (s0:List UInt8):Z43 s0=
 Z53 s0 (0:Int) ([]:List D181):=by unfold Z43; rewrite [Y8]; kernel_rfl
theorem Yzc (s0:List UInt8) (s1:Int) (r2:List D181):Z53 s0 s1 r2=
 bif (decide (s1 < (((length s0):Nat):Int))) then
 (Yw7 (s0,s1)).bind fun y0=>
 bif y0.2.2.2 then
 bif (Yi (some s1) none (length s0)) then
 (Yfa (Ym (some s1) none s0)).bind fun y1=>
 Z63 s0 s1 (y0.1,(y1,y0.2.2)) r2
 else
 none
 else
 Z63 s0 s1 y0 r2
 else
 some r2:=by unfold Z53; rewrite [Y8]; kernel_rfl
theorem Yoj (s0:List UInt8) (s1:Int) (b2:D181) (r3:List D181):Z63 s0 s1 b2 r3=
 bif (decide (((length r3)+(length ([b2]:List D181)))<=(lim))) then
 Z53 s0 (wrap i64 (s1+b2.2.1)) (r3++([b2]:List D181))
 else
 none:=by unfold Z63; rewrite [Y8]; kernel_rfl
theorem Ynn (x:(List UInt8×Int)):YB9 x=
 Z73 x.1 x.2:=by kernel_rfl
theorem Yvj (s0:List UInt8) (s1:Int):Z73 s0 s1=
 bif (decide ((wrap i64 (s1+2))>=(((length s0):Nat):Int))) then
 some (-(1:Int))
 else
 bif (Ya s1 (length s0)) then
 bif ((((UInt8.toNat (getD s0 (Int.toNat s1) (0:UInt8))):Nat):Int) !=37) then
 some (-(1:Int))
 else
 bif (Ya (wrap i64 (s1+1)) (length s0)) then
 bif (Ya (wrap i64 (s1+2)) (length s0)) then
 (Y07 (((UInt8.toNat (getD s0 (Int.toNat (wrap i64 (s1+1))) (0:UInt8))):Nat):Int)).bind fun y0=>
 (Y07 (((UInt8.toNat (getD s0 (Int.toNat (wrap i64 (s1+2))) (0:UInt8))):Nat):Int)).bind fun y1=>
 bif (decide (y0 < 0)) then
 some (-(1:Int))
 else
 bif (decide (y1 < 0)) then
 some (-(1:Int))
 else
 some (bits Go.BinOp.or i64 (shl i64 y0 (4:Int)) y1)
 else
 none
 else
 none
 else
 none:=by unfold Z73; rewrite [Y8]; kernel_rfl
theorem Ynp (x:List UInt8):Yof x=Yk5 x:=by kernel_rfl
theorem YHm (x:Int):Yhe x=
 Z83 x:=by kernel_rfl
theorem YBj (s0:Int):Z83 s0=
 some (decide (s0 > 127)):=by unfold Z83; rewrite [Y8]; kernel_rfl
theorem Yrn (x:List UInt8):YD9 x=
 Z93 x:=by kernel_rfl
theorem YIj (s0:List UInt8):Z93 s0=
 (Yu7 s0).bind fun y0=>
 bif (!y0.1) then
 some (([]:List UInt8),(21:Int))
 else
 bif (decide ((((length s0):Nat):Int) > 65536)) then
 some (([]:List UInt8),(5:Int))
 else
 bif (decide ((length s0)<=(lim))) then
 Za3 s0 (((length (YD s0)):Nat):Int) (0:Int) (YD s0) ([]:List Int)
 else
 none:=by unfold Z93; rewrite [Y8]; kernel_rfl
theorem YKc (s0:List UInt8) (s1:Int) (s2:Int) (r3:List Int) (r4:List Int):Za3 s0 s1 s2 r3 r4=
 bif (decide (s2 < s1)) then
 bif (Ya s2 (length r3)) then
 bif (decide ((getD r3 (Int.toNat s2) (Ty.zero (.int .i32))) < 128)) then
 bif (decide (((length r4)+(length ([(wrap u8 (getD r3 (Int.toNat s2) (Ty.zero (.int .i32))))]:List Int)))<=(lim))) then
 Za3 s0 s1 (wrap i64 (s2+1)) r3 (r4++([(wrap u8 (getD r3 (Int.toNat s2) (Ty.zero (.int .i32))))]:List Int))
 else
 none
 else
 Za3 s0 s1 (wrap i64 (s2+1)) r3 r4
 else
 none
 else
 bif (decide ((((length r4):Nat):Int) > 0)) then
 bif (decide (((length r4)+(length ([45]:List Int)))<=(lim))) then
 Zb3 s0 (((length r4):Nat):Int) (((length r4):Nat):Int) r3 (r4++([45]:List Int))
 else
 none
 else
 Zb3 s0 (((length r4):Nat):Int) (((length r4):Nat):Int) r3 r4:=by unfold Za3; rewrite [Y8]; kernel_rfl
theorem YUj (s0:List UInt8) (s1:Int) (s2:Int) (r3:List Int) (r4:List Int):Zb3 s0 s1 s2 r3 r4=
 Zc3 s0 s1 s2 (128:Int) (72:Int) (0:Int) r3 r4:=by unfold Zb3; rewrite [Y8]; kernel_rfl
theorem YQc (s0:List UInt8) (s1:Int) (s2:Int) (s3:Int) (s4:Int) (s5:Int) (r6:List Int) (r7:List Int):Zc3 s0 s1 s2 s3 s4 s5 r6 r7=
 bif (decide (s1 < (((length r6):Nat):Int))) then
 Zd3 s0 s1 s2 s3 s4 s5 (1114112:Int) (((length r6):Nat):Int) (0:Int) r6 r7
 else
 (Y37 (Yn r7)).bind fun y0=>
 bif (y0.2.1==32) then
 some (([]:List UInt8),y0.2.1)
 else
 some ((Yn r7),(0:Int)):=by unfold Zc3; rewrite [Y8]; kernel_rfl
theorem YVc (s0:List UInt8) (s1:Int) (s2:Int) (s3:Int) (s4:Int) (s5:Int) (s6:Int) (s7:Int) (s8:Int) (r9:List Int) (r10:List Int):Zd3 s0 s1 s2 s3 s4 s5 s6 s7 s8 r9 r10=
 bif (decide (s8 < s7)) then
 bif (Ya s8 (length r9)) then
 bif (decide ((getD r9 (Int.toNat s8) (Ty.zero (.int .i32)))>=s3)) then
 bif (decide ((getD r9 (Int.toNat s8) (Ty.zero (.int .i32))) < s6)) then
 Zd3 s0 s1 s2 s3 s4 s5 (getD r9 (Int.toNat s8) (Ty.zero (.int .i32))) s7 (wrap i64 (s8+1)) r9 r10
 else
 Zd3 s0 s1 s2 s3 s4 s5 s6 s7 (wrap i64 (s8+1)) r9 r10
 else
 Zd3 s0 s1 s2 s3 s4 s5 s6 s7 (wrap i64 (s8+1)) r9 r10
 else
 none
 else
 Ze3 s0 s1 s2 s6 s4 (wrap i64 (s5+(wrap i64 ((wrap i64 (wrap i32 (s6 - s3)))*(wrap i64 (s1+1)))))) (((length r9):Nat):Int) (0:Int) r9 r10:=by unfold Zd3; rewrite [Y8]; kernel_rfl
theorem Y0d (s0:List UInt8) (s1:Int) (s2:Int) (s3:Int) (s4:Int) (s5:Int) (s6:Int) (s7:Int) (r8:List Int) (r9:List Int):Ze3 s0 s1 s2 s3 s4 s5 s6 s7 r8 r9=
 bif (decide (s7 < s6)) then
 bif (Ya s7 (length r8)) then
 bif (decide ((getD r8 (Int.toNat s7) (Ty.zero (.int .i32))) < s3)) then
 Zf3 s0 s1 s2 s3 s4 (wrap i64 (s5+1)) (getD r8 (Int.toNat s7) (Ty.zero (.int .i32))) s6 s7 r8 r9
 else
 Zf3 s0 s1 s2 s3 s4 s5 (getD r8 (Int.toNat s7) (Ty.zero (.int .i32))) s6 s7 r8 r9
 else
 none
 else
 Zc3 s0 s1 s2 (wrap i32 (s3+1)) s4 (wrap i64 (s5+1)) r8 r9:=by unfold Ze3; rewrite [Y8]; kernel_rfl
theorem Y3d (s0:List UInt8) (s1:Int) (s2:Int) (s3:Int) (s4:Int) (s5:Int) (s6:Int) (s7:Int) (s8:Int) (r9:List Int) (r10:List Int):Zf3 s0 s1 s2 s3 s4 s5 s6 s7 s8 r9 r10=
 bif (s6==s3) then
 (YE9 (r10,(s5,s4))).bind fun y0=>
 (YC5 (s5,((wrap i64 (s1+1)),(s1==s2)))).bind fun y1=>
 Ze3 s0 (wrap i64 (s1+1)) s2 s3 y1 (0:Int) s7 (wrap i64 (s8+1)) r9 y0
 else
 Ze3 s0 s1 s2 s3 s4 s5 s7 (wrap i64 (s8+1)) r9 r10:=by unfold Zf3; rewrite [Y8]; kernel_rfl
theorem Yjp (x:(List UInt8×(Unit×Bool))):Yif x=
 Zg3 x.1 x.2.1 x.2.2:=by kernel_rfl
theorem Ybk (s0:List UInt8) (s1:Unit) (s2:Bool):Zg3 s0 s1 s2=
 Zh3 s0 s1 s2 s0 0:=by unfold Zg3; rewrite [Y8]; kernel_rfl
theorem Yad (s0:List UInt8) (s1:Unit) (s2:Bool) (t3:List UInt8) (n4:Nat):Zh3 s0 s1 s2 t3 n4=
 bif (decide (n4 < (length t3))) then
 (Yhe (((Yx t3 n4).1:Nat):Int)).bind fun y0=>
 bif (y0==s2) then
 some ((n4:Nat):Int)
 else
 Zh3 s0 s1 s2 t3 (n4+(Yx t3 n4).2)
 else
 some (-(1:Int)):=by unfold Zh3; rewrite [Y8]; kernel_rfl
theorem Yip (x:(List UInt8×(Unit×Bool))):Ykf x=
 Zi3 x.1 x.2.1 x.2.2:=by kernel_rfl
theorem Ykk (s0:List UInt8) (s1:Unit) (s2:Bool):Zi3 s0 s1 s2=
 Zj3 s0 s1 s2 s0 0:=by unfold Zi3; rewrite [Y8]; kernel_rfl
theorem Yfd (s0:List UInt8) (s1:Unit) (s2:Bool) (t3:List UInt8) (n4:Nat):Zj3 s0 s1 s2 t3 n4=
 bif (decide (n4 < (length t3))) then
 (YCe (((Yx t3 n4).1:Nat):Int)).bind fun y0=>
 bif (y0==s2) then
 some ((n4:Nat):Int)
 else
 Zj3 s0 s1 s2 t3 (n4+(Yx t3 n4).2)
 else
 some (-(1:Int)):=by unfold Zj3; rewrite [Y8]; kernel_rfl
theorem Yhp (x:(List UInt8×(Unit×Bool))):Yjf x=
 Zk3 x.1 x.2.1 x.2.2:=by kernel_rfl
theorem Ywk (s0:List UInt8) (s1:Unit) (s2:Bool):Zk3 s0 s1 s2=
 Zl3 s0 s1 s2 s0 0:=by unfold Zk3; rewrite [Y8]; kernel_rfl
theorem Yid (s0:List UInt8) (s1:Unit) (s2:Bool) (t3:List UInt8) (n4:Nat):Zl3 s0 s1 s2 t3 n4=
 bif (decide (n4 < (length t3))) then
 (YU6 (((Yx t3 n4).1:Nat):Int)).bind fun y0=>
 bif (y0==s2) then
 some ((n4:Nat):Int)
 else
 Zl3 s0 s1 s2 t3 (n4+(Yx t3 n4).2)
 else
 some (-(1:Int)):=by unfold Zl3; rewrite [Y8]; kernel_rfl
theorem YZm (x:(List UInt8×List UInt8)):Yqe x=
 Zm3 x.1 x.2:=by kernel_rfl
theorem YHk (s0:List UInt8) (s1:List UInt8):Zm3 s0 s1=
 bif (decide ((((length s0):Nat):Int)>=(((length s1):Nat):Int))) then
 bif (Yi (some (wrap i64 ((((length s0):Nat):Int) - (((length s1):Nat):Int)))) none (length s0)) then
 some ((Ym (some (wrap i64 ((((length s0):Nat):Int) - (((length s1):Nat):Int)))) none s0)==s1)
 else
 none
 else
 some false:=by unfold Zm3; rewrite [Y8]; kernel_rfl
theorem Yzn (x:List UInt8):Y37 x=
 Zn3 x:=by kernel_rfl
theorem YOk (s0:List UInt8):Zn3 s0=
 Zo3 s0 (((length s0):Nat):Int) (0:Int):=by unfold Zn3; rewrite [Y8]; kernel_rfl
theorem Ypd (s0:List UInt8) (s1:Int) (s2:Int):Zo3 s0 s1 s2=
 bif (decide (s2 < s1)) then
 bif (Ya s2 (length s0)) then
 bif (decide ((((UInt8.toNat (getD s0 (Int.toNat s2) (0:UInt8))):Nat):Int) > 127)) then
 some (([]:List UInt8),((31:Int),s2))
 else
 Zo3 s0 s1 (wrap i64 (s2+1))
 else
 none
 else
 (Yaa (s0,(45:Int))).bind fun y0=>
 bif (decide ((wrap i64 (y0+1)) > 0)) then
 bif (Yi none (some (wrap i64 ((wrap i64 (y0+1)) - 1))) (length s0)) then
 bif (decide ((length (Ym none (some (wrap i64 ((wrap i64 (y0+1)) - 1))) s0))<=(lim))) then
 Zp3 s0 (wrap i64 (y0+1)) (YD (Ym none (some (wrap i64 ((wrap i64 (y0+1)) - 1))) s0))
 else
 none
 else
 none
 else
 Zq3 s0 (wrap i64 (y0+1)):=by unfold Zo3; rewrite [Y8]; kernel_rfl
theorem YYk (s0:List UInt8) (s1:Int) (r2:List Int):Zp3 s0 s1 r2=
 Zr3 s0 s1 (((length r2):Nat):Int) (0:Int) (128:Int) (72:Int) r2:=by unfold Zp3; rewrite [Y8]; kernel_rfl
theorem Y5l (s0:List UInt8) (s1:Int):Zq3 s0 s1=
 Zs3 s0 s1 ((0:Nat):Int) (0:Int) (128:Int) (72:Int):=by unfold Zq3; rewrite [Y8]; kernel_rfl
theorem YJ6 (s0:List UInt8) (s1:Int) (s2:Int) (s3:Int) (s4:Int) (s5:Int) (r6:List Int):Zr3 s0 s1 s2 s3 s4 s5 r6=
 bif (decide (s1 < (((length s0):Nat):Int))) then
 (Y47 (s0,(s1,(s3,s5)))).bind fun y0=>
 bif (y0.2.2.1 !=0) then
 some (([]:List UInt8),(y0.2.2.1,y0.2.2.2))
 else
 (YC5 ((wrap i64 (y0.1 - s3)),((wrap i64 ((((length r6):Nat):Int)+1)),((((length r6):Nat):Int)==s2)))).bind fun y1=>
 bif ((wrap i64 ((((length r6):Nat):Int)+1)) !=0) then
 bif (decide ((wrap i64 (s4+(wrap i64 (Int.tdiv y0.1 (wrap i64 ((((length r6):Nat):Int)+1)))))) > 1114111)) then
 some (([]:List UInt8),((32:Int),s1))
 else
 bif (decide ((wrap i64 (s4+(wrap i64 (Int.tdiv y0.1 (wrap i64 ((((length r6):Nat):Int)+1))))))>=55296)) then
 bif (decide ((wrap i64 (s4+(wrap i64 (Int.tdiv y0.1 (wrap i64 ((((length r6):Nat):Int)+1))))))<=57343)) then
 some (([]:List UInt8),((32:Int),s1))
 else
 bif ((wrap i64 ((((length r6):Nat):Int)+1)) !=0) then
 (Yb4 (r6,((Int.tmod y0.1 (wrap i64 ((((length r6):Nat):Int)+1))),([(wrap i32 (wrap i64 (s4+(wrap i64 (Int.tdiv y0.1 (wrap i64 ((((length r6):Nat):Int)+1)))))))]:List Int)))).bind fun y2=>
 Zr3 s0 y0.2.1 s2 (wrap i64 ((Int.tmod y0.1 (wrap i64 ((((length r6):Nat):Int)+1)))+1)) (wrap i64 (s4+(wrap i64 (Int.tdiv y0.1 (wrap i64 ((((length r6):Nat):Int)+1)))))) y1 y2
 else
 none
 else
 bif ((wrap i64 ((((length r6):Nat):Int)+1)) !=0) then
 (Yb4 (r6,((Int.tmod y0.1 (wrap i64 ((((length r6):Nat):Int)+1))),([(wrap i32 (wrap i64 (s4+(wrap i64 (Int.tdiv y0.1 (wrap i64 ((((length r6):Nat):Int)+1)))))))]:List Int)))).bind fun y2=>
 Zr3 s0 y0.2.1 s2 (wrap i64 ((Int.tmod y0.1 (wrap i64 ((((length r6):Nat):Int)+1)))+1)) (wrap i64 (s4+(wrap i64 (Int.tdiv y0.1 (wrap i64 ((((length r6):Nat):Int)+1)))))) y1 y2
 else
 none
 else
 none
 else
 some ((YT2 r6),((0:Int),(0:Int))):=by unfold Zr3; rewrite [Y8]; kernel_rfl
theorem Yhl (s0:List UInt8) (s1:Int) (s2:Int) (s3:Int) (s4:Int) (s5:Int):Zs3 s0 s1 s2 s3 s4 s5=
 bif (decide (s1 < (((length s0):Nat):Int))) then
 (Y47 (s0,(s1,(s3,s5)))).bind fun y0=>
 bif (y0.2.2.1 !=0) then
 some (([]:List UInt8),(y0.2.2.1,y0.2.2.2))
 else
 (YC5 ((wrap i64 (y0.1 - s3)),((wrap i64 (((0:Nat):Int)+1)),(((0:Nat):Int)==s2)))).bind fun y1=>
 bif (decide ((wrap i64 (s4+(wrap i64 (Int.tdiv y0.1 (wrap i64 (((0:Nat):Int)+1)))))) > 1114111)) then
 some (([]:List UInt8),((32:Int),s1))
 else
 bif (decide ((wrap i64 (s4+(wrap i64 (Int.tdiv y0.1 (wrap i64 (((0:Nat):Int)+1))))))>=55296)) then
 bif (decide ((wrap i64 (s4+(wrap i64 (Int.tdiv y0.1 (wrap i64 (((0:Nat):Int)+1))))))<=57343)) then
 some (([]:List UInt8),((32:Int),s1))
 else
 (Yb4 (([]:List Int),((Int.tmod y0.1 (wrap i64 (((0:Nat):Int)+1))),([(wrap i32 (wrap i64 (s4+(wrap i64 (Int.tdiv y0.1 (wrap i64 (((0:Nat):Int)+1)))))))]:List Int)))).bind fun y2=>
 Zr3 s0 y0.2.1 s2 (wrap i64 ((Int.tmod y0.1 (wrap i64 (((0:Nat):Int)+1)))+1)) (wrap i64 (s4+(wrap i64 (Int.tdiv y0.1 (wrap i64 (((0:Nat):Int)+1)))))) y1 y2
 else
 (Yb4 (([]:List Int),((Int.tmod y0.1 (wrap i64 (((0:Nat):Int)+1))),([(wrap i32 (wrap i64 (s4+(wrap i64 (Int.tdiv y0.1 (wrap i64 (((0:Nat):Int)+1)))))))]:List Int)))).bind fun y2=>
 Zr3 s0 y0.2.1 s2 (wrap i64 ((Int.tmod y0.1 (wrap i64 (((0:Nat):Int)+1)))+1)) (wrap i64 (s4+(wrap i64 (Int.tdiv y0.1 (wrap i64 (((0:Nat):Int)+1)))))) y1 y2
 else
 some ((YT2 ([]:List Int)),((0:Int),(0:Int))):=by unfold Zs3; rewrite [Y8]; kernel_rfl
theorem Yxn (x:Int):YCe x=
 Zt3 x:=by kernel_rfl
theorem Yml (s0:Int):Zt3 s0=
 some (decide (s0 > 127)):=by unfold Zt3; rewrite [Y8]; kernel_rfl
theorem Yop (x:Int):Yt7 x=
 Zu3 x:=by kernel_rfl
theorem Yrl (s0:Int):Zu3 s0=
 bif (decide ((0:Int)<=s0)) then
 bif (decide (s0 < 55296)) then
 some true
 else
 bif (decide ((57343:Int) < s0)) then
 bif (decide (s0<=1114111)) then
 some true
 else
 some false
 else
 some false
 else
 bif (decide ((57343:Int) < s0)) then
 bif (decide (s0<=1114111)) then
 some true
 else
 some false
 else
 some false:=by unfold Zu3; rewrite [Y8]; kernel_rfl
theorem Ylp (x:((List Int)×Int)):Ys7 x=
 Zv3 x.2 x.1:=by kernel_rfl
theorem Ywl (s0:Int) (r1:List Int):Zv3 s0 r1=
 bif (decide ((wrap u32 s0)<=127)) then
 bif (decide (((length r1)+(length ([(wrap u8 s0)]:List Int)))<=(lim))) then
 some (r1++([(wrap u8 s0)]:List Int))
 else
 none
 else
 (Ypf (r1,s0)).bind fun y0=>
 some y0:=by unfold Zv3; rewrite [Y8]; kernel_rfl
theorem Yzp (x:List UInt8):Yfa x=
 Zw3 x:=by kernel_rfl
theorem Yzl (s0:List UInt8):Zw3 s0=
 bif (Ya (0:Int) (length s0)) then
 (Yda (((UInt8.toNat (getD s0 (Int.toNat (0:Int)) (0:UInt8))):Nat):Int)).bind fun y0=>
 Zx3 s0 y0.1 y0.2.1 y0.2.2 (1:Int)
 else
 none:=by unfold Zw3; rewrite [Y8]; kernel_rfl
theorem YId (s0:List UInt8) (s1:Int) (s2:Int) (s3:Int) (s4:Int):Zx3 s0 s1 s2 s3 s4=
 bif (decide (s4 < (wrap i64 (s3 - 1)))) then
 bif (decide (s4 < (((length s0):Nat):Int))) then
 bif (Ya s4 (length s0)) then
 bif (decide ((((UInt8.toNat (getD s0 (Int.toNat s4) (0:UInt8))):Nat):Int)>=s1)) then
 bif (Ya s4 (length s0)) then
 bif (decide ((((UInt8.toNat (getD s0 (Int.toNat s4) (0:UInt8))):Nat):Int)<=s2)) then
 Zx3 s0 (128:Int) (191:Int) s3 (wrap i64 (s4+1))
 else
 some s4
 else
 none
 else
 some s4
 else
 none
 else
 some s4
 else
 some s4:=by unfold Zx3; rewrite [Y8]; kernel_rfl
theorem Ymn (x:Int):Y07 x=
 Zy3 x:=by kernel_rfl
theorem YKl (s0:Int):Zy3 s0=
 (Yd4 (([48,49,50,51,52,53,54,55,56,57,65,66,67,68,69,70]:List UInt8),s0)).bind fun y0=>
 bif (decide (y0>=0)) then
 some y0
 else
 bif (decide (s0>=97)) then
 bif (decide (s0<=102)) then
 some (wrap i64 ((wrap i64 (wrap u8 (s0 - 97)))+10))
 else
 some (-(1:Int))
 else
 some (-(1:Int)):=by unfold Zy3; rewrite [Y8]; kernel_rfl
theorem YAn (x:((List Int)×(Int×Int))):YE9 x=
 Zz3 x.2.1 x.2.2 x.1:=by kernel_rfl
theorem YRl (s0:Int) (s1:Int) (r2:List Int):Zz3 s0 s1 r2=
 Z04 s0 s1 (36:Int) r2:=by unfold Zz3; rewrite [Y8]; kernel_rfl
theorem Ync (s0:Int) (s1:Int) (s2:Int) (r3:List Int):Z04 s0 s1 s2 r3=
 (Y57 (s2,s1)).bind fun y0=>
 bif (decide (s0 < y0)) then
 bif (Ya s0 (length ([97,98,99,100,101,102,103,104,105,106,107,108,109,110,111,112,113,114,115,116,117,118,119,120,121,122,48,49,50,51,52,53,54,55,56,57]:List UInt8))) then
 bif (decide (((length r3)+(length ([(((UInt8.toNat (getD ([97,98,99,100,101,102,103,104,105,106,107,108,109,110,111,112,113,114,115,116,117,118,119,120,121,122,48,49,50,51,52,53,54,55,56,57]:List UInt8) (Int.toNat s0) (0:UInt8))):Nat):Int)]:List Int)))<=(lim))) then
 some (r3++([(((UInt8.toNat (getD ([97,98,99,100,101,102,103,104,105,106,107,108,109,110,111,112,113,114,115,116,117,118,119,120,121,122,48,49,50,51,52,53,54,55,56,57]:List UInt8) (Int.toNat s0) (0:UInt8))):Nat):Int)]:List Int))
 else
 none
 else
 none
 else
 bif ((wrap i64 ((36:Int) - y0)) !=0) then
 bif (Ya (wrap i64 (y0+(Int.tmod (wrap i64 (s0 - y0)) (wrap i64 ((36:Int) - y0))))) (length ([97,98,99,100,101,102,103,104,105,106,107,108,109,110,111,112,113,114,115,116,117,118,119,120,121,122,48,49,50,51,52,53,54,55,56,57]:List UInt8))) then
 bif (decide (((length r3)+(length ([(((UInt8.toNat (getD ([97,98,99,100,101,102,103,104,105,106,107,108,109,110,111,112,113,114,115,116,117,118,119,120,121,122,48,49,50,51,52,53,54,55,56,57]:List UInt8) (Int.toNat (wrap i64 (y0+(Int.tmod (wrap i64 (s0 - y0)) (wrap i64 ((36:Int) - y0)))))) (0:UInt8))):Nat):Int)]:List Int)))<=(lim))) then
 bif ((wrap i64 ((36:Int) - y0)) !=0) then
 Z04 (wrap i64 (Int.tdiv (wrap i64 (s0 - y0)) (wrap i64 ((36:Int) - y0)))) s1 (wrap i64 (s2+36)) (r3++([(((UInt8.toNat (getD ([97,98,99,100,101,102,103,104,105,106,107,108,109,110,111,112,113,114,115,116,117,118,119,120,121,122,48,49,50,51,52,53,54,55,56,57]:List UInt8) (Int.toNat (wrap i64 (y0+(Int.tmod (wrap i64 (s0 - y0)) (wrap i64 ((36:Int) - y0)))))) (0:UInt8))):Nat):Int)]:List Int))
 else
 none
 else
 none
 else
 none
 else
 none:=by unfold Z04; rewrite [Y8]; kernel_rfl
theorem Ywn (x:(Int×(Int×Bool))):YC5 x=
 Z14 x.1 x.2.1 x.2.2:=by kernel_rfl
theorem YYi (s0:Int) (s1:Int) (s2:Bool):Z14 s0 s1 s2=
 bif s2 then
 Z24 (wrap i64 (Int.tdiv s0 (700:Int))) s1 s2
 else
 Z24 (wrap i64 (Int.tdiv s0 (2:Int))) s1 s2:=by unfold Z14; rewrite [Y8]; kernel_rfl
theorem Y5j (s0:Int) (s1:Int) (s2:Bool):Z24 s0 s1 s2=
 bif (s1 !=0) then
 Z34 (wrap i64 (s0+(wrap i64 (Int.tdiv s0 s1)))) s1 s2 (0:Int)
 else
 none:=by unfold Z24; rewrite [Y8]; kernel_rfl
theorem Ytc (s0:Int) (s1:Int) (s2:Bool) (s3:Int):Z34 s0 s1 s2 s3=
 bif (decide (s0 > 455)) then
 Z34 (wrap i64 (Int.tdiv s0 (35:Int))) s1 s2 (wrap i64 (s3+36))
 else
 bif ((wrap i64 (s0+38)) !=0) then
 some (wrap i64 (s3+(wrap i64 (Int.tdiv (wrap i64 ((36:Int)*s0)) (wrap i64 (s0+38))))))
 else
 none:=by unfold Z34; rewrite [Y8]; kernel_rfl
theorem Yep (x:(List UInt8×Int)):Yaa x=
 Z44 x.1 x.2:=by kernel_rfl
theorem Yfj (s0:List UInt8) (s1:Int):Z44 s0 s1=
 (Yne (s0,s1)).bind fun y0=>
 some y0:=by unfold Z44; rewrite [Y8]; kernel_rfl
theorem YCn (x:(List UInt8×(Int×(Int×Int)))):Y47 x=
 Z54 x.1 x.2.1 x.2.2.1 x.2.2.2:=by kernel_rfl
theorem Ykj (s0:List UInt8) (s1:Int) (s2:Int) (s3:Int):Z54 s0 s1 s2 s3=
 Z64 s0 s1 s2 s3 s1 (1:Int) (36:Int):=by unfold Z54; rewrite [Y8]; kernel_rfl
theorem YDc (s0:List UInt8) (s1:Int) (s2:Int) (s3:Int) (s4:Int) (s5:Int) (s6:Int):Z64 s0 s1 s2 s3 s4 s5 s6=
 bif (s1==(((length s0):Nat):Int)) then
 some ((0:Int),((0:Int),((31:Int),s1)))
 else
 bif (Ya s1 (length s0)) then
 (Yd4 (([97,98,99,100,101,102,103,104,105,106,107,108,109,110,111,112,113,114,115,116,117,118,119,120,121,122,48,49,50,51,52,53,54,55,56,57]:List UInt8),(((UInt8.toNat (getD s0 (Int.toNat s1) (0:UInt8))):Nat):Int))).bind fun y0=>
 bif (Ya s1 (length s0)) then
 bif (decide (y0 < 0)) then
 bif (decide ((bits Go.BinOp.or u8 (((UInt8.toNat (getD s0 (Int.toNat s1) (0:UInt8))):Nat):Int) (32:Int))>=97)) then
 bif (decide ((bits Go.BinOp.or u8 (((UInt8.toNat (getD s0 (Int.toNat s1) (0:UInt8))):Nat):Int) (32:Int))<=122)) then
 Z74 s0 s1 s2 s3 s4 s5 s6 (wrap i64 (wrap u8 ((bits Go.BinOp.or u8 (((UInt8.toNat (getD s0 (Int.toNat s1) (0:UInt8))):Nat):Int) (32:Int)) - 97)))
 else
 Z74 s0 s1 s2 s3 s4 s5 s6 y0
 else
 Z74 s0 s1 s2 s3 s4 s5 s6 y0
 else
 Z74 s0 s1 s2 s3 s4 s5 s6 y0
 else
 none
 else
 none:=by unfold Z64; rewrite [Y8]; kernel_rfl
theorem Ywj (s0:List UInt8) (s1:Int) (s2:Int) (s3:Int) (s4:Int) (s5:Int) (s6:Int) (s7:Int):Z74 s0 s1 s2 s3 s4 s5 s6 s7=
 bif (decide (s7 < 0)) then
 some ((0:Int),((0:Int),((31:Int),s1)))
 else
 bif (decide ((wrap i64 (s2+(wrap i64 (s7*s5)))) > 2147483647)) then
 some ((0:Int),((0:Int),((32:Int),s4)))
 else
 (Y57 (s6,s3)).bind fun y0=>
 bif (decide (s7 < y0)) then
 some ((wrap i64 (s2+(wrap i64 (s7*s5)))),((wrap i64 (s1+1)),((0:Int),(0:Int))))
 else
 bif (decide ((wrap i64 (s5*(wrap i64 ((36:Int) - y0)))) > 2147483647)) then
 some ((0:Int),((0:Int),((32:Int),s4)))
 else
 Z64 s0 (wrap i64 (s1+1)) (wrap i64 (s2+(wrap i64 (s7*s5)))) s3 s4 (wrap i64 (s5*(wrap i64 ((36:Int) - y0)))) (wrap i64 (s6+36)):=by unfold Z74; rewrite [Y8]; kernel_rfl
theorem Y1p (x:((List Int)×(Int×(List Int)))):Yb4 x=Yw4 x:=by kernel_rfl
theorem Ypp (x:((List Int)×Int)):Ypf x=
 Z84 x.2 x.1:=by kernel_rfl
theorem YCj (s0:Int) (r1:List Int):Z84 s0 r1=
 bif (decide ((wrap u32 s0)<=2047)) then
 bif (decide (((length r1)+(length ([(bits Go.BinOp.or u8 (192:Int) (wrap u8 (shr i32 s0 (6:Int)))),(bits Go.BinOp.or u8 (128:Int) (bits Go.BinOp.and u8 (wrap u8 s0) (63:Int)))]:List Int)))<=(lim))) then
 some (r1++([(bits Go.BinOp.or u8 (192:Int) (wrap u8 (shr i32 s0 (6:Int)))),(bits Go.BinOp.or u8 (128:Int) (bits Go.BinOp.and u8 (wrap u8 s0) (63:Int)))]:List Int))
 else
 none
 else
 bif (decide ((wrap u32 s0) < 55296)) then
 Z94 s0 (wrap u32 s0) (decide ((wrap u32 s0) < 55296)) r1
 else
 bif (decide ((57343:Int) < (wrap u32 s0))) then
 Z94 s0 (wrap u32 s0) (decide ((wrap u32 s0)<=65535)) r1
 else
 Z94 s0 (wrap u32 s0) false r1:=by unfold Z84; rewrite [Y8]; kernel_rfl
theorem YJc (s0:Int) (s1:Int) (s2:Bool) (r3:List Int):Z94 s0 s1 s2 r3=
 bif s2 then
 bif (decide (((length r3)+(length ([(bits Go.BinOp.or u8 (224:Int) (wrap u8 (shr i32 s0 (12:Int)))),(bits Go.BinOp.or u8 (128:Int) (bits Go.BinOp.and u8 (wrap u8 (shr i32 s0 (6:Int))) (63:Int))),(bits Go.BinOp.or u8 (128:Int) (bits Go.BinOp.and u8 (wrap u8 s0) (63:Int)))]:List Int)))<=(lim))) then
 some (r3++([(bits Go.BinOp.or u8 (224:Int) (wrap u8 (shr i32 s0 (12:Int)))),(bits Go.BinOp.or u8 (128:Int) (bits Go.BinOp.and u8 (wrap u8 (shr i32 s0 (6:Int))) (63:Int))),(bits Go.BinOp.or u8 (128:Int) (bits Go.BinOp.and u8 (wrap u8 s0) (63:Int)))]:List Int))
 else
 none
 else
 bif (decide (s1 > 65535)) then
 bif (decide (s1<=1114111)) then
 bif (decide (((length r3)+(length ([(bits Go.BinOp.or u8 (240:Int) (wrap u8 (shr i32 s0 (18:Int)))),(bits Go.BinOp.or u8 (128:Int) (bits Go.BinOp.and u8 (wrap u8 (shr i32 s0 (12:Int))) (63:Int))),(bits Go.BinOp.or u8 (128:Int) (bits Go.BinOp.and u8 (wrap u8 (shr i32 s0 (6:Int))) (63:Int))),(bits Go.BinOp.or u8 (128:Int) (bits Go.BinOp.and u8 (wrap u8 s0) (63:Int)))]:List Int)))<=(lim))) then
 some (r3++([(bits Go.BinOp.or u8 (240:Int) (wrap u8 (shr i32 s0 (18:Int)))),(bits Go.BinOp.or u8 (128:Int) (bits Go.BinOp.and u8 (wrap u8 (shr i32 s0 (12:Int))) (63:Int))),(bits Go.BinOp.or u8 (128:Int) (bits Go.BinOp.and u8 (wrap u8 (shr i32 s0 (6:Int))) (63:Int))),(bits Go.BinOp.or u8 (128:Int) (bits Go.BinOp.and u8 (wrap u8 s0) (63:Int)))]:List Int))
 else
 none
 else
 bif (decide (((length r3)+(length ([239,191,189]:List Int)))<=(lim))) then
 some (r3++([239,191,189]:List Int))
 else
 none
 else
 bif (decide (((length r3)+(length ([239,191,189]:List Int)))<=(lim))) then
 some (r3++([239,191,189]:List Int))
 else
 none:=by unfold Z94; rewrite [Y8]; kernel_rfl
theorem Yvp (x:Int):Yda x=
 Za4 x:=by kernel_rfl
theorem YPj (s0:Int):Za4 s0=
 bif (decide (s0>=194)) then
 bif (decide (s0<=223)) then
 some ((128:Int),((191:Int),(2:Int)))
 else
 bif (s0==224) then
 some ((160:Int),((191:Int),(3:Int)))
 else
 bif (s0==237) then
 some ((128:Int),((159:Int),(3:Int)))
 else
 bif (decide (s0>=225)) then
 bif (decide (s0<=239)) then
 some ((128:Int),((191:Int),(3:Int)))
 else
 bif (s0==240) then
 some ((144:Int),((191:Int),(4:Int)))
 else
 bif (decide (s0>=241)) then
 bif (decide (s0<=243)) then
 some ((128:Int),((191:Int),(4:Int)))
 else
 bif (s0==244) then
 some ((128:Int),((143:Int),(4:Int)))
 else
 some ((0:Int),((0:Int),(0:Int)))
 else
 bif (s0==244) then
 some ((128:Int),((143:Int),(4:Int)))
 else
 some ((0:Int),((0:Int),(0:Int)))
 else
 bif (s0==240) then
 some ((144:Int),((191:Int),(4:Int)))
 else
 bif (decide (s0>=241)) then
 bif (decide (s0<=243)) then
 some ((128:Int),((191:Int),(4:Int)))
 else
 bif (s0==244) then
 some ((128:Int),((143:Int),(4:Int)))
 else
 some ((0:Int),((0:Int),(0:Int)))
 else
 bif (s0==244) then
 some ((128:Int),((143:Int),(4:Int)))
 else
 some ((0:Int),((0:Int),(0:Int)))
 else
 bif (s0==224) then
 some ((160:Int),((191:Int),(3:Int)))
 else
 bif (s0==237) then
 some ((128:Int),((159:Int),(3:Int)))
 else
 bif (decide (s0>=225)) then
 bif (decide (s0<=239)) then
 some ((128:Int),((191:Int),(3:Int)))
 else
 bif (s0==240) then
 some ((144:Int),((191:Int),(4:Int)))
 else
 bif (decide (s0>=241)) then
 bif (decide (s0<=243)) then
 some ((128:Int),((191:Int),(4:Int)))
 else
 bif (s0==244) then
 some ((128:Int),((143:Int),(4:Int)))
 else
 some ((0:Int),((0:Int),(0:Int)))
 else
 bif (s0==244) then
 some ((128:Int),((143:Int),(4:Int)))
 else
 some ((0:Int),((0:Int),(0:Int)))
 else
 bif (s0==240) then
 some ((144:Int),((191:Int),(4:Int)))
 else
 bif (decide (s0>=241)) then
 bif (decide (s0<=243)) then
 some ((128:Int),((191:Int),(4:Int)))
 else
 bif (s0==244) then
 some ((128:Int),((143:Int),(4:Int)))
 else
 some ((0:Int),((0:Int),(0:Int)))
 else
 bif (s0==244) then
 some ((128:Int),((143:Int),(4:Int)))
 else
 some ((0:Int),((0:Int),(0:Int))):=by unfold Za4; rewrite [Y8]; kernel_rfl
theorem YEn (x:(Int×Int)):Y57 x=
 Zb4 x.1 x.2:=by kernel_rfl
theorem YVj (s0:Int) (s1:Int):Zb4 s0 s1=
 bif (decide (s0<=s1)) then
 some (1:Int)
 else
 bif (decide (s0>=(wrap i64 (s1+26)))) then
 some (26:Int)
 else
 some (wrap i64 (s0 - s1)):=by unfold Zb4; rewrite [Y8]; kernel_rfl
theorem YWm (x:(List UInt8×Int)):Yne x=
 Zc4 x.1 x.2:=by kernel_rfl
theorem Y0k (s0:List UInt8) (s1:Int):Zc4 s0 s1=
 Zd4 s0 s1 (wrap i64 ((((length s0):Nat):Int) - 1)):=by unfold Zc4; rewrite [Y8]; kernel_rfl
theorem YWc (s0:List UInt8) (s1:Int) (s2:Int):Zd4 s0 s1 s2=
 bif (decide (s2>=0)) then
 bif (Ya s2 (length s0)) then
 bif ((((UInt8.toNat (getD s0 (Int.toNat s2) (0:UInt8))):Nat):Int)==s1) then
 some s2
 else
 Zd4 s0 s1 (wrap i64 (s2 - 1))
 else
 none
 else
 some (-(1:Int)):=by unfold Zd4; rewrite [Y8]; kernel_rfl
end
end Go.Abs
namespace Go.Abs
noncomputable section
open IntKind List
def Yy5 (x:D35):Option Int:=Abs.Call E 50 x
def Ze4 (s0:D35):Option Int:=(Abs.Run E 50 (E.at 50 []) ⟨Y7 [(0,(.val T35 s0))],Ye [],Yf []⟩)
def Zf4 (s0:D35) (s1:Int) (s2:Bool) (b3:D35) (b4:D35):Option Int:=(Abs.Run E 50 (E.at 50 [1,1,0,1,0,0,1,9]) ⟨Y7 [(0,(.val T35 s0)),(1,(.addr (.box 0) [])),(3,(.addr (.box 1) [])),(8,(.val (.int .i64) s1)),(9,(.val .bool s2))],Yc [.cells T35 .live (.val T35 b3),.cells T35 .live (.val T35 b4)],Yd []⟩)
def Zg4 (s0:D35) (s1:Int) (s2:Bool) (b3:D35) (b4:D35):Option Int:=(Abs.Run E 50 (E.at 50 [1,1,0,1,0,1,9]) ⟨Y7 [(0,(.val T35 s0)),(1,(.addr (.box 0) [])),(3,(.addr (.box 1) [])),(8,(.val (.int .i64) s1)),(9,(.val .bool s2))],Yc [.cells T35 .live (.val T35 b3),.cells T35 .live (.val T35 b4)],Yd []⟩)
def Zh4 (s0:D35) (b1:D35) (b2:D35):Option Int:=(Abs.Run E 50 (E.at 50 [1,1,0,1,0,1,1,1,9]) ⟨Y7 [(0,(.val T35 s0)),(1,(.addr (.box 0) [])),(3,(.addr (.box 1) []))],Yc [.cells T35 .live (.val T35 b1),.cells T35 .live (.val T35 b2)],Yd []⟩)
def Zi4 (s0:D35) (b1:D35) (b2:D35):Option Int:=(Abs.Run E 50 (E.at 50 [1,1,0,1,0,1,1,1,1,1,9]) ⟨Y7 [(0,(.val T35 s0)),(1,(.addr (.box 0) [])),(3,(.addr (.box 1) []))],Yc [.cells T35 .live (.val T35 b1),.cells T35 .live (.val T35 b2)],Yd []⟩)
def Zj4 (s0:D35) (s1:Bool) (b2:D35) (b3:D35):Option Int:=(Abs.Run E 50 (E.at 50 [1,1,0,1,0,1,1,1,1,1,1,0,1,9]) ⟨Y7 [(0,(.val T35 s0)),(1,(.addr (.box 0) [])),(3,(.addr (.box 1) [])),(22,(.val .bool s1))],Yc [.cells T35 .live (.val T35 b2),.cells T35 .live (.val T35 b3)],Yd []⟩)
def Zk4 (s0:D35) (b1:D35) (b2:D35):Option Int:=(Abs.Run E 50 (E.at 50 [1,1,0,1,0,1,9]) ⟨Y7 [(0,(.val T35 s0)),(1,(.addr (.box 0) [])),(3,(.addr (.box 1) [])),(8,.undef),(9,.undef)],Yc [.cells T35 .live (.val T35 b1),.cells T35 .live (.val T35 b2)],Yd []⟩)
def Zl4 (s0:D35) (s1:Bool) (b2:D35) (b3:D35):Option Int:=(Abs.Run E 50 (E.at 50 [1,1,0,1,0,1,1,1,1,1,1,1,9]) ⟨Y7 [(0,(.val T35 s0)),(1,(.addr (.box 0) [])),(3,(.addr (.box 1) [])),(22,(.val .bool s1))],Yc [.cells T35 .live (.val T35 b2),.cells T35 .live (.val T35 b3)],Yd []⟩)
theorem Ysm (x:D35):Yy5 x=
 Ze4 x:=by kernel_rfl
theorem Y4k (s0:D35):Ze4 s0=
 bif (s0.1==0) then
 Zf4 s0 s0.1 (s0.1==0) s0 (s0.1,((Ty.zero .str),((Ty.zero (.int .u32)),(Ty.zero (.arr 8 (.int .u16))))))
 else
 Zf4 s0 s0.1 (s0.1==5) s0 (s0.1,((Ty.zero .str),((Ty.zero (.int .u32)),(Ty.zero (.arr 8 (.int .u16)))))):=by unfold Ze4; rewrite [Y8]; kernel_rfl
theorem Y9k (s0:D35) (s1:Int) (s2:Bool) (b3:D35) (b4:D35):Zf4 s0 s1 s2 b3 b4=
 bif s2 then
 Zg4 s0 s1 s2 b3 b4
 else
 bif (s1==2) then
 Zh4 s0 b3 (b4.1,(b4.2.1,(b3.2.2.1,b4.2.2.2)))
 else
 bif (s1==3) then
 Zi4 s0 b3 (b4.1,(b4.2.1,(b4.2.2.1,b3.2.2.2)))
 else
 bif (s1==1) then
 Zj4 s0 (s1==1) b3 b4
 else
 Zj4 s0 (s1==4) b3 b4:=by unfold Zf4; rewrite [Y8]; kernel_rfl
theorem Yck (s0:D35) (s1:Int) (s2:Bool) (b3:D35) (b4:D35):Zg4 s0 s1 s2 b3 b4=
 bif (!(Ty.beq T35 b3 b4)) then
 some (51:Int)
 else
 some (0:Int):=by unfold Zg4; rewrite [Y8]; kernel_rfl
theorem Ygk (s0:D35) (b1:D35) (b2:D35):Zh4 s0 b1 b2=
 Zk4 s0 b1 b2:=by unfold Zh4; rewrite [Y8]; kernel_rfl
theorem Ylk (s0:D35) (b1:D35) (b2:D35):Zi4 s0 b1 b2=
 Zh4 s0 b1 b2:=by unfold Zi4; rewrite [Y8]; kernel_rfl
theorem Yqk (s0:D35) (s1:Bool) (b2:D35) (b3:D35):Zj4 s0 s1 b2 b3=
 bif s1 then
 (Yt9 (b2.2.1,(b2.1==1))).bind fun y0=>
 Zl4 s0 s1 b2 y0.1
 else
 some (51:Int):=by unfold Zj4; rewrite [Y8]; kernel_rfl
theorem Yxk (s0:D35) (b1:D35) (b2:D35):Zk4 s0 b1 b2=
 bif (!(Ty.beq T35 b1 b2)) then
 some (51:Int)
 else
 some (0:Int):=by unfold Zk4; rewrite [Y8]; kernel_rfl
theorem YDk (s0:D35) (s1:Bool) (b2:D35) (b3:D35):Zl4 s0 s1 b2 b3=
 Zi4 s0 b2 b3:=by unfold Zl4; rewrite [Y8]; kernel_rfl
end
end Go.Abs
namespace Go.Abs
end Go.Abs
namespace Go.Abs
end Go.Abs
namespace Go.Abs
noncomputable section
open IntKind List
def Yx9 (x:Unit):Option Bool:=Abs.Call E 15 x
def Yn9 (x:Int):Option ((Option (Int×(List D87)))×Int):=Abs.Call E 16 x
def Zm4 (s0:Int):Option ((Option (Int×(List D87)))×Int):=(Abs.Run E 16 (E.at 16 []) ⟨Y7 [(0,(.val (.int .i64) s0))],Ye [],Yf []⟩)
def YX6 (x:Int):Option Int:=Abs.Call E 17 x
def Zn4 (s0:Int):Option Int:=(Abs.Run E 17 (E.at 17 []) ⟨Y7 [(0,(.val (.int .i64) s0))],Ye [],Yf []⟩)
def Yk9 (x:((Int×(List D87))×(D37×(List Int)))):Option (Int×(Int×(List D87))):=Abs.Call E 18 x
def Zo4 (s0:D37) (s1:(List Int)) (r2:List D87) (b3:Int):Option (Int×(Int×(List D87))):=(Abs.Run E 18 (E.at 18 []) ⟨Y7 [(2,(.val (.sl false (.int .i64)) s1)),(1,(.val T37 s0)),(0,(.addr (.box 1073741824) []))],Ye [(1073741824,.cells (.st (.pair (.int .i64) (.sl true T87))) .live (.st (.pair (.val (.int .i64) b3) (.row 8589934593))))],Yf [(8589934593,.mk T87 .live r2)]⟩)
def Zp4 (s0:D37) (s1:(List Int)) (b2:Int) (b3:D37) (r4:List D87):Option (Int×(Int×(List D87))):=(Abs.Run E 18 (E.at 18 [1,1,1,0,1,9]) ⟨Y7 [(0,(.addr (.box 0) [])),(1,(.val T37 s0)),(2,(.val (.sl false (.int .i64)) s1)),(4,(.addr (.box 1) []))],Yc [.cells (.st (.pair (.int .i64) (.sl true T87))) .live (.st (.pair (.val (.int .i64) b2) (.row 0))),.cells T37 .live (.val T37 b3)],Yd [.mk T87 .live r4]⟩)
def Yj9 (x:(Int×(List D87))):Option ((List D37)×(Int×(List D87))):=Abs.Call E 19 x
def Zq4 (r0:List D87) (b1:Int):Option ((List D37)×(Int×(List D87))):=(Abs.Run E 19 (E.at 19 []) ⟨Y7 [(0,(.addr (.box 1073741824) []))],Ye [(1073741824,.cells (.st (.pair (.int .i64) (.sl true T87))) .live (.st (.pair (.val (.int .i64) b1) (.row 8589934593))))],Yf [(8589934593,.mk T87 .live r0)]⟩)
def Zr4 (s0:Int) (s1:Int) (b2:Int) (r3:List D87) (r4:List D37) (r5:List D87):Option ((List D37)×(Int×(List D87))):=(Abs.Run E 19 (E.at 19 [1,1,0,1,0,7]) ⟨Y7 [(0,(.addr (.box 0) [])),(3,(.row 1)),(7,(.row 2)),(8,(.val (.int .i64) s0)),(9,(.val (.int .i64) s1))],Yc [.cells (.st (.pair (.int .i64) (.sl true T87))) .live (.st (.pair (.val (.int .i64) b2) (.row 0)))],Yd [.mk T87 .live r3,.mk T37 .live r4,.mk T87 .live r5]⟩)
def Yh9 (x:((Int×(List D87))×D37)):Option (Bool×(Int×(List D87))):=Abs.Call E 28 x
def Zs4 (s0:D37) (r1:List D87) (b2:Int):Option (Bool×(Int×(List D87))):=(Abs.Run E 28 (E.at 28 []) ⟨Y7 [(1,(.val T37 s0)),(0,(.addr (.box 1073741824) []))],Ye [(1073741824,.cells (.st (.pair (.int .i64) (.sl true T87))) .live (.st (.pair (.val (.int .i64) b2) (.row 8589934593))))],Yf [(8589934593,.mk T87 .live r1)]⟩)
def Yi9 (x:(Int×(List D87))):Option ((List D87)×(Int×(List D87))):=Abs.Call E 35 x
def Zt4 (r0:List D87) (b1:Int):Option ((List D87)×(Int×(List D87))):=(Abs.Run E 35 (E.at 35 []) ⟨Y7 [(0,(.addr (.box 1073741824) []))],Ye [(1073741824,.cells (.st (.pair (.int .i64) (.sl true T87))) .live (.st (.pair (.val (.int .i64) b1) (.row 8589934593))))],Yf [(8589934593,.mk T87 .live r0)]⟩)
def Zu4 (s0:Int) (s1:Int) (b2:Int) (r3:List D87) (r4:List D87):Option ((List D87)×(Int×(List D87))):=(Abs.Run E 35 (E.at 35 [1,1,1,0,1,0,7]) ⟨Y7 [(0,(.addr (.box 0) [])),(3,(.row 1)),(12,(.row 0)),(13,(.val (.int .i64) s0)),(14,(.val (.int .i64) s1))],Yc [.cells (.st (.pair (.int .i64) (.sl true T87))) .live (.st (.pair (.val (.int .i64) b2) (.row 0)))],Yd [.mk T87 .live r3,.mk T87 .live r4]⟩)
def YR6 (x:(Int×(List D87))):Option (Bool×(Int×(List D87))):=Abs.Call E 67 x
def Zv4 (r0:List D87) (b1:Int):Option (Bool×(Int×(List D87))):=(Abs.Run E 67 (E.at 67 []) ⟨Y7 [(0,(.addr (.box 1073741824) []))],Ye [(1073741824,.cells (.st (.pair (.int .i64) (.sl true T87))) .live (.st (.pair (.val (.int .i64) b1) (.row 8589934593))))],Yf [(8589934593,.mk T87 .live r0)]⟩)
def YS6 (x:(D37×(List Int))):Option Int:=Abs.Call E 68 x
def Zw4 (s0:D37) (s1:(List Int)):Option Int:=(Abs.Run E 68 (E.at 68 []) ⟨Y7 [(1,(.val (.sl false (.int .i64)) s1)),(0,(.val T37 s0))],Ye [],Yf []⟩)
def Y6a (x:((List D87)×(Int×Int))):Option (List D87):=Abs.Call E 69 x
def Y5a (x:(List Int)):Option (List Int):=Abs.Call E 70 x
def Yl9 (x:((Int×(List D87))×D37)):Option (Int×(Int×(List D87))):=Abs.Call E 71 x
def Zx4 (s0:D37) (r1:List D87) (b2:Int):Option (Int×(Int×(List D87))):=(Abs.Run E 71 (E.at 71 []) ⟨Y7 [(1,(.val T37 s0)),(0,(.addr (.box 1073741824) []))],Ye [(1073741824,.cells (.st (.pair (.int .i64) (.sl true T87))) .live (.st (.pair (.val (.int .i64) b2) (.row 8589934593))))],Yf [(8589934593,.mk T87 .live r1)]⟩)
def YZ6 (x:D37):Option Int:=Abs.Call E 148 x
def Zy4 (s0:D37):Option Int:=(Abs.Run E 148 (E.at 148 []) ⟨Y7 [(0,(.val T37 s0))],Ye [],Yf []⟩)
def Yz9 (x:D37):Option Bool:=Abs.Call E 149 x
def Zz4 (s0:D37):Option Bool:=(Abs.Run E 149 (E.at 149 []) ⟨Y7 [(0,(.val T37 s0))],Ye [],Yf []⟩)
def Z05 (s0:D37) (b1:D37):Option Bool:=(Abs.Run E 149 (E.at 149 [1,1,1,0,1,0,1,9]) ⟨Y7 [(0,(.val T37 s0)),(1,(.addr (.box 0) []))],Yc [.cells T37 .live (.val T37 b1)],Yd []⟩)
def Z15 (s0:D37) (b1:D37):Option Bool:=(Abs.Run E 149 (E.at 149 [1,1,1,0,1,0,1,0,1,9]) ⟨Y7 [(0,(.val T37 s0)),(1,(.addr (.box 0) []))],Yc [.cells T37 .live (.val T37 b1)],Yd []⟩)
def Yo9 (x:(List Int)):Option Int:=Abs.Call E 150 x
def Z25 (s0:(List Int)):Option Int:=(Abs.Run E 150 (E.at 150 []) ⟨Y7 [(0,(.val (.sl false (.int .i64)) s0))],Ye [],Yf []⟩)
def Z35 (s0:(List Int)) (s1:(List Int)) (s2:Int) (s3:Int):Option Int:=(Abs.Run E 150 (E.at 150 [1,0,1,0,7]) ⟨Y7 [(0,(.val (.sl false (.int .i64)) s0)),(5,(.val (.sl false (.int .i64)) s1)),(6,(.val (.int .i64) s2)),(7,(.val (.int .i64) s3))],Yc [],Yd []⟩)
def Y9f (x:((List D87)×D37)):Option Int:=Abs.Call E 151 x
def Z45 (s0:(List D87)) (s1:D37):Option Int:=(Abs.Run E 151 (E.at 151 []) ⟨Y7 [(1,(.cl 152 1 (.addr (.fbox T37 s1) []))),(0,(.val (.sl false T87) s0))],Ye [],Yf []⟩)
def Z55 (s0:(List D87)) (s1:D37) (s2:Int) (s3:Int):Option Int:=(Abs.Run E 151 (E.at 151 [1,0,1,0,7]) ⟨Y7 [(0,(.val (.sl false T87) s0)),(1,(.cl 152 1 (.addr (.fbox T37 s1) []))),(7,(.val (.int .i64) s2)),(8,(.val (.int .i64) s3))],Yc [],Yd []⟩)
def Yge (x:(D87×D37)):Option Bool:=Abs.Call E 152 x
def Z65 (s0:D87) (s1:D37):Option Bool:=(Abs.Run E 152 (E.at 152 []) ⟨Y7 [(1,(.addr (.fbox T37 s1) [])),(0,(.val T87 s0))],Ye [],Yf []⟩)
def YA5 (x:List UInt8):Option (Int×Bool):=Abs.Call E 211 x
def YP5 (x:((List Int)×Int)):Option Bool:=Abs.Call E 212 x
def Z75 (s0:(List Int)) (s1:Int):Option Bool:=(Abs.Run E 212 (E.at 212 []) ⟨Y7 [(1,(.val (.int .i64) s1)),(0,(.val (.sl false (.int .i64)) s0))],Ye [],Yf []⟩)
def Yaf (x:((List Int)×Int)):Option Int:=Abs.Call E 251 x
def Z85 (s0:(List Int)) (s1:Int):Option Int:=(Abs.Run E 251 (E.at 251 []) ⟨Y7 [(1,(.val (.int .i64) s1)),(0,(.val (.sl false (.int .i64)) s0))],Ye [],Yf []⟩)
def Z95 (s0:(List Int)) (s1:Int) (s2:Int) (s3:Int):Option Int:=(Abs.Run E 251 (E.at 251 [1,0,1,0,7]) ⟨Y7 [(0,(.val (.sl false (.int .i64)) s0)),(1,(.val (.int .i64) s1)),(7,(.val (.int .i64) s2)),(8,(.val (.int .i64) s3))],Yc [],Yd []⟩)
theorem Yom (x:Int):Yn9 x=
 Zm4 x:=by kernel_rfl
theorem YIk (s0:Int):Zm4 s0=
 bif (decide (s0 < 1)) then
 some (none,(4:Int))
 else
 bif (decide (s0 > 64)) then
 some (none,(4:Int))
 else
 some ((some (s0,([]:List D87))),(0:Int)):=by unfold Zm4; rewrite [Y8]; kernel_rfl
theorem Y4n (x:Int):YX6 x=
 Zn4 x:=by kernel_rfl
theorem YPk (s0:Int):Zn4 s0=
 some s0:=by unfold Zn4; rewrite [Y8]; kernel_rfl
theorem Ylm (x:((Int×(List D87))×(D37×(List Int)))):Yk9 x=
 Zo4 x.2.1 x.2.2 x.1.2 x.1.1:=by kernel_rfl
theorem YTk (s0:D37) (s1:(List Int)) (r2:List D87) (b3:Int):Zo4 s0 s1 r2 b3=
 (YR6 (b3,r2)).bind fun y0=>
 bif (!y0.1) then
 some ((2:Int),(y0.2.1,y0.2.2))
 else
 (YS6 (s0,s1)).bind fun y1=>
 bif (y1 !=0) then
 some (y1,(y0.2.1,y0.2.2))
 else
 (Yh9 ((y0.2.1,y0.2.2),s0)).bind fun y2=>
 bif (!y2.1) then
 bif ((((length y2.2.2):Nat):Int)==y2.2.1) then
 (Y6a (y2.2.2,((0:Int),(1:Int)))).bind fun y3=>
 Zp4 s0 s1 y2.2.1 s0 y3
 else
 Zp4 s0 s1 y2.2.1 s0 y2.2.2
 else
 Zp4 s0 s1 y2.2.1 s0 y2.2.2:=by unfold Zo4; rewrite [Y8]; kernel_rfl
theorem YZk (s0:D37) (s1:(List Int)) (b2:Int) (b3:D37) (r4:List D87):Zp4 s0 s1 b2 b3 r4=
 (Y5a s1).bind fun y0=>
 bif (decide (((length r4)+(length ([(b3,y0)]:List D87)))<=(lim))) then
 some ((0:Int),(b2,(r4++([(b3,y0)]:List D87))))
 else
 none:=by unfold Zp4; rewrite [Y8]; kernel_rfl
theorem Ykm (x:(Int×(List D87))):Yj9 x=
 Zq4 x.2 x.1:=by kernel_rfl
theorem Y6l (r0:List D87) (b1:Int):Zq4 r0 b1=
 (Yi9 (b1,r0)).bind fun y0=>
 Zr4 (((length y0.1):Nat):Int) (0:Int) y0.2.1 y0.2.2 ([]:List D37) y0.1:=by unfold Zq4; rewrite [Y8]; kernel_rfl
theorem Ytd (s0:Int) (s1:Int) (b2:Int) (r3:List D87) (r4:List D37) (r5:List D87):Zr4 s0 s1 b2 r3 r4 r5=
 bif (decide (s1 < s0)) then
 bif (Ya s1 (length r5)) then
 bif (decide (((length r4)+(length ([(getD r5 (Int.toNat s1) (Ty.zero T87)).1]:List D37)))<=(lim))) then
 Zr4 s0 (wrap i64 (s1+1)) b2 r3 (r4++([(getD r5 (Int.toNat s1) (Ty.zero T87)).1]:List D37)) r5
 else
 none
 else
 none
 else
 some (r4,(b2,r3)):=by unfold Zr4; rewrite [Y8]; kernel_rfl
theorem Yim (x:((Int×(List D87))×D37)):Yh9 x=
 Zs4 x.2 x.1.2 x.1.1:=by kernel_rfl
theorem Yil (s0:D37) (r1:List D87) (b2:Int):Zs4 s0 r1 b2=
 (Yl9 ((b2,r1),s0)).bind fun y0=>
 bif (decide (y0.1>=0)) then
 (Y6a (y0.2.2,(y0.1,(wrap i64 (y0.1+1))))).bind fun y1=>
 some ((decide (y0.1>=0)),(y0.2.1,y1))
 else
 some ((decide (y0.1>=0)),(y0.2.1,y0.2.2)):=by unfold Zs4; rewrite [Y8]; kernel_rfl
theorem Yjm (x:(Int×(List D87))):Yi9 x=
 Zt4 x.2 x.1:=by kernel_rfl
theorem Ynl (r0:List D87) (b1:Int):Zt4 r0 b1=
 (YR6 (b1,r0)).bind fun y0=>
 bif (!y0.1) then
 some (([]:List D87),(y0.2.1,y0.2.2))
 else
 Zu4 (((length y0.2.2):Nat):Int) (0:Int) y0.2.1 y0.2.2 ([]:List D87):=by unfold Zt4; rewrite [Y8]; kernel_rfl
theorem YBd (s0:Int) (s1:Int) (b2:Int) (r3:List D87) (r4:List D87):Zu4 s0 s1 b2 r3 r4=
 bif (decide (s1 < s0)) then
 bif (Ya s1 (length r3)) then
 (Y5a (getD r3 (Int.toNat s1) (Ty.zero T87)).2).bind fun y0=>
 bif (decide (((length r4)+(length ([((getD r3 (Int.toNat s1) (Ty.zero T87)).1,y0)]:List D87)))<=(lim))) then
 Zu4 s0 (wrap i64 (s1+1)) b2 r3 (r4++([((getD r3 (Int.toNat s1) (Ty.zero T87)).1,y0)]:List D87))
 else
 none
 else
 none
 else
 some (r4,(b2,r3)):=by unfold Zu4; rewrite [Y8]; kernel_rfl
theorem Ym9 (x:(Int×(List D87))):YR6 x=
 Zv4 x.2 x.1:=by kernel_rfl
theorem Y49 (r0:List D87) (b1:Int):Zv4 r0 b1=
 some ((decide (b1 > 0)),(b1,r0)):=by unfold Zv4; rewrite [Y8]; kernel_rfl
theorem Ypm (x:(D37×(List Int))):YS6 x=
 Zw4 x.1 x.2:=by kernel_rfl
theorem YAl (s0:D37) (s1:(List Int)):Zw4 s0 s1=
 (YZ6 s0).bind fun y0=>
 bif (y0 !=0) then
 some (71:Int)
 else
 bif (decide (s0.1 > 0)) then
 some (242:Int)
 else
 (Yz9 s0).bind fun y1=>
 bif (!y1) then
 some (1:Int)
 else
 (Yo9 s1).bind fun y2=>
 some y2:=by unfold Zw4; rewrite [Y8]; kernel_rfl
theorem Y8f (x:((List D87)×(Int×Int))):Y6a x=YN3 x:=by kernel_rfl
theorem Y7f (x:(List Int)):Y5a x=YM3 x:=by kernel_rfl
theorem Ynm (x:((Int×(List D87))×D37)):Yl9 x=
 Zx4 x.2 x.1.2 x.1.1:=by kernel_rfl
theorem YGl (s0:D37) (r1:List D87) (b2:Int):Zx4 s0 r1 b2=
 (YR6 (b2,r1)).bind fun y0=>
 bif (!y0.1) then
 some ((-(1:Int)),(y0.2.1,y0.2.2))
 else
 (Y9f (y0.2.2,s0)).bind fun y1=>
 some (y1,(y0.2.1,y0.2.2)):=by unfold Zx4; rewrite [Y8]; kernel_rfl
theorem Yan (x:D37):YZ6 x=
 Zy4 x:=by kernel_rfl
theorem YLl (s0:D37):Zy4 s0=
 bif (decide (s0.1 > 0)) then
 bif (Ty.beq T37 s0 (s0.1,((Ty.zero .str),(((Ty.zero (.int .i64)),((Ty.zero .str),((Ty.zero (.int .u32)),(Ty.zero (.arr 8 (.int .u16)))))),(Ty.zero (.int .i64)))))) then
 some (0:Int)
 else
 (YA5 s0.2.1).bind fun y0=>
 bif (s0.1 !=0) then
 some (71:Int)
 else
 bif (!y0.2) then
 some (71:Int)
 else
 (YP5 (([1,2,3]:List Int),s0.2.2.1.1)).bind fun y1=>
 bif (!y1) then
 some (71:Int)
 else
 (Yy5 s0.2.2.1).bind fun y2=>
 bif (y2 !=0) then
 some (71:Int)
 else
 bif (decide (s0.2.2.2 < 0)) then
 some (71:Int)
 else
 bif (decide (s0.2.2.2 > 65535)) then
 some (71:Int)
 else
 some (0:Int)
 else
 (YA5 s0.2.1).bind fun y0=>
 bif (s0.1 !=0) then
 some (71:Int)
 else
 bif (!y0.2) then
 some (71:Int)
 else
 (YP5 (([1,2,3]:List Int),s0.2.2.1.1)).bind fun y1=>
 bif (!y1) then
 some (71:Int)
 else
 (Yy5 s0.2.2.1).bind fun y2=>
 bif (y2 !=0) then
 some (71:Int)
 else
 bif (decide (s0.2.2.2 < 0)) then
 some (71:Int)
 else
 bif (decide (s0.2.2.2 > 65535)) then
 some (71:Int)
 else
 some (0:Int):=by unfold Zy4; rewrite [Y8]; kernel_rfl
theorem Ycn (x:D37):Yz9 x=
 Zz4 x:=by kernel_rfl
theorem YSl (s0:D37):Zz4 s0=
 (YZ6 s0).bind fun y0=>
 bif (y0 !=0) then
 some false
 else
 bif (decide (s0.1 > 0)) then
 some false
 else
 (Ys9 s0.2.2.1.2.1).bind fun y1=>
 bif (s0.2.2.1.1==2) then
 bif ((shr u32 s0.2.2.1.2.2.1 (24:Int))==127) then
 some true
 else
 Z05 s0 s0
 else
 bif (s0.2.2.1.1==3) then
 bif (Ty.beq (.arr 8 (.int .u16)) s0.2.2.1.2.2.2 (List.set (Ty.zero (.arr 8 (.int .u16))) 7 (1:Int))) then
 some true
 else
 Z15 s0 s0
 else
 bif (decide ((((length y1):Nat):Int) > 0)) then
 bif (Ya (wrap i64 ((((length y1):Nat):Int) - 1)) (length y1)) then
 bif ((getD y1 (Int.toNat (wrap i64 ((((length y1):Nat):Int) - 1))) (Ty.zero .str))==([108,111,99,97,108,104,111,115,116]:List UInt8)) then
 some true
 else
 Z15 s0 s0
 else
 none
 else
 Z15 s0 s0:=by unfold Zz4; rewrite [Y8]; kernel_rfl
theorem YTi (s0:D37) (b1:D37):Z05 s0 b1=
 bif (b1.2.1==([104,116,116,112,115]:List UInt8)) then
 some true
 else
 some (b1.2.1==([119,115,115]:List UInt8)):=by unfold Z05; rewrite [Y8]; kernel_rfl
theorem YZi (s0:D37) (b1:D37):Z15 s0 b1=
 Z05 s0 b1:=by unfold Z15; rewrite [Y8]; kernel_rfl
theorem Yrm (x:(List Int)):Yo9 x=
 Z25 x:=by kernel_rfl
theorem Y6j (s0:(List Int)):Z25 s0=
 Z35 s0 s0 (((length s0):Nat):Int) (0:Int):=by unfold Z25; rewrite [Y8]; kernel_rfl
theorem Yuc (s0:(List Int)) (s1:(List Int)) (s2:Int) (s3:Int):Z35 s0 s1 s2 s3=
 bif (decide (s3 < s2)) then
 bif (Ya s3 (length s1)) then
 bif (decide ((getD s1 (Int.toNat s3) (Ty.zero (.int .i64))) < 0)) then
 some (201:Int)
 else
 bif (decide ((getD s1 (Int.toNat s3) (Ty.zero (.int .i64)))>=12)) then
 some (201:Int)
 else
 bif (decide (s3 > 0)) then
 bif (Ya (wrap i64 (s3 - 1)) (length s0)) then
 bif (decide ((getD s1 (Int.toNat s3) (Ty.zero (.int .i64)))<=(getD s0 (Int.toNat (wrap i64 (s3 - 1))) (Ty.zero (.int .i64))))) then
 some (7:Int)
 else
 Z35 s0 s1 s2 (wrap i64 (s3+1))
 else
 none
 else
 Z35 s0 s1 s2 (wrap i64 (s3+1))
 else
 none
 else
 some (0:Int):=by unfold Z35; rewrite [Y8]; kernel_rfl
theorem YZo (x:((List D87)×D37)):Y9f x=
 Z45 x.1 x.2:=by kernel_rfl
theorem Ygj (s0:(List D87)) (s1:D37):Z45 s0 s1=
 Z55 s0 s1 (((length s0):Nat):Int) (0:Int):=by unfold Z45; rewrite [Y8]; kernel_rfl
theorem YAc (s0:(List D87)) (s1:D37) (s2:Int) (s3:Int):Z55 s0 s1 s2 s3=
 bif (decide (s3 < s2)) then
 bif (Ya s3 (length s0)) then
 (Yge ((getD s0 (Int.toNat s3) (Ty.zero T87)),s1)).bind fun y0=>
 bif y0 then
 some s3
 else
 Z55 s0 s1 s2 (wrap i64 (s3+1))
 else
 none
 else
 some (-(1:Int)):=by unfold Z55; rewrite [Y8]; kernel_rfl
theorem Ymm (x:(D87×D37)):Yge x=
 Z65 x.1 x.2:=by kernel_rfl
theorem Ypj (s0:D87) (s1:D37):Z65 s0 s1=
 some (Ty.beq T37 s0.1 s1):=by unfold Z65; rewrite [Y8]; kernel_rfl
theorem Ybn (x:List UInt8):YA5 x=Yy4 x:=by kernel_rfl
theorem YYo (x:((List Int)×Int)):YP5 x=
 Z75 x.1 x.2:=by kernel_rfl
theorem Yxj (s0:(List Int)) (s1:Int):Z75 s0 s1=
 (Yaf (s0,s1)).bind fun y0=>
 some (decide (y0>=0)):=by unfold Z75; rewrite [Y8]; kernel_rfl
theorem Y0p (x:((List Int)×Int)):Yaf x=
 Z85 x.1 x.2:=by kernel_rfl
theorem YDj (s0:(List Int)) (s1:Int):Z85 s0 s1=
 Z95 s0 s1 (((length s0):Nat):Int) (0:Int):=by unfold Z85; rewrite [Y8]; kernel_rfl
theorem YF6 (s0:(List Int)) (s1:Int) (s2:Int) (s3:Int):Z95 s0 s1 s2 s3=
 bif (decide (s3 < s2)) then
 bif (Ya s3 (length s0)) then
 bif (s1==(getD s0 (Int.toNat s3) (Ty.zero (.int .i64)))) then
 some s3
 else
 Z95 s0 s1 s2 (wrap i64 (s3+1))
 else
 none
 else
 some (-(1:Int)):=by unfold Z95; rewrite [Y8]; kernel_rfl
end
end Go.Abs
namespace Go.Abs
noncomputable section
open IntKind List
def YK5 (x:D35):Option Int:=Abs.Call E 61 x
def Zq7 (s0:D35):Option Int:=(Abs.Run E 61 (E.at 61 []) ⟨Y7 [(0,(.val T35 s0))],Ye [],Yf []⟩)
def Zr7 (s0:D35) (s1:Int) (s2:Bool) (b3:D35) (b4:D35):Option Int:=(Abs.Run E 61 (E.at 61 [1,1,0,1,0,0,1,9]) ⟨Y7 [(0,(.val T35 s0)),(1,(.addr (.box 0) [])),(3,(.addr (.box 1) [])),(12,(.val (.int .i64) s1)),(13,(.val .bool s2))],Yc [.cells T35 .live (.val T35 b3),.cells T35 .live (.val T35 b4)],Yd []⟩)
def Zs7 (s0:D35) (s1:Int) (s2:Bool) (b3:D35) (b4:D35):Option Int:=(Abs.Run E 61 (E.at 61 [1,1,0,1,0,1,9]) ⟨Y7 [(0,(.val T35 s0)),(1,(.addr (.box 0) [])),(3,(.addr (.box 1) [])),(12,(.val (.int .i64) s1)),(13,(.val .bool s2))],Yc [.cells T35 .live (.val T35 b3),.cells T35 .live (.val T35 b4)],Yd []⟩)
def Zt7 (s0:D35) (b1:D35) (b2:D35):Option Int:=(Abs.Run E 61 (E.at 61 [1,1,0,1,0,1,1,1,9]) ⟨Y7 [(0,(.val T35 s0)),(1,(.addr (.box 0) [])),(3,(.addr (.box 1) []))],Yc [.cells T35 .live (.val T35 b1),.cells T35 .live (.val T35 b2)],Yd []⟩)
def Zu7 (s0:D35) (b1:D35) (b2:D35):Option Int:=(Abs.Run E 61 (E.at 61 [1,1,0,1,0,1,1,1,1,1,9]) ⟨Y7 [(0,(.val T35 s0)),(1,(.addr (.box 0) [])),(3,(.addr (.box 1) []))],Yc [.cells T35 .live (.val T35 b1),.cells T35 .live (.val T35 b2)],Yd []⟩)
def Zv7 (s0:D35) (b1:D35) (b2:D35):Option Int:=(Abs.Run E 61 (E.at 61 [1,1,0,1,0,1,1,1,1,1,1,1,9]) ⟨Y7 [(0,(.val T35 s0)),(1,(.addr (.box 0) [])),(3,(.addr (.box 1) []))],Yc [.cells T35 .live (.val T35 b1),.cells T35 .live (.val T35 b2)],Yd []⟩)
def Zw7 (s0:D35) (b1:D35) (b2:D35):Option Int:=(Abs.Run E 61 (E.at 61 [1,1,0,1,0,1,9]) ⟨Y7 [(0,(.val T35 s0)),(1,(.addr (.box 0) [])),(3,(.addr (.box 1) [])),(12,.undef),(13,.undef)],Yc [.cells T35 .live (.val T35 b1),.cells T35 .live (.val T35 b2)],Yd []⟩)
def YV9 (x:List UInt8):Option (List (List UInt8)):=Abs.Call E 64 x
def Zx7 (s0:List UInt8):Option (List (List UInt8)):=(Abs.Run E 64 (E.at 64 []) ⟨Y7 [(0,(.val .str s0))],Ye [],Yf []⟩)
theorem Yvo (x:D35):YK5 x=
 Zq7 x:=by kernel_rfl
theorem Y9l (s0:D35):Zq7 s0=
 bif (s0.1==0) then
 Zr7 s0 s0.1 (s0.1==0) s0 (s0.1,((Ty.zero .str),((Ty.zero (.int .u32)),(Ty.zero (.arr 8 (.int .u16))))))
 else
 Zr7 s0 s0.1 (s0.1==5) s0 (s0.1,((Ty.zero .str),((Ty.zero (.int .u32)),(Ty.zero (.arr 8 (.int .u16)))))):=by unfold Zq7; rewrite [Y8]; kernel_rfl
theorem Yfl (s0:D35) (s1:Int) (s2:Bool) (b3:D35) (b4:D35):Zr7 s0 s1 s2 b3 b4=
 bif s2 then
 Zs7 s0 s1 s2 b3 b4
 else
 bif (s1==1) then
 (Yn7 (b3.2.1,true)).bind fun y0=>
 bif (y0.2 !=0) then
 some (51:Int)
 else
 Zt7 s0 b3 y0.1
 else
 bif (s1==4) then
 (Yn7 (b3.2.1,false)).bind fun y0=>
 bif (y0.2 !=0) then
 some (51:Int)
 else
 Zu7 s0 b3 y0.1
 else
 bif (s1==2) then
 Zv7 s0 b3 (b4.1,(b4.2.1,(b3.2.2.1,b4.2.2.2)))
 else
 bif (s1==3) then
 Zv7 s0 b3 (b4.1,(b4.2.1,(b4.2.2.1,b3.2.2.2)))
 else
 some (51:Int):=by unfold Zr7; rewrite [Y8]; kernel_rfl
theorem Ykl (s0:D35) (s1:Int) (s2:Bool) (b3:D35) (b4:D35):Zs7 s0 s1 s2 b3 b4=
 bif (!(Ty.beq T35 b4 b3)) then
 some (51:Int)
 else
 some (0:Int):=by unfold Zs7; rewrite [Y8]; kernel_rfl
theorem Ypl (s0:D35) (b1:D35) (b2:D35):Zt7 s0 b1 b2=
 Zw7 s0 b1 b2:=by unfold Zt7; rewrite [Y8]; kernel_rfl
theorem Ytl (s0:D35) (b1:D35) (b2:D35):Zu7 s0 b1 b2=
 Zt7 s0 b1 b2:=by unfold Zu7; rewrite [Y8]; kernel_rfl
theorem Yxl (s0:D35) (b1:D35) (b2:D35):Zv7 s0 b1 b2=
 Zu7 s0 b1 b2:=by unfold Zv7; rewrite [Y8]; kernel_rfl
theorem YCl (s0:D35) (b1:D35) (b2:D35):Zw7 s0 b1 b2=
 bif (!(Ty.beq T35 b2 b1)) then
 some (51:Int)
 else
 some (0:Int):=by unfold Zw7; rewrite [Y8]; kernel_rfl
theorem YDo (x:List UInt8):YV9 x=
 Zx7 x:=by kernel_rfl
theorem YHl (s0:List UInt8):Zx7 s0=
 bif (s0==([]:List UInt8)) then
 some ([]:List (List UInt8))
 else
 (Ya4 (s0,(46:Int))).bind fun y0=>
 bif (Ya (wrap i64 ((((length y0):Nat):Int) - 1)) (length y0)) then
 bif ((getD y0 (Int.toNat (wrap i64 ((((length y0):Nat):Int) - 1))) (Ty.zero .str))==([]:List UInt8)) then
 bif (Yi none (some (wrap i64 ((((length y0):Nat):Int) - 1))) (length y0)) then
 some (List.take (Option.getD (Option.map (Int.toNat) (some (wrap i64 ((((length y0):Nat):Int) - 1)))) (length y0)) y0)
 else
 none
 else
 some y0
 else
 none:=by unfold Zx7; rewrite [Y8]; kernel_rfl
end
end Go.Abs
namespace Go.Abs
noncomputable section
open IntKind List
def Yte (x:(List D40)):Option Bool:=Abs.Call E 4 x
def Zy7 (s0:(List D40)):Option Bool:=(Abs.Run E 4 (E.at 4 []) ⟨Y7 [(0,(.val (.sl false T40) s0))],Ye [],Yf []⟩)
def Zz7 (s0:(List D40)) (s1:Int) (b2:Int) (r3:List D87):Option Bool:=(Abs.Run E 4 (E.at 4 [1,1,1,1,0,1,0,7]) ⟨Y7 [(0,(.val (.sl false T40) s0)),(3,(.addr (.box 0) [])),(5,(.val (.int .i64) s1))],Yc [.cells (.st (.pair (.int .i64) (.sl true T87))) .live (.st (.pair (.val (.int .i64) b2) (.row 0)))],Yd [.mk T87 .live r3]⟩)
def Z08 (s0:(List D40)) (s1:Int) (r2:List D37):Option Bool:=(Abs.Run E 4 (E.at 4 [1,1,1,1,1,1,0,1,0,7]) ⟨Y7 [(0,(.val (.sl false T40) s0)),(6,(.row 0)),(7,(.val (.int .i64) s1))],Yc [],Yd [.mk T37 .live r2]⟩)
def Y3a (x:D37):Option Bool:=Abs.Call E 23 x
def Z18 (s0:D37):Option Bool:=(Abs.Run E 23 (E.at 23 []) ⟨Y7 [(0,(.val T37 s0))],Ye [],Yf []⟩)
def Z28 (s0:D37) (b1:D37):Option Bool:=(Abs.Run E 23 (E.at 23 [1,1,0,1,0,1,9]) ⟨Y7 [(0,(.val T37 s0)),(1,(.addr (.box 0) []))],Yc [.cells T37 .live (.val T37 b1)],Yd []⟩)
def Z38 (s0:D37) (b1:D37):Option Bool:=(Abs.Run E 23 (E.at 23 [1,1,0,1,0,1,0,1,9]) ⟨Y7 [(0,(.val T37 s0)),(1,(.addr (.box 0) []))],Yc [.cells T37 .live (.val T37 b1)],Yd []⟩)
def Z48 (s0:D37) (b1:D37):Option Bool:=(Abs.Run E 23 (E.at 23 [1,1,0,1,0,1,1,1,0,1,9]) ⟨Y7 [(0,(.val T37 s0)),(1,(.addr (.box 0) []))],Yc [.cells T37 .live (.val T37 b1)],Yd []⟩)
def Y2a (x:D37):Option Int:=Abs.Call E 72 x
def Z58 (s0:D37):Option Int:=(Abs.Run E 72 (E.at 72 []) ⟨Y7 [(0,(.val T37 s0))],Ye [],Yf []⟩)
def Y4a (x:List UInt8):Option Bool:=Abs.Call E 73 x
def Z68 (s0:List UInt8):Option Bool:=(Abs.Run E 73 (E.at 73 []) ⟨Y7 [(0,(.val .str s0))],Ye [],Yf []⟩)
def YO5 (x:List UInt8):Option (Int×Bool):=Abs.Call E 153 x
def Z78 (s0:List UInt8):Option (Int×Bool):=(Abs.Run E 153 (E.at 153 []) ⟨Y7 [(0,(.val .str s0))],Ye [],Yf []⟩)
def Z88 (s0:List UInt8) (s1:List UInt8) (s2:Bool):Option (Int×Bool):=(Abs.Run E 153 (E.at 153 [1,0,1,0,0,1,9]) ⟨Y7 [(0,(.val .str s0)),(4,(.val .str s1)),(5,(.val .bool s2))],Yc [],Yd []⟩)
def Z98 (s0:List UInt8) (s1:List UInt8) (s2:Bool):Option (Int×Bool):=(Abs.Run E 153 (E.at 153 [1,0,1,0,1,1,0,1,9]) ⟨Y7 [(0,(.val .str s0)),(4,(.val .str s1)),(8,(.val .bool s2))],Yc [],Yd []⟩)
def Za8 (s0:List UInt8) (s1:List UInt8) (s2:Bool):Option (Int×Bool):=(Abs.Run E 153 (E.at 153 [1,0,1,0,1,1,1,9]) ⟨Y7 [(0,(.val .str s0)),(4,(.val .str s1)),(8,(.val .bool s2))],Yc [],Yd []⟩)
def Zb8 (s0:List UInt8) (s1:List UInt8):Option (Int×Bool):=(Abs.Run E 153 (E.at 153 [1,0,1,0,1,9]) ⟨Y7 [(0,(.val .str s0)),(4,(.val .str s1)),(5,.undef)],Yc [],Yd []⟩)
theorem Y3n (x:(List D40)):Yte x=
 Zy7 x:=by kernel_rfl
theorem YOl (s0:(List D40)):Zy7 s0=
 (Yx9 ()).bind fun y0=>
 bif (!y0) then
 some false
 else
 (Yn9 (8:Int)).bind fun y1=>
 Option.elim y1.1 ((YX6 y1.2).bind fun y2=>
 bif (y2 !=0) then
 some false
 else
 some false) fun v2=>
 (YX6 y1.2).bind fun y3=>
 bif (y3 !=0) then
 some false
 else
 Zz7 s0 (0:Int) v2.1 v2.2:=by unfold Zy7; rewrite [Y8]; kernel_rfl
theorem YOd (s0:(List D40)) (s1:Int) (b2:Int) (r3:List D87):Zz7 s0 s1 b2 r3=
 bif (decide (s1 < (((length s0):Nat):Int))) then
 bif (Ya s1 (length s0)) then
 bif (Ya s1 (length s0)) then
 (Yk9 ((b2,r3),((getD s0 (Int.toNat s1) (Ty.zero T40)).2.1,(getD s0 (Int.toNat s1) (Ty.zero T40)).2.2))).bind fun y0=>
 Zz7 s0 (wrap i64 (s1+1)) y0.2.1 y0.2.2
 else
 none
 else
 none
 else
 (Yj9 (b2,r3)).bind fun y0=>
 Z08 s0 (0:Int) y0.1:=by unfold Zz7; rewrite [Y8]; kernel_rfl
theorem Yoc (s0:(List D40)) (s1:Int) (r2:List D37):Z08 s0 s1 r2=
 bif (decide (s1 < (((length r2):Nat):Int))) then
 bif (Ya s1 (length r2)) then
 bif ((getD r2 (Int.toNat s1) (Ty.zero T37)).1 !=0) then
 some false
 else
 bif (Ya s1 (length r2)) then
 (Y3a (getD r2 (Int.toNat s1) (Ty.zero T37))).bind fun y0=>
 bif (!y0) then
 some false
 else
 Z08 s0 (wrap i64 (s1+1)) r2
 else
 none
 else
 none
 else
 some true:=by unfold Z08; rewrite [Y8]; kernel_rfl
theorem YWo (x:D37):Y3a x=
 Z18 x:=by kernel_rfl
theorem Y1j (s0:D37):Z18 s0=
 (Y2a s0).bind fun y0=>
 bif (y0 !=0) then
 some false
 else
 bif (decide (s0.1 > 0)) then
 some false
 else
 bif (s0.2.2.1.1==2) then
 bif ((shr u32 s0.2.2.1.2.2.1 (24:Int))==127) then
 some true
 else
 Z28 s0 s0
 else
 bif (s0.2.2.1.1==3) then
 bif (Ty.beq (.arr 8 (.int .u16)) s0.2.2.1.2.2.2 (List.set (Ty.zero (.arr 8 (.int .u16))) 7 (1:Int))) then
 some true
 else
 Z38 s0 s0
 else
 bif (s0.2.2.1.1==1) then
 (Y4a s0.2.2.1.2.1).bind fun y1=>
 bif y1 then
 some true
 else
 Z48 s0 s0
 else
 Z48 s0 s0:=by unfold Z18; rewrite [Y8]; kernel_rfl
theorem Y8j (s0:D37) (b1:D37):Z28 s0 b1=
 bif (b1.2.1==([104,116,116,112,115]:List UInt8)) then
 some true
 else
 some (b1.2.1==([119,115,115]:List UInt8)):=by unfold Z28; rewrite [Y8]; kernel_rfl
theorem Ybj (s0:D37) (b1:D37):Z38 s0 b1=
 Z28 s0 b1:=by unfold Z38; rewrite [Y8]; kernel_rfl
theorem Yij (s0:D37) (b1:D37):Z48 s0 b1=
 Z38 s0 b1:=by unfold Z48; rewrite [Y8]; kernel_rfl
theorem YUo (x:D37):Y2a x=
 Z58 x:=by kernel_rfl
theorem Ylj (s0:D37):Z58 s0=
 bif (decide (s0.1 > 0)) then
 bif (Ty.beq T37 s0 (s0.1,((Ty.zero .str),(((Ty.zero (.int .i64)),((Ty.zero .str),((Ty.zero (.int .u32)),(Ty.zero (.arr 8 (.int .u16)))))),(Ty.zero (.int .i64)))))) then
 some (0:Int)
 else
 (YO5 s0.2.1).bind fun y0=>
 bif (s0.1 !=0) then
 some (71:Int)
 else
 bif (!y0.2) then
 some (71:Int)
 else
 bif (decide (s0.2.2.1.1 < 1)) then
 some (71:Int)
 else
 bif (decide (s0.2.2.1.1 > 3)) then
 some (71:Int)
 else
 (YK5 s0.2.2.1).bind fun y1=>
 bif (y1 !=0) then
 some (71:Int)
 else
 bif (decide (s0.2.2.2 < 0)) then
 some (71:Int)
 else
 bif (decide (s0.2.2.2 > 65535)) then
 some (71:Int)
 else
 some (0:Int)
 else
 (YO5 s0.2.1).bind fun y0=>
 bif (s0.1 !=0) then
 some (71:Int)
 else
 bif (!y0.2) then
 some (71:Int)
 else
 bif (decide (s0.2.2.1.1 < 1)) then
 some (71:Int)
 else
 bif (decide (s0.2.2.1.1 > 3)) then
 some (71:Int)
 else
 (YK5 s0.2.2.1).bind fun y1=>
 bif (y1 !=0) then
 some (71:Int)
 else
 bif (decide (s0.2.2.2 < 0)) then
 some (71:Int)
 else
 bif (decide (s0.2.2.2 > 65535)) then
 some (71:Int)
 else
 some (0:Int):=by unfold Z58; rewrite [Y8]; kernel_rfl
theorem YXo (x:List UInt8):Y4a x=
 Z68 x:=by kernel_rfl
theorem Ysj (s0:List UInt8):Z68 s0=
 (YV9 s0).bind fun y0=>
 bif (decide ((((length y0):Nat):Int) > 0)) then
 bif (Ya (wrap i64 ((((length y0):Nat):Int) - 1)) (length y0)) then
 some ((getD y0 (Int.toNat (wrap i64 ((((length y0):Nat):Int) - 1))) (Ty.zero .str))==([108,111,99,97,108,104,111,115,116]:List UInt8))
 else
 none
 else
 some false:=by unfold Z68; rewrite [Y8]; kernel_rfl
theorem YVo (x:List UInt8):YO5 x=
 Z78 x:=by kernel_rfl
theorem Yzj (s0:List UInt8):Z78 s0=
 bif (s0==([104,116,116,112]:List UInt8)) then
 Z88 s0 s0 (s0==([104,116,116,112]:List UInt8))
 else
 Z88 s0 s0 (s0==([119,115]:List UInt8)):=by unfold Z78; rewrite [Y8]; kernel_rfl
theorem YGj (s0:List UInt8) (s1:List UInt8) (s2:Bool):Z88 s0 s1 s2=
 bif s2 then
 some ((80:Int),true)
 else
 bif (s1==([104,116,116,112,115]:List UInt8)) then
 Z98 s0 s1 (s1==([104,116,116,112,115]:List UInt8))
 else
 Z98 s0 s1 (s1==([119,115,115]:List UInt8)):=by unfold Z88; rewrite [Y8]; kernel_rfl
theorem YLj (s0:List UInt8) (s1:List UInt8) (s2:Bool):Z98 s0 s1 s2=
 bif s2 then
 some ((443:Int),true)
 else
 bif (s1==([102,116,112]:List UInt8)) then
 some ((21:Int),true)
 else
 Za8 s0 s1 s2:=by unfold Z98; rewrite [Y8]; kernel_rfl
theorem YSj (s0:List UInt8) (s1:List UInt8) (s2:Bool):Za8 s0 s1 s2=
 Zb8 s0 s1:=by unfold Za8; rewrite [Y8]; kernel_rfl
theorem YYj (s0:List UInt8) (s1:List UInt8):Zb8 s0 s1=
 some ((0:Int),false):=by unfold Zb8; rewrite [Y8]; kernel_rfl
end
end Go.Abs
