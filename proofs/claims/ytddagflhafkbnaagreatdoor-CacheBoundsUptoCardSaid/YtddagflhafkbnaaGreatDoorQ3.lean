/- Part Q3 of the proof: see the last text of the claim. No condition of its own. -/
import Derived.Test.YtddagflhafkbnaaGreatDoorQ1
set_option linter.all false
set_option autoImplicit false
namespace Go.Abs
noncomputable section
open IntKind List
def YA7 (x:(List UInt8×Bool)):Option (D35×Int):=Abs.Call E 48 x
def Zz (s0:List UInt8) (s1:Bool):Option (D35×Int):=(Abs.Run E 48 (E.at 48 []) ⟨Y7 [(1,(.val .bool s1)),(0,(.val .str s0))],Yc [],Yd []⟩)
def Z01 (s0:List UInt8) (s1:Bool) (s2:List UInt8) (s3:Int) (s4:Int) (b5:D35):Option (D35×Int):=(Abs.Run E 48 (E.at 48 [1,1,1,1,1,0,1,0,7]) ⟨Y7 [(0,(.val .str s0)),(1,(.val .bool s1)),(4,(.addr (.box 0) [])),(10,(.val .str s2)),(95,(.val (.int .i64) s3)),(96,(.val (.int .i64) s4))],Yf [.cells T35 .live (.val T35 b5)],Yg []⟩)
def Ye3 (x:List UInt8):Option (List UInt8×Int):=Abs.Call E 56 x
def Z11 (s0:List UInt8):Option (List UInt8×Int):=(Abs.Run E 56 (E.at 56 []) ⟨Y7 [(0,(.val .str s0))],Yc [],Yd []⟩)
def Z21 (s0:List UInt8) (s1:Int) (t2:List UInt8) (n3:Nat) (r4:List (List UInt8)):Option (List UInt8×Int):=(Abs.Run E 56 (E.at 56 [1,1,1,1,1,1,0,1,0,7]) ⟨Y7 [(0,(.val .str s0)),(6,(.row 0)),(7,(.val (.int .i64) s1)),(27,(.addr (.box 0) []))],Yf [.iter t2 n3],Yg [.mk .str .live r4]⟩)
def Z31 (s0:List UInt8) (s1:Int) (s2:Int) (r3:List (List UInt8)):Option (List UInt8×Int):=(Abs.Run E 56 (E.at 56 [1,1,1,1,1,1,1,1,0,1,0,7]) ⟨Y7 [(0,(.val .str s0)),(6,(.row 0)),(53,(.val (.int .i64) s1)),(54,(.val (.int .i64) s2))],Yf [],Yg [.mk .str .live r3]⟩)
def Yz7 (x:List UInt8):Option (List (List UInt8)):=Abs.Call E 63 x
def Z41 (s0:List UInt8):Option (List (List UInt8)):=(Abs.Run E 63 (E.at 63 []) ⟨Y7 [(0,(.val .str s0))],Yc [],Yd []⟩)
def Yj3 (x:(List UInt8×List UInt8)):Option Bool:=Abs.Call E 123 x
def Z51 (s0:List UInt8) (s1:List UInt8):Option Bool:=(Abs.Run E 123 (E.at 123 []) ⟨Y7 [(1,(.val .str s1)),(0,(.val .str s0))],Yc [],Yd []⟩)
def Yh3 (x:(Int×List UInt8)):Option (List UInt8×Int):=Abs.Call E 124 x
def Z61 (s0:Int) (s1:List UInt8):Option (List UInt8×Int):=(Abs.Run E 124 (E.at 124 []) ⟨Y7 [(1,(.val .str s1)),(0,(.val (.int .i64) s0))],Yc [],Yd []⟩)
def Yg3 (x:List UInt8):Option (List UInt8):=Abs.Call E 125 x
def Z71 (s0:List UInt8):Option (List UInt8):=(Abs.Run E 125 (E.at 125 []) ⟨Y7 [(0,(.val .str s0))],Yc [],Yd []⟩)
def YP5 (x:List UInt8):Option (Bool×Int):=Abs.Call E 134 x
def Z81 (s0:List UInt8):Option (Bool×Int):=(Abs.Run E 134 (E.at 134 []) ⟨Y7 [(0,(.val .str s0))],Yc [],Yd []⟩)
def Z91 (s0:List UInt8) (t1:List UInt8) (n2:Nat):Option (Bool×Int):=(Abs.Run E 134 (E.at 134 [1,0,1,0,7]) ⟨Y7 [(0,(.val .str s0)),(6,(.addr (.box 0) []))],Yf [.iter t1 n2],Yg []⟩)
def YA5 (x:Int):Option Bool:=Abs.Call E 135 x
def Za1 (s0:Int):Option Bool:=(Abs.Run E 135 (E.at 135 []) ⟨Y7 [(0,(.val (.int .i32) s0))],Yc [],Yd []⟩)
def YA4 (x:(List UInt8×Bool)):Option (List UInt8×Int):=Abs.Call E 136 x
def Zb1 (s0:List UInt8) (s1:Bool):Option (List UInt8×Int):=(Abs.Run E 136 (E.at 136 []) ⟨Y7 [(1,(.val .bool s1)),(0,(.val .str s0))],Yc [],Yd []⟩)
def Zc1 (s0:List UInt8) (s1:Bool) (s2:Bool):Option (List UInt8×Int):=(Abs.Run E 136 (E.at 136 [1,1,1,0,1,9]) ⟨Y7 [(0,(.val .str s0)),(1,(.val .bool s1)),(6,(.val .bool s2))],Yf [],Yg []⟩)
def Ytb (x:((List (List UInt8))×List UInt8)):Option (List UInt8):=Abs.Call E 137 x
def YV7 (x:(List UInt8×List UInt8)):Option (List UInt8):=Abs.Call E 138 x
def Zd1 (s0:List UInt8) (s1:List UInt8):Option (List UInt8):=(Abs.Run E 138 (E.at 138 []) ⟨Y7 [(1,(.val .str s1)),(0,(.val .str s0))],Yc [],Yd []⟩)
def YD4 (x:List UInt8):Option (List UInt8×Int):=Abs.Call E 143 x
def Ze1 (s0:List UInt8):Option (List UInt8×Int):=(Abs.Run E 143 (E.at 143 []) ⟨Y7 [(0,(.val .str s0))],Yc [],Yd []⟩)
def YT7 (x:(List UInt8×List UInt8)):Option Int:=Abs.Call E 177 x
def Zf1 (s0:List UInt8) (s1:List UInt8):Option Int:=(Abs.Run E 177 (E.at 177 []) ⟨Y7 [(1,(.val .str s1)),(0,(.val .str s0))],Yc [],Yd []⟩)
def Zg1 (s0:List UInt8) (s1:List UInt8) (s2:Int):Option Int:=(Abs.Run E 177 (E.at 177 [1,1,0,1,0,1,0,1,9]) ⟨Y7 [(0,(.val .str s0)),(1,(.val .str s1)),(5,(.val (.int .i32) s2))],Yf [],Yg []⟩)
def Zh1 (s0:List UInt8) (s1:List UInt8) (s2:Int) (b3:(List Bool)):Option Int:=(Abs.Run E 177 (E.at 177 [1,1,1,0,1,0,1,1,0,0,1,0,7]) ⟨Y7 [(0,(.val .str s0)),(1,(.val .str s1)),(6,(.addr (.box 0) [])),(8,(.val (.int .i64) s2))],Yf [.cells (.arr 256 .bool) .live (.val (.arr 256 .bool) b3)],Yg []⟩)
def Zi1 (s0:List UInt8) (s1:List UInt8):Option Int:=(Abs.Run E 177 (E.at 177 [1,1,1,0,1,9]) ⟨Y7 [(0,(.val .str s0)),(1,(.val .str s1))],Yf [],Yg []⟩)
def Zj1 (s0:List UInt8) (s1:List UInt8) (t2:List UInt8) (n3:Nat):Option Int:=(Abs.Run E 177 (E.at 177 [1,1,1,1,0,1,0,7]) ⟨Y7 [(0,(.val .str s0)),(1,(.val .str s1)),(45,(.addr (.box 0) []))],Yf [.iter t2 n3],Yg []⟩)
def Ycb (x:(Int×(List Int))):Option (List UInt8×Int):=Abs.Call E 178 x
def Zk1 (s0:Int) (s1:(List Int)):Option (List UInt8×Int):=(Abs.Run E 178 (E.at 178 []) ⟨Y7 [(1,(.val (.sl false (.int .u8)) s1)),(0,(.val (.int .i64) s0))],Yc [],Yd []⟩)
def Zl1 (s0:Int) (s1:(List Int)) (s2:(List Int)) (s3:Int) (s4:Int) (b5:(List Bool)) (r6:List Int):Option (List UInt8×Int):=(Abs.Run E 178 (E.at 178 [1,1,1,1,0,1,0,7]) ⟨Y7 [(0,(.val (.int .i64) s0)),(1,(.val (.sl false (.int .u8)) s1)),(6,(.addr (.box 0) [])),(7,(.row 0)),(16,(.val (.sl false (.int .u8)) s2)),(17,(.val (.int .i64) s3)),(18,(.val (.int .i64) s4))],Yf [.cells (.arr 256 .bool) .live (.val (.arr 256 .bool) b5)],Yg [.mk (.int .u8) .live r6]⟩)
def YQ5 (x:List UInt8):Option (List UInt8):=Abs.Call E 179 x
def Zm1 (s0:List UInt8):Option (List UInt8):=(Abs.Run E 179 (E.at 179 []) ⟨Y7 [(0,(.val .str s0))],Yc [],Yd []⟩)
def Ybb (x:List UInt8):Option (List Int):=Abs.Call E 180 x
def Zn1 (s0:List UInt8):Option (List Int):=(Abs.Run E 180 (E.at 180 []) ⟨Y7 [(0,(.val .str s0))],Yc [],Yd []⟩)
def Zo1 (s0:List UInt8) (s1:Int) (r2:List Int):Option (List Int):=(Abs.Run E 180 (E.at 180 [1,1,0,1,0,7]) ⟨Y7 [(0,(.val .str s0)),(3,(.row 0)),(4,(.val (.int .i64) s1))],Yf [],Yg [.mk (.int .u8) .live r2]⟩)
def YR5 (x:(List UInt8×Int)):Option D181:=Abs.Call E 190 x
def Zp1 (s0:List UInt8) (s1:Int):Option D181:=(Abs.Run E 190 (E.at 190 []) ⟨Y7 [(1,(.val (.int .i64) s1)),(0,(.val .str s0))],Yc [],Yd []⟩)
def YU3 (x:(List UInt8×Int)):Option Bool:=Abs.Call E 191 x
def Zq1 (s0:List UInt8) (s1:Int):Option Bool:=(Abs.Run E 191 (E.at 191 []) ⟨Y7 [(1,(.val (.int .i32) s1)),(0,(.val .str s0))],Yc [],Yd []⟩)
def Zr1 (s0:List UInt8) (s1:Int) (t2:List UInt8) (n3:Nat):Option Bool:=(Abs.Run E 191 (E.at 191 [1,0,1,0,7]) ⟨Y7 [(0,(.val .str s0)),(1,(.val (.int .i32) s1)),(8,(.addr (.box 0) []))],Yf [.iter t2 n3],Yg []⟩)
def YB7 (x:List UInt8):Option Bool:=Abs.Call E 192 x
def Zs1 (s0:List UInt8):Option Bool:=(Abs.Run E 192 (E.at 192 []) ⟨Y7 [(0,(.val .str s0))],Yc [],Yd []⟩)
def YG5 (x:List UInt8):Option (List UInt8×Int):=Abs.Call E 193 x
def Zt1 (s0:List UInt8):Option (List UInt8×Int):=(Abs.Run E 193 (E.at 193 []) ⟨Y7 [(0,(.val .str s0))],Yc [],Yd []⟩)
def Yqb (x:(List UInt8×Unit)):Option Int:=Abs.Call E 194 x
def Zu1 (s0:List UInt8) (s1:Unit):Option Int:=(Abs.Run E 194 (E.at 194 []) ⟨Y7 [(1,(.cl 239 0 (.val .unit s1))),(0,(.val .str s0))],Yc [],Yd []⟩)
def Yrb (x:(List UInt8×Unit)):Option Int:=Abs.Call E 1194 x
def Zv1 (s0:List UInt8) (s1:Unit):Option Int:=(Abs.Run E 1194 (E.at 1194 []) ⟨Y7 [(1,(.cl 248 0 (.val .unit s1))),(0,(.val .str s0))],Yc [],Yd []⟩)
def YG4 (x:(List UInt8×Unit)):Option Int:=Abs.Call E 2194 x
def Zw1 (s0:List UInt8) (s1:Unit):Option Int:=(Abs.Run E 2194 (E.at 2194 []) ⟨Y7 [(1,(.cl 135 0 (.val .unit s1))),(0,(.val .str s0))],Yc [],Yd []⟩)
def Y8b (x:(List UInt8×List UInt8)):Option (List UInt8):=Abs.Call E 198 x
def Zx1 (s0:List UInt8) (s1:List UInt8):Option (List UInt8):=(Abs.Run E 198 (E.at 198 []) ⟨Y7 [(1,(.val .str s1)),(0,(.val .str s0))],Yc [],Yd []⟩)
def YL7 (x:List UInt8):Option (List UInt8×(Int×Int)):=Abs.Call E 204 x
def Zy1 (s0:List UInt8):Option (List UInt8×(Int×Int)):=(Abs.Run E 204 (E.at 204 []) ⟨Y7 [(0,(.val .str s0))],Yc [],Yd []⟩)
def YH5 (x:List UInt8):Option Bool:=Abs.Call E 205 x
def Zz1 (s0:List UInt8):Option Bool:=(Abs.Run E 205 (E.at 205 []) ⟨Y7 [(0,(.val .str s0))],Yc [],Yd []⟩)
def YG7 (x:(List UInt8×List UInt8)):Option Bool:=Abs.Call E 206 x
def Z02 (s0:List UInt8) (s1:List UInt8):Option Bool:=(Abs.Run E 206 (E.at 206 []) ⟨Y7 [(1,(.val .str s1)),(0,(.val .str s0))],Yc [],Yd []⟩)
def YM5 (x:(List UInt8×Int)):Option Int:=Abs.Call E 216 x
def Z12 (s0:List UInt8) (s1:Int):Option Int:=(Abs.Run E 216 (E.at 216 []) ⟨Y7 [(1,(.val (.int .i32) s1)),(0,(.val .str s0))],Yc [],Yd []⟩)
def Z22 (s0:List UInt8) (s1:Int) (t2:List UInt8) (n3:Nat):Option Int:=(Abs.Run E 216 (E.at 216 [1,0,1,1,1,0,0,1,0,7]) ⟨Y7 [(0,(.val .str s0)),(1,(.val (.int .i32) s1)),(175,(.addr (.box 0) []))],Yf [.iter t2 n3],Yg []⟩)
def Z32 (s0:List UInt8) (s1:Int) (s2:List UInt8) (s3:Int) (s4:Int):Option Int:=(Abs.Run E 216 (E.at 216 [1,0,1,1,1,1,1,1,0,1,1,1,1,0,0,7]) ⟨Y7 [(0,(.val .str s0)),(1,(.val (.int .i32) s1)),(7,(.val .str s2)),(8,(.val (.int .i64) s3)),(9,(.val (.int .i64) s4))],Yf [],Yg []⟩)
def Z42 (s0:List UInt8) (s1:Int) (s2:List UInt8) (s3:Int) (s4:Int):Option Int:=(Abs.Run E 216 (E.at 216 [1,0,1,1,1,1,1,1,0,1,1,1,1,0,0,0,1,0,0,0,1,9]) ⟨Y7 [(0,(.val .str s0)),(1,(.val (.int .i32) s1)),(7,(.val .str s2)),(8,(.val (.int .i64) s3)),(9,(.val (.int .i64) s4))],Yf [],Yg []⟩)
def Yzb (x:Int):Option Bool:=Abs.Call E 217 x
def Z52 (s0:Int):Option Bool:=(Abs.Run E 217 (E.at 217 []) ⟨Y7 [(0,(.val (.int .i64) s0))],Yc [],Yd []⟩)
def Yyb (x:List UInt8):Option ((List Bool)×Bool):=Abs.Call E 218 x
def Yub (x:((List Bool)×Int)):Option (Bool×(List Bool)):=Abs.Call E 219 x
def Z62 (s0:Int) (b1:(List Bool)):Option (Bool×(List Bool)):=(Abs.Run E 219 (E.at 219 []) ⟨Y7 [(1,(.val (.int .u8) s0)),(0,(.addr (.box 1073741824) []))],Yc [(1073741824,.cells (.arr 256 .bool) .live (.val (.arr 256 .bool) b1))],Yd []⟩)
def Yeb (x:Int):Option Bool:=Abs.Call E 220 x
def Z72 (s0:Int):Option Bool:=(Abs.Run E 220 (E.at 220 []) ⟨Y7 [(0,(.val (.int .i64) s0))],Yc [],Yd []⟩)
def Ydb (x:Unit):Option (List (List Bool)):=Abs.Call E 221 x
def YI7 (x:((List Int)×Int)):Option (List Int):=Abs.Call E 222 x
def Z82 (s0:Int) (r1:List Int):Option (List Int):=(Abs.Run E 222 (E.at 222 []) ⟨Y7 [(1,(.val (.int .u8) s0)),(0,(.row 1073741824))],Yc [],Yd [(1073741824,.mk (.int .u8) .live r1)]⟩)
def YY7 (x:(List D181)):Option (List UInt8):=Abs.Call E 223 x
def Z92 (s0:(List D181)):Option (List UInt8):=(Abs.Run E 223 (E.at 223 []) ⟨Y7 [(0,(.val (.sl false T181) s0))],Yc [],Yd []⟩)
def Za2 (s0:(List D181)) (s1:(List D181)) (s2:Int) (s3:Int):Option (List UInt8):=(Abs.Run E 223 (E.at 223 [1,1,0,1,0,7]) ⟨Y7 [(0,(.val (.sl false T181) s0)),(3,.nils),(6,(.val (.sl false T181) s1)),(7,(.val (.int .i64) s2)),(8,(.val (.int .i64) s3))],Yf [],Yg []⟩)
def Zb2 (s0:(List D181)) (s1:(List D181)) (s2:Int) (s3:Int) (r4:List Int):Option (List UInt8):=(Abs.Run E 223 (E.at 223 [1,1,0,1,0,7]) ⟨Y7 [(0,(.val (.sl false T181) s0)),(3,(.row 0)),(6,(.val (.sl false T181) s1)),(7,(.val (.int .i64) s2)),(8,(.val (.int .i64) s3))],Yf [],Yg [.mk (.int .u8) .live r4]⟩)
def YW7 (x:List UInt8):Option (List D181):=Abs.Call E 224 x
def Zc2 (s0:List UInt8):Option (List D181):=(Abs.Run E 224 (E.at 224 []) ⟨Y7 [(0,(.val .str s0))],Yc [],Yd []⟩)
def Zd2 (s0:List UInt8) (s1:Int) (r2:List D181):Option (List D181):=(Abs.Run E 224 (E.at 224 [1,1,0,1,0,7]) ⟨Y7 [(0,(.val .str s0)),(3,(.row 0)),(4,(.val (.int .i64) s1))],Yf [],Yg [.mk T181 .live r2]⟩)
def Ze2 (s0:List UInt8) (s1:Int) (b2:D181) (r3:List D181):Option (List D181):=(Abs.Run E 224 (E.at 224 [1,1,0,1,0,0,1,0,1,0,1,9]) ⟨Y7 [(0,(.val .str s0)),(3,(.row 0)),(4,(.val (.int .i64) s1)),(5,(.addr (.box 0) []))],Yf [.cells T181 .live (.val T181 b2)],Yg [.mk T181 .live r3]⟩)
def YJ7 (x:(List UInt8×Int)):Option Int:=Abs.Call E 225 x
def Zf2 (s0:List UInt8) (s1:Int):Option Int:=(Abs.Run E 225 (E.at 225 []) ⟨Y7 [(1,(.val (.int .i64) s1)),(0,(.val .str s0))],Yc [],Yd []⟩)
def YBb (x:List UInt8):Option (Int×Int):=Abs.Call E 238 x
def YXa (x:Int):Option Bool:=Abs.Call E 239 x
def Zg2 (s0:Int):Option Bool:=(Abs.Run E 239 (E.at 239 []) ⟨Y7 [(0,(.val (.int .i32) s0))],Yc [],Yd []⟩)
def YM7 (x:List UInt8):Option (List UInt8×Int):=Abs.Call E 240 x
def Zh2 (s0:List UInt8):Option (List UInt8×Int):=(Abs.Run E 240 (E.at 240 []) ⟨Y7 [(0,(.val .str s0))],Yc [],Yd []⟩)
def Zi2 (s0:List UInt8) (s1:Int) (s2:Int) (r3:List Int) (r4:List Int):Option (List UInt8×Int):=(Abs.Run E 240 (E.at 240 [1,1,1,1,1,0,1,0,7]) ⟨Y7 [(0,(.val .str s0)),(6,(.row 0)),(7,(.row 1)),(35,(.row 0)),(36,(.val (.int .i64) s1)),(37,(.val (.int .i64) s2))],Yf [],Yg [.mk (.int .i32) .live r3,.mk (.int .u8) .live r4]⟩)
def Zj2 (s0:List UInt8) (s1:Int) (s2:Int) (r3:List Int) (r4:List Int):Option (List UInt8×Int):=(Abs.Run E 240 (E.at 240 [1,1,1,1,1,1,1,1,0,1,9]) ⟨Y7 [(0,(.val .str s0)),(6,(.row 0)),(7,(.row 1)),(10,(.val (.int .i64) s1)),(11,(.val (.int .i64) s2))],Yf [],Yg [.mk (.int .i32) .live r3,.mk (.int .u8) .live r4]⟩)
def Zk2 (s0:List UInt8) (s1:Int) (s2:Int) (s3:Int) (s4:Int) (s5:Int) (r6:List Int) (r7:List Int):Option (List UInt8×Int):=(Abs.Run E 240 (E.at 240 [1,1,1,1,1,1,1,1,1,1,0,0,7]) ⟨Y7 [(0,(.val .str s0)),(6,(.row 0)),(7,(.row 1)),(10,(.val (.int .i64) s1)),(11,(.val (.int .i64) s2)),(12,(.val (.int .i32) s3)),(13,(.val (.int .i64) s4)),(14,(.val (.int .i64) s5))],Yf [],Yg [.mk (.int .i32) .live r6,.mk (.int .u8) .live r7]⟩)
def Zl2 (s0:List UInt8) (s1:Int) (s2:Int) (s3:Int) (s4:Int) (s5:Int) (s6:Int) (s7:Int) (s8:Int) (r9:List Int) (r10:List Int):Option (List UInt8×Int):=(Abs.Run E 240 (E.at 240 [1,1,1,1,1,1,1,1,1,1,0,0,0,1,0,1,0,1,0,7]) ⟨Y7 [(0,(.val .str s0)),(6,(.row 0)),(7,(.row 1)),(10,(.val (.int .i64) s1)),(11,(.val (.int .i64) s2)),(12,(.val (.int .i32) s3)),(13,(.val (.int .i64) s4)),(14,(.val (.int .i64) s5)),(15,(.val (.int .i32) s6)),(61,(.row 0)),(62,(.val (.int .i64) s7)),(63,(.val (.int .i64) s8))],Yf [],Yg [.mk (.int .i32) .live r9,.mk (.int .u8) .live r10]⟩)
def Zm2 (s0:List UInt8) (s1:Int) (s2:Int) (s3:Int) (s4:Int) (s5:Int) (s6:Int) (s7:Int) (r8:List Int) (r9:List Int):Option (List UInt8×Int):=(Abs.Run E 240 (E.at 240 [1,1,1,1,1,1,1,1,1,1,0,0,0,1,0,1,1,1,1,0,1,0,7]) ⟨Y7 [(0,(.val .str s0)),(6,(.row 0)),(7,(.row 1)),(10,(.val (.int .i64) s1)),(11,(.val (.int .i64) s2)),(12,(.val (.int .i32) s3)),(13,(.val (.int .i64) s4)),(14,(.val (.int .i64) s5)),(87,(.row 0)),(88,(.val (.int .i64) s6)),(89,(.val (.int .i64) s7))],Yf [],Yg [.mk (.int .i32) .live r8,.mk (.int .u8) .live r9]⟩)
def Zn2 (s0:List UInt8) (s1:Int) (s2:Int) (s3:Int) (s4:Int) (s5:Int) (s6:Int) (s7:Int) (s8:Int) (r9:List Int) (r10:List Int):Option (List UInt8×Int):=(Abs.Run E 240 (E.at 240 [1,1,1,1,1,1,1,1,1,1,0,0,0,1,0,1,1,1,1,0,1,0,0,1,1,0,0,1,0,1,9]) ⟨Y7 [(0,(.val .str s0)),(6,(.row 0)),(7,(.row 1)),(10,(.val (.int .i64) s1)),(11,(.val (.int .i64) s2)),(12,(.val (.int .i32) s3)),(13,(.val (.int .i64) s4)),(14,(.val (.int .i64) s5)),(19,(.val (.int .i32) s6)),(87,(.row 0)),(88,(.val (.int .i64) s7)),(89,(.val (.int .i64) s8))],Yf [],Yg [.mk (.int .i32) .live r9,.mk (.int .u8) .live r10]⟩)
def Yvb (x:(List UInt8×(Unit×Bool))):Option Int:=Abs.Call E 241 x
def Zo2 (s0:List UInt8) (s1:Unit) (s2:Bool):Option Int:=(Abs.Run E 241 (E.at 241 []) ⟨Y7 [(2,(.val .bool s2)),(1,(.cl 239 0 (.val .unit s1))),(0,(.val .str s0))],Yc [],Yd []⟩)
def Zp2 (s0:List UInt8) (s1:Unit) (s2:Bool) (t3:List UInt8) (n4:Nat):Option Int:=(Abs.Run E 241 (E.at 241 [1,0,1,0,7]) ⟨Y7 [(0,(.val .str s0)),(1,(.cl 239 0 (.val .unit s1))),(2,(.val .bool s2)),(10,(.addr (.box 0) []))],Yf [.iter t3 n4],Yg []⟩)
def Yxb (x:(List UInt8×(Unit×Bool))):Option Int:=Abs.Call E 1241 x
def Zq2 (s0:List UInt8) (s1:Unit) (s2:Bool):Option Int:=(Abs.Run E 1241 (E.at 1241 []) ⟨Y7 [(2,(.val .bool s2)),(1,(.cl 248 0 (.val .unit s1))),(0,(.val .str s0))],Yc [],Yd []⟩)
def Zr2 (s0:List UInt8) (s1:Unit) (s2:Bool) (t3:List UInt8) (n4:Nat):Option Int:=(Abs.Run E 1241 (E.at 1241 [1,0,1,0,7]) ⟨Y7 [(0,(.val .str s0)),(1,(.cl 248 0 (.val .unit s1))),(2,(.val .bool s2)),(10,(.addr (.box 0) []))],Yf [.iter t3 n4],Yg []⟩)
def Ywb (x:(List UInt8×(Unit×Bool))):Option Int:=Abs.Call E 2241 x
def Zs2 (s0:List UInt8) (s1:Unit) (s2:Bool):Option Int:=(Abs.Run E 2241 (E.at 2241 []) ⟨Y7 [(2,(.val .bool s2)),(1,(.cl 135 0 (.val .unit s1))),(0,(.val .str s0))],Yc [],Yd []⟩)
def Zt2 (s0:List UInt8) (s1:Unit) (s2:Bool) (t3:List UInt8) (n4:Nat):Option Int:=(Abs.Run E 2241 (E.at 2241 [1,0,1,0,7]) ⟨Y7 [(0,(.val .str s0)),(1,(.cl 135 0 (.val .unit s1))),(2,(.val .bool s2)),(10,(.addr (.box 0) []))],Yf [.iter t3 n4],Yg []⟩)
def Y6b (x:(List UInt8×List UInt8)):Option Bool:=Abs.Call E 244 x
def Zu2 (s0:List UInt8) (s1:List UInt8):Option Bool:=(Abs.Run E 244 (E.at 244 []) ⟨Y7 [(1,(.val .str s1)),(0,(.val .str s0))],Yc [],Yd []⟩)
def YI5 (x:List UInt8):Option (List UInt8×(Int×Int)):=Abs.Call E 247 x
def Zv2 (s0:List UInt8):Option (List UInt8×(Int×Int)):=(Abs.Run E 247 (E.at 247 []) ⟨Y7 [(0,(.val .str s0))],Yc [],Yd []⟩)
def Zw2 (s0:List UInt8) (s1:Int) (s2:Int):Option (List UInt8×(Int×Int)):=(Abs.Run E 247 (E.at 247 [1,0,1,0,7]) ⟨Y7 [(0,(.val .str s0)),(19,(.val (.int .i64) s1)),(20,(.val (.int .i64) s2))],Yf [],Yg []⟩)
def Zx2 (s0:List UInt8) (s1:Int) (r2:List Int):Option (List UInt8×(Int×Int)):=(Abs.Run E 247 (E.at 247 [1,1,1,1,0,1,9]) ⟨Y7 [(0,(.val .str s0)),(6,(.row 0)),(7,(.val (.int .i64) s1))],Yf [],Yg [.mk (.int .i32) .live r2]⟩)
def Zy2 (s0:List UInt8) (s1:Int):Option (List UInt8×(Int×Int)):=(Abs.Run E 247 (E.at 247 [1,1,1,1,0,1,9]) ⟨Y7 [(0,(.val .str s0)),(6,.nils),(7,(.val (.int .i64) s1))],Yf [],Yg []⟩)
def Zz2 (s0:List UInt8) (s1:Int) (s2:Int) (s3:Int) (s4:Int) (s5:Int) (r6:List Int):Option (List UInt8×(Int×Int)):=(Abs.Run E 247 (E.at 247 [1,1,1,1,1,1,1,0,0,7]) ⟨Y7 [(0,(.val .str s0)),(6,(.row 0)),(7,(.val (.int .i64) s1)),(8,(.val (.int .i64) s2)),(9,(.val (.int .i64) s3)),(10,(.val (.int .i64) s4)),(11,(.val (.int .i64) s5))],Yf [],Yg [.mk (.int .i32) .live r6]⟩)
def Z03 (s0:List UInt8) (s1:Int) (s2:Int) (s3:Int) (s4:Int) (s5:Int):Option (List UInt8×(Int×Int)):=(Abs.Run E 247 (E.at 247 [1,1,1,1,1,1,1,0,0,7]) ⟨Y7 [(0,(.val .str s0)),(6,.nils),(7,(.val (.int .i64) s1)),(8,(.val (.int .i64) s2)),(9,(.val (.int .i64) s3)),(10,(.val (.int .i64) s4)),(11,(.val (.int .i64) s5))],Yf [],Yg []⟩)
def Yib (x:Int):Option Bool:=Abs.Call E 248 x
def Z13 (s0:Int):Option Bool:=(Abs.Run E 248 (E.at 248 []) ⟨Y7 [(0,(.val (.int .i32) s0))],Yc [],Yd []⟩)
def YO5 (x:Int):Option Bool:=Abs.Call E 256 x
def Z23 (s0:Int):Option Bool:=(Abs.Run E 256 (E.at 256 []) ⟨Y7 [(0,(.val (.int .i32) s0))],Yc [],Yd []⟩)
def YN5 (x:((List Int)×Int)):Option (List Int):=Abs.Call E 258 x
def Z33 (s0:Int) (r1:List Int):Option (List Int):=(Abs.Run E 258 (E.at 258 []) ⟨Y7 [(1,(.val (.int .i32) s0)),(0,(.row 1073741824))],Yc [],Yd [(1073741824,.mk (.int .u8) .live r1)]⟩)
def YZ7 (x:List UInt8):Option Int:=Abs.Call E 259 x
def Z43 (s0:List UInt8):Option Int:=(Abs.Run E 259 (E.at 259 []) ⟨Y7 [(0,(.val .str s0))],Yc [],Yd []⟩)
def Z53 (s0:List UInt8) (s1:Int) (s2:Int) (s3:Int) (s4:Int):Option Int:=(Abs.Run E 259 (E.at 259 [1,1,1,0,0,7]) ⟨Y7 [(0,(.val .str s0)),(3,(.val (.int .u8) s1)),(4,(.val (.int .u8) s2)),(5,(.val (.int .i64) s3)),(6,(.val (.int .i64) s4))],Yf [],Yg []⟩)
def YF5 (x:Int):Option Int:=Abs.Call E 260 x
def Z63 (s0:Int):Option Int:=(Abs.Run E 260 (E.at 260 []) ⟨Y7 [(0,(.val (.int .u8) s0))],Yc [],Yd []⟩)
def YN7 (x:((List Int)×(Int×Int))):Option (List Int):=Abs.Call E 270 x
def Z73 (s0:Int) (s1:Int) (r2:List Int):Option (List Int):=(Abs.Run E 270 (E.at 270 []) ⟨Y7 [(2,(.val (.int .i64) s1)),(1,(.val (.int .i64) s0)),(0,(.row 1073741824))],Yc [],Yd [(1073741824,.mk (.int .u8) .live r2)]⟩)
def Z83 (s0:Int) (s1:Int) (s2:Int) (r3:List Int):Option (List Int):=(Abs.Run E 270 (E.at 270 [1,1,0,7]) ⟨Y7 [(0,(.row 0)),(1,(.val (.int .i64) s0)),(2,(.val (.int .i64) s1)),(7,(.val (.int .i64) s2))],Yf [],Yg [.mk (.int .u8) .live r3]⟩)
def YE4 (x:(Int×(Int×Bool))):Option Int:=Abs.Call E 271 x
def Z93 (s0:Int) (s1:Int) (s2:Bool):Option Int:=(Abs.Run E 271 (E.at 271 []) ⟨Y7 [(2,(.val .bool s2)),(1,(.val (.int .i64) s1)),(0,(.val (.int .i64) s0))],Yc [],Yd []⟩)
def Za3 (s0:Int) (s1:Int) (s2:Bool):Option Int:=(Abs.Run E 271 (E.at 271 [1,0,1,9]) ⟨Y7 [(0,(.val (.int .i64) s0)),(1,(.val (.int .i64) s1)),(2,(.val .bool s2))],Yf [],Yg []⟩)
def Zb3 (s0:Int) (s1:Int) (s2:Bool) (s3:Int):Option Int:=(Abs.Run E 271 (E.at 271 [1,1,1,1,0,0,7]) ⟨Y7 [(0,(.val (.int .i64) s0)),(1,(.val (.int .i64) s1)),(2,(.val .bool s2)),(7,(.val (.int .i64) s3))],Yf [],Yg []⟩)
def YU7 (x:(List UInt8×Int)):Option Int:=Abs.Call E 275 x
def Zc3 (s0:List UInt8) (s1:Int):Option Int:=(Abs.Run E 275 (E.at 275 []) ⟨Y7 [(1,(.val (.int .u8) s1)),(0,(.val .str s0))],Yc [],Yd []⟩)
def YJ5 (x:(List UInt8×(Int×(Int×Int)))):Option (Int×(Int×(Int×Int))):=Abs.Call E 276 x
def Zd3 (s0:List UInt8) (s1:Int) (s2:Int) (s3:Int):Option (Int×(Int×(Int×Int))):=(Abs.Run E 276 (E.at 276 []) ⟨Y7 [(3,(.val (.int .i64) s3)),(2,(.val (.int .i64) s2)),(1,(.val (.int .i64) s1)),(0,(.val .str s0))],Yc [],Yd []⟩)
def Ze3 (s0:List UInt8) (s1:Int) (s2:Int) (s3:Int) (s4:Int) (s5:Int) (s6:Int):Option (Int×(Int×(Int×Int))):=(Abs.Run E 276 (E.at 276 [1,1,1,1,0,7]) ⟨Y7 [(0,(.val .str s0)),(1,(.val (.int .i64) s1)),(2,(.val (.int .i64) s2)),(3,(.val (.int .i64) s3)),(12,(.val (.int .i64) s4)),(13,(.val (.int .i64) s5)),(14,(.val (.int .i64) s6))],Yf [],Yg []⟩)
def Zf3 (s0:List UInt8) (s1:Int) (s2:Int) (s3:Int) (s4:Int) (s5:Int) (s6:Int) (s7:Int):Option (Int×(Int×(Int×Int))):=(Abs.Run E 276 (E.at 276 [1,1,1,1,0,0,0,0,1,1,0,1,1,9]) ⟨Y7 [(0,(.val .str s0)),(1,(.val (.int .i64) s1)),(2,(.val (.int .i64) s2)),(3,(.val (.int .i64) s3)),(12,(.val (.int .i64) s4)),(13,(.val (.int .i64) s5)),(14,(.val (.int .i64) s6)),(15,(.val (.int .i64) s7))],Yf [],Yg []⟩)
def Yi3 (x:((List Int)×(Int×(List Int)))):Option (List Int):=Abs.Call E 277 x
def YCb (x:((List Int)×Int)):Option (List Int):=Abs.Call E 282 x
def Zg3 (s0:Int) (r1:List Int):Option (List Int):=(Abs.Run E 282 (E.at 282 []) ⟨Y7 [(1,(.val (.int .i32) s0)),(0,(.row 1073741824))],Yc [],Yd [(1073741824,.mk (.int .u8) .live r1)]⟩)
def Zh3 (s0:Int) (s1:Int) (s2:Bool) (r3:List Int):Option (List Int):=(Abs.Run E 282 (E.at 282 [1,1,0,1,1,0,1,9]) ⟨Y7 [(0,(.row 0)),(1,(.val (.int .i32) s0)),(5,(.val (.int .u32) s1)),(25,(.val .bool s2))],Yf [],Yg [.mk (.int .u8) .live r3]⟩)
def YX7 (x:Int):Option (Int×(Int×Int)):=Abs.Call E 283 x
def Zi3 (s0:Int):Option (Int×(Int×Int)):=(Abs.Run E 283 (E.at 283 []) ⟨Y7 [(0,(.val (.int .u8) s0))],Yc [],Yd []⟩)
def YK5 (x:(Int×Int)):Option Int:=Abs.Call E 290 x
def Zj3 (s0:Int) (s1:Int):Option Int:=(Abs.Run E 290 (E.at 290 []) ⟨Y7 [(1,(.val (.int .i64) s1)),(0,(.val (.int .i64) s0))],Yc [],Yd []⟩)
def Y3b (x:(List UInt8×Int)):Option Int:=Abs.Call E 292 x
def Zk3 (s0:List UInt8) (s1:Int):Option Int:=(Abs.Run E 292 (E.at 292 []) ⟨Y7 [(1,(.val (.int .u8) s1)),(0,(.val .str s0))],Yc [],Yd []⟩)
def Zl3 (s0:List UInt8) (s1:Int) (s2:Int):Option Int:=(Abs.Run E 292 (E.at 292 [1,0,1,0,7]) ⟨Y7 [(0,(.val .str s0)),(1,(.val (.int .u8) s1)),(5,(.val (.int .i64) s2))],Yf [],Yg []⟩)
theorem YYg (x:(List UInt8×Bool)):YA7 x=
 Zz x.1 x.2:=by kernel_rfl
theorem Yig (s0:List UInt8) (s1:Bool):Zz s0 s1=
 bif (decide ((((length s0):Nat):Int) > 65536)) then
 some (((Ty.zero (.int .i64)),((Ty.zero .str),((Ty.zero (.int .u32)),(Ty.zero (.arr 8 (.int .u16)))))),(5:Int))
 else
 bif (!(s0==([]:List UInt8))) then
 bif (Yb (0:Int) (length s0)) then
 bif ((((UInt8.toNat (getD s0 (Int.toNat (0:Int)) (0:UInt8))):Nat):Int)==91) then
 bif (Yb (wrap i64 ((((length s0):Nat):Int) - 1)) (length s0)) then
 bif ((((UInt8.toNat (getD s0 (Int.toNat (wrap i64 ((((length s0):Nat):Int) - 1))) (0:UInt8))):Nat):Int) !=93) then
 some (((Ty.zero (.int .i64)),((Ty.zero .str),((Ty.zero (.int .u32)),(Ty.zero (.arr 8 (.int .u16)))))),(51:Int))
 else
 bif (decide ((((length s0):Nat):Int) < 2)) then
 some (((Ty.zero (.int .i64)),((Ty.zero .str),((Ty.zero (.int .u32)),(Ty.zero (.arr 8 (.int .u16)))))),(51:Int))
 else
 bif (Yh (some (1:Int)) (some (wrap i64 ((((length s0):Nat):Int) - 1))) (length s0)) then
 (Yy7 (Yn (some (1:Int)) (some (wrap i64 ((((length s0):Nat):Int) - 1))) s0)).bind fun y0=>
 bif (y0.2 !=0) then
 some (((Ty.zero (.int .i64)),((Ty.zero .str),((Ty.zero (.int .u32)),(Ty.zero (.arr 8 (.int .u16)))))),y0.2)
 else
 some (((3:Int),((Ty.zero .str),((Ty.zero (.int .u32)),y0.1))),(0:Int))
 else
 none
 else
 none
 else
 bif (!s1) then
 bif (s0==([]:List UInt8)) then
 some (((5:Int),((Ty.zero .str),((Ty.zero (.int .u32)),(Ty.zero (.arr 8 (.int .u16)))))),(0:Int))
 else
 bif (!s1) then
 (Yj3 (s0,([0,9,10,13,32,35,47,58,60,62,63,64,91,92,93,94,124]:List UInt8))).bind fun y0=>
 bif y0 then
 some (((Ty.zero (.int .i64)),((Ty.zero .str),((Ty.zero (.int .u32)),(Ty.zero (.arr 8 (.int .u16)))))),(52:Int))
 else
 (Yh3 ((1:Int),s0)).bind fun y1=>
 bif (decide ((((length y1.1):Nat):Int) > 65536)) then
 some (((Ty.zero (.int .i64)),((Ty.zero .str),((Ty.zero (.int .u32)),(Ty.zero (.arr 8 (.int .u16)))))),(5:Int))
 else
 some (((4:Int),(y1.1,((Ty.zero (.int .u32)),(Ty.zero (.arr 8 (.int .u16)))))),(0:Int))
 else
 (Yg3 s0).bind fun y0=>
 (Ye3 y0).bind fun y1=>
 bif (y1.2 !=0) then
 some (((Ty.zero (.int .i64)),((Ty.zero .str),((Ty.zero (.int .u32)),(Ty.zero (.arr 8 (.int .u16)))))),y1.2)
 else
 bif (y1.1==([]:List UInt8)) then
 some (((Ty.zero (.int .i64)),((Ty.zero .str),((Ty.zero (.int .u32)),(Ty.zero (.arr 8 (.int .u16)))))),(51:Int))
 else
 Z01 s0 s1 y1.1 (((length y1.1):Nat):Int) (0:Int) ((Ty.zero (.int .i64)),((Ty.zero .str),((Ty.zero (.int .u32)),(Ty.zero (.arr 8 (.int .u16))))))
 else
 bif (!s1) then
 (Yj3 (s0,([0,9,10,13,32,35,47,58,60,62,63,64,91,92,93,94,124]:List UInt8))).bind fun y0=>
 bif y0 then
 some (((Ty.zero (.int .i64)),((Ty.zero .str),((Ty.zero (.int .u32)),(Ty.zero (.arr 8 (.int .u16)))))),(52:Int))
 else
 (Yh3 ((1:Int),s0)).bind fun y1=>
 bif (decide ((((length y1.1):Nat):Int) > 65536)) then
 some (((Ty.zero (.int .i64)),((Ty.zero .str),((Ty.zero (.int .u32)),(Ty.zero (.arr 8 (.int .u16)))))),(5:Int))
 else
 some (((4:Int),(y1.1,((Ty.zero (.int .u32)),(Ty.zero (.arr 8 (.int .u16)))))),(0:Int))
 else
 (Yg3 s0).bind fun y0=>
 (Ye3 y0).bind fun y1=>
 bif (y1.2 !=0) then
 some (((Ty.zero (.int .i64)),((Ty.zero .str),((Ty.zero (.int .u32)),(Ty.zero (.arr 8 (.int .u16)))))),y1.2)
 else
 bif (y1.1==([]:List UInt8)) then
 some (((Ty.zero (.int .i64)),((Ty.zero .str),((Ty.zero (.int .u32)),(Ty.zero (.arr 8 (.int .u16)))))),(51:Int))
 else
 Z01 s0 s1 y1.1 (((length y1.1):Nat):Int) (0:Int) ((Ty.zero (.int .i64)),((Ty.zero .str),((Ty.zero (.int .u32)),(Ty.zero (.arr 8 (.int .u16))))))
 else
 none
 else
 bif (!s1) then
 bif (s0==([]:List UInt8)) then
 some (((5:Int),((Ty.zero .str),((Ty.zero (.int .u32)),(Ty.zero (.arr 8 (.int .u16)))))),(0:Int))
 else
 bif (!s1) then
 (Yj3 (s0,([0,9,10,13,32,35,47,58,60,62,63,64,91,92,93,94,124]:List UInt8))).bind fun y0=>
 bif y0 then
 some (((Ty.zero (.int .i64)),((Ty.zero .str),((Ty.zero (.int .u32)),(Ty.zero (.arr 8 (.int .u16)))))),(52:Int))
 else
 (Yh3 ((1:Int),s0)).bind fun y1=>
 bif (decide ((((length y1.1):Nat):Int) > 65536)) then
 some (((Ty.zero (.int .i64)),((Ty.zero .str),((Ty.zero (.int .u32)),(Ty.zero (.arr 8 (.int .u16)))))),(5:Int))
 else
 some (((4:Int),(y1.1,((Ty.zero (.int .u32)),(Ty.zero (.arr 8 (.int .u16)))))),(0:Int))
 else
 (Yg3 s0).bind fun y0=>
 (Ye3 y0).bind fun y1=>
 bif (y1.2 !=0) then
 some (((Ty.zero (.int .i64)),((Ty.zero .str),((Ty.zero (.int .u32)),(Ty.zero (.arr 8 (.int .u16)))))),y1.2)
 else
 bif (y1.1==([]:List UInt8)) then
 some (((Ty.zero (.int .i64)),((Ty.zero .str),((Ty.zero (.int .u32)),(Ty.zero (.arr 8 (.int .u16)))))),(51:Int))
 else
 Z01 s0 s1 y1.1 (((length y1.1):Nat):Int) (0:Int) ((Ty.zero (.int .i64)),((Ty.zero .str),((Ty.zero (.int .u32)),(Ty.zero (.arr 8 (.int .u16))))))
 else
 bif (!s1) then
 (Yj3 (s0,([0,9,10,13,32,35,47,58,60,62,63,64,91,92,93,94,124]:List UInt8))).bind fun y0=>
 bif y0 then
 some (((Ty.zero (.int .i64)),((Ty.zero .str),((Ty.zero (.int .u32)),(Ty.zero (.arr 8 (.int .u16)))))),(52:Int))
 else
 (Yh3 ((1:Int),s0)).bind fun y1=>
 bif (decide ((((length y1.1):Nat):Int) > 65536)) then
 some (((Ty.zero (.int .i64)),((Ty.zero .str),((Ty.zero (.int .u32)),(Ty.zero (.arr 8 (.int .u16)))))),(5:Int))
 else
 some (((4:Int),(y1.1,((Ty.zero (.int .u32)),(Ty.zero (.arr 8 (.int .u16)))))),(0:Int))
 else
 (Yg3 s0).bind fun y0=>
 (Ye3 y0).bind fun y1=>
 bif (y1.2 !=0) then
 some (((Ty.zero (.int .i64)),((Ty.zero .str),((Ty.zero (.int .u32)),(Ty.zero (.arr 8 (.int .u16)))))),y1.2)
 else
 bif (y1.1==([]:List UInt8)) then
 some (((Ty.zero (.int .i64)),((Ty.zero .str),((Ty.zero (.int .u32)),(Ty.zero (.arr 8 (.int .u16)))))),(51:Int))
 else
 Z01 s0 s1 y1.1 (((length y1.1):Nat):Int) (0:Int) ((Ty.zero (.int .i64)),((Ty.zero .str),((Ty.zero (.int .u32)),(Ty.zero (.arr 8 (.int .u16)))))):=by unfold Zz; rewrite [Y8]; kernel_rfl
theorem YM9 (s0:List UInt8) (s1:Bool) (s2:List UInt8) (s3:Int) (s4:Int) (b5:D35):Z01 s0 s1 s2 s3 s4 b5=
 bif (decide (s4 < s3)) then
 bif (Yb s4 (length s2)) then
 bif (decide ((((UInt8.toNat (getD s2 (Int.toNat s4) (0:UInt8))):Nat):Int) < 32)) then
 some (((Ty.zero (.int .i64)),((Ty.zero .str),((Ty.zero (.int .u32)),(Ty.zero (.arr 8 (.int .u16)))))),(52:Int))
 else
 bif ((((UInt8.toNat (getD s2 (Int.toNat s4) (0:UInt8))):Nat):Int)==37) then
 some (((Ty.zero (.int .i64)),((Ty.zero .str),((Ty.zero (.int .u32)),(Ty.zero (.arr 8 (.int .u16)))))),(52:Int))
 else
 bif ((((UInt8.toNat (getD s2 (Int.toNat s4) (0:UInt8))):Nat):Int)==127) then
 some (((Ty.zero (.int .i64)),((Ty.zero .str),((Ty.zero (.int .u32)),(Ty.zero (.arr 8 (.int .u16)))))),(52:Int))
 else
 (Yk3 (([0,9,10,13,32,35,47,58,60,62,63,64,91,92,93,94,124]:List UInt8),(((UInt8.toNat (getD s2 (Int.toNat s4) (0:UInt8))):Nat):Int))).bind fun y0=>
 bif (decide (y0>=0)) then
 some (((Ty.zero (.int .i64)),((Ty.zero .str),((Ty.zero (.int .u32)),(Ty.zero (.arr 8 (.int .u16)))))),(52:Int))
 else
 Z01 s0 s1 s2 s3 (wrap i64 (s4+1)) b5
 else
 none
 else
 (Yw7 s2).bind fun y0=>
 bif y0 then
 (Yx7 s2).bind fun y1=>
 bif (y1.2 !=0) then
 some (((Ty.zero (.int .i64)),((Ty.zero .str),((Ty.zero (.int .u32)),(Ty.zero (.arr 8 (.int .u16)))))),y1.2)
 else
 some (((2:Int),((Ty.zero .str),(y1.1,(Ty.zero (.arr 8 (.int .u16)))))),(0:Int))
 else
 some (((1:Int),(s2,((Ty.zero (.int .u32)),(Ty.zero (.arr 8 (.int .u16)))))),(0:Int)):=by unfold Z01; rewrite [Y8]; kernel_rfl
theorem Y0h (x:List UInt8):Ye3 x=
 Z11 x:=by kernel_rfl
theorem Yye (s0:List UInt8):Z11 s0=
 (YP5 s0).bind fun y0=>
 bif (!y0.1) then
 some (([]:List UInt8),(21:Int))
 else
 bif (decide ((((length s0):Nat):Int) > 65536)) then
 some (([]:List UInt8),(5:Int))
 else
 bif (s0==([]:List UInt8)) then
 some (([]:List UInt8),(0:Int))
 else
 Z21 s0 (0:Int) s0 0 ([]:List (List UInt8)):=by unfold Z11; rewrite [Y8]; kernel_rfl
theorem YO9 (s0:List UInt8) (s1:Int) (t2:List UInt8) (n3:Nat) (r4:List (List UInt8)):Z21 s0 s1 t2 n3 r4=
 bif (decide (n3 < (length t2))) then
 (YA5 (((Yp t2 n3).1:Nat):Int)).bind fun y0=>
 bif y0 then
 bif (Yh (some s1) (some ((n3:Nat):Int)) (length s0)) then
 bif (decide (((length r4)+(length ([(Yn (some s1) (some ((n3:Nat):Int)) s0)]:List (List UInt8))))<=(lim))) then
 Z21 s0 (wrap i64 (((n3:Nat):Int)+(((length (Ya1 (((Yp t2 n3).1:Nat):Int))):Nat):Int))) t2 (n3+(Yp t2 n3).2) (r4++([(Yn (some s1) (some ((n3:Nat):Int)) s0)]:List (List UInt8)))
 else
 none
 else
 none
 else
 Z21 s0 s1 t2 (n3+(Yp t2 n3).2) r4
 else
 bif (Yh (some s1) none (length s0)) then
 bif (decide (((length r4)+(length ([(Yn (some s1) none s0)]:List (List UInt8))))<=(lim))) then
 Z31 s0 (((length (r4++([(Yn (some s1) none s0)]:List (List UInt8)))):Nat):Int) (0:Int) (r4++([(Yn (some s1) none s0)]:List (List UInt8)))
 else
 none
 else
 none:=by unfold Z21; rewrite [Y8]; kernel_rfl
theorem YP9 (s0:List UInt8) (s1:Int) (s2:Int) (r3:List (List UInt8)):Z31 s0 s1 s2 r3=
 bif (decide (s2 < s1)) then
 bif (Yb s2 (length r3)) then
 bif (s2==(wrap i64 ((((length r3):Nat):Int) - 1))) then
 (YA4 ((getD r3 (Int.toNat s2) (Ty.zero .str)),(decide (s2 > 0)))).bind fun y0=>
 bif (y0.2 !=0) then
 some (([]:List UInt8),y0.2)
 else
 bif (Yb s2 (length r3)) then
 Z31 s0 s1 (wrap i64 (s2+1)) (List.set r3 (Int.toNat s2) y0.1)
 else
 none
 else
 (YA4 ((getD r3 (Int.toNat s2) (Ty.zero .str)),false)).bind fun y0=>
 bif (y0.2 !=0) then
 some (([]:List UInt8),y0.2)
 else
 bif (Yb s2 (length r3)) then
 Z31 s0 s1 (wrap i64 (s2+1)) (List.set r3 (Int.toNat s2) y0.1)
 else
 none
 else
 none
 else
 (Ytb (r3,([46]:List UInt8))).bind fun y0=>
 (YV7 (y0,([46]:List UInt8))).bind fun y1=>
 bif (decide ((((length y1):Nat):Int) > 253)) then
 some (([]:List UInt8),(5:Int))
 else
 some (y0,(0:Int)):=by unfold Z31; rewrite [Y8]; kernel_rfl
theorem YWg (x:List UInt8):Yz7 x=
 Z41 x:=by kernel_rfl
theorem YGe (s0:List UInt8):Z41 s0=
 bif (s0==([]:List UInt8)) then
 some ([]:List (List UInt8))
 else
 (YW3 (s0,(46:Int))).bind fun y0=>
 bif (Yb (wrap i64 ((((length y0):Nat):Int) - 1)) (length y0)) then
 bif ((getD y0 (Int.toNat (wrap i64 ((((length y0):Nat):Int) - 1))) (Ty.zero .str))==([]:List UInt8)) then
 bif (Yh none (some (wrap i64 ((((length y0):Nat):Int) - 1))) (length y0)) then
 some (List.take (Option.getD (Option.map (Int.toNat) (some (wrap i64 ((((length y0):Nat):Int) - 1)))) (length y0)) y0)
 else
 none
 else
 some y0
 else
 none:=by unfold Z41; rewrite [Y8]; kernel_rfl
theorem Y7i (x:(List UInt8×List UInt8)):Yj3 x=
 Z51 x.1 x.2:=by kernel_rfl
theorem YJe (s0:List UInt8) (s1:List UInt8):Z51 s0 s1=
 (YT7 (s0,s1)).bind fun y0=>
 some (decide (y0>=0)):=by unfold Z51; rewrite [Y8]; kernel_rfl
theorem YDh (x:(Int×List UInt8)):Yh3 x=
 Z61 x.1 x.2:=by kernel_rfl
theorem YLe (s0:Int) (s1:List UInt8):Z61 s0 s1=
 (YQ5 s1).bind fun y0=>
 (Ycb (s0,(YK y0))).bind fun y1=>
 some (y1.1,y1.2):=by unfold Z61; rewrite [Y8]; kernel_rfl
theorem YAh (x:List UInt8):Yg3 x=
 Z71 x:=by kernel_rfl
theorem YQe (s0:List UInt8):Z71 s0=
 (Ybb s0).bind fun y0=>
 (YQ5 (Yx y0)).bind fun y1=>
 some y1:=by unfold Z71; rewrite [Y8]; kernel_rfl
theorem Yvi (x:List UInt8):YP5 x=
 Z81 x:=by kernel_rfl
theorem YVe (s0:List UInt8):Z81 s0=
 Z91 s0 s0 0:=by unfold Z81; rewrite [Y8]; kernel_rfl
theorem YX9 (s0:List UInt8) (t1:List UInt8) (n2:Nat):Z91 s0 t1 n2=
 bif (decide (n2 < (length t1))) then
 (YR5 (s0,((n2:Nat):Int))).bind fun y0=>
 bif y0.2.2.2 then
 some (false,((n2:Nat):Int))
 else
 Z91 s0 t1 (n2+(Yp t1 n2).2)
 else
 some (true,(0:Int)):=by unfold Z91; rewrite [Y8]; kernel_rfl
theorem Y9h (x:Int):YA5 x=
 Za1 x:=by kernel_rfl
theorem Y2f (s0:Int):Za1 s0=
 bif (s0==46) then
 some true
 else
 bif (s0==12290) then
 some true
 else
 bif (s0==65294) then
 some true
 else
 some (s0==65377):=by unfold Za1; rewrite [Y8]; kernel_rfl
theorem Ybh (x:(List UInt8×Bool)):YA4 x=
 Zb1 x.1 x.2:=by kernel_rfl
theorem Y7f (s0:List UInt8) (s1:Bool):Zb1 s0 s1=
 (YH2 s0).bind fun y0=>
 (YU3 (y0,(65533:Int))).bind fun y1=>
 (YB7 y0).bind fun y2=>
 bif (!y2) then
 bif (!y1) then
 (YG5 y0).bind fun y3=>
 bif (y3.2 !=0) then
 some (([]:List UInt8),(53:Int))
 else
 Zc1 y3.1 s1 y1
 else
 Zc1 y0 s1 y1
 else
 Zc1 y0 s1 y1:=by unfold Zb1; rewrite [Y8]; kernel_rfl
theorem Yc7 (s0:List UInt8) (s1:Bool) (s2:Bool):Zc1 s0 s1 s2=
 bif s2 then
 some (([]:List UInt8),(53:Int))
 else
 bif (decide ((((length s0):Nat):Int) > 63)) then
 some (([]:List UInt8),(53:Int))
 else
 bif (s0==([]:List UInt8)) then
 bif (!s1) then
 some (([]:List UInt8),(53:Int))
 else
 (YX3 (s0,([120,110,45,45]:List UInt8))).bind fun y0=>
 bif y0 then
 (YD4 s0).bind fun y1=>
 bif (y1.2 !=0) then
 some (([]:List UInt8),(53:Int))
 else
 (YU3 (y1.1,(65533:Int))).bind fun y2=>
 bif y2 then
 some (([]:List UInt8),(53:Int))
 else
 (YG4 (y1.1,())).bind fun y3=>
 bif (decide (y3>=0)) then
 some (([]:List UInt8),(53:Int))
 else
 some (s0,(0:Int))
 else
 some (s0,(0:Int))
 else
 (YX3 (s0,([120,110,45,45]:List UInt8))).bind fun y0=>
 bif y0 then
 (YD4 s0).bind fun y1=>
 bif (y1.2 !=0) then
 some (([]:List UInt8),(53:Int))
 else
 (YU3 (y1.1,(65533:Int))).bind fun y2=>
 bif y2 then
 some (([]:List UInt8),(53:Int))
 else
 (YG4 (y1.1,())).bind fun y3=>
 bif (decide (y3>=0)) then
 some (([]:List UInt8),(53:Int))
 else
 some (s0,(0:Int))
 else
 some (s0,(0:Int)):=by unfold Zc1; rewrite [Y8]; kernel_rfl
theorem Yii (x:((List (List UInt8))×List UInt8)):Ytb x=YF3 x:=by kernel_rfl
theorem Yki (x:(List UInt8×List UInt8)):YV7 x=
 Zd1 x.1 x.2:=by kernel_rfl
theorem Yaf (s0:List UInt8) (s1:List UInt8):Zd1 s0 s1=
 (Y8b (s0,s1)).bind fun y0=>
 some y0:=by unfold Zd1; rewrite [Y8]; kernel_rfl
theorem YSh (x:List UInt8):YD4 x=
 Ze1 x:=by kernel_rfl
theorem Yef (s0:List UInt8):Ze1 s0=
 bif (decide ((((length s0):Nat):Int) < 4)) then
 some (s0,(0:Int))
 else
 bif (Yh none (some (4:Int)) (length s0)) then
 (YH2 (Yn none (some (4:Int)) s0)).bind fun y0=>
 bif (!(y0==([120,110,45,45]:List UInt8))) then
 some (s0,(0:Int))
 else
 bif (Yh (some (4:Int)) none (length s0)) then
 (YL7 (Yn (some (4:Int)) none s0)).bind fun y1=>
 bif (y1.2.1 !=0) then
 some (([]:List UInt8),y1.2.1)
 else
 (YG5 y1.1).bind fun y2=>
 bif (y2.2 !=0) then
 some (([]:List UInt8),(31:Int))
 else
 (YH5 y1.1).bind fun y3=>
 bif y3 then
 some (([]:List UInt8),(31:Int))
 else
 (YG7 (y2.1,s0)).bind fun y4=>
 bif (!y4) then
 some (([]:List UInt8),(31:Int))
 else
 some (y1.1,(0:Int))
 else
 none
 else
 none:=by unfold Ze1; rewrite [Y8]; kernel_rfl
theorem Ydi (x:(List UInt8×List UInt8)):YT7 x=
 Zf1 x.1 x.2:=by kernel_rfl
theorem Yif (s0:List UInt8) (s1:List UInt8):Zf1 s0 s1=
 bif (s1==([]:List UInt8)) then
 some (-(1:Int))
 else
 bif ((((length s1):Nat):Int)==1) then
 bif (Yb (0:Int) (length s1)) then
 bif (decide ((wrap i32 (((UInt8.toNat (getD s1 (Int.toNat (0:Int)) (0:UInt8))):Nat):Int))>=128)) then
 Zg1 s0 s1 (65533:Int)
 else
 Zg1 s0 s1 (wrap i32 (((UInt8.toNat (getD s1 (Int.toNat (0:Int)) (0:UInt8))):Nat):Int))
 else
 none
 else
 (Yzb (((length s0):Nat):Int)).bind fun y0=>
 bif y0 then
 (Yyb s1).bind fun y1=>
 bif y1.2 then
 Zh1 s0 s1 (0:Int) y1.1
 else
 Zi1 s0 s1
 else
 Zi1 s0 s1:=by unfold Zf1; rewrite [Y8]; kernel_rfl
theorem Y6a (s0:List UInt8) (s1:List UInt8) (s2:Int) (b3:(List Bool)):Zh1 s0 s1 s2 b3=
 bif (decide (s2 < (((length s0):Nat):Int))) then
 bif (Yb s2 (length s0)) then
 (Yub (b3,(((UInt8.toNat (getD s0 (Int.toNat s2) (0:UInt8))):Nat):Int))).bind fun y0=>
 bif y0.1 then
 some s2
 else
 Zh1 s0 s1 (wrap i64 (s2+1)) y0.2
 else
 none
 else
 some (-(1:Int)):=by unfold Zh1; rewrite [Y8]; kernel_rfl
theorem Ytf (s0:List UInt8) (s1:List UInt8):Zi1 s0 s1=
 Zj1 s0 s1 s0 0:=by unfold Zi1; rewrite [Y8]; kernel_rfl
theorem Y9a (s0:List UInt8) (s1:List UInt8) (t2:List UInt8) (n3:Nat):Zj1 s0 s1 t2 n3=
 bif (decide (n3 < (length t2))) then
 (YM5 (s1,(((Yp t2 n3).1:Nat):Int))).bind fun y0=>
 bif (decide (y0>=0)) then
 some ((n3:Nat):Int)
 else
 Zj1 s0 s1 t2 (n3+(Yp t2 n3).2)
 else
 some (-(1:Int)):=by unfold Zj1; rewrite [Y8]; kernel_rfl
theorem YFh (x:(Int×(List Int))):Ycb x=
 Zk1 x.1 x.2:=by kernel_rfl
theorem YBf (s0:Int) (s1:(List Int)):Zk1 s0 s1=
 (Yeb s0).bind fun y0=>
 bif (!y0) then
 some (([]:List UInt8),(42:Int))
 else
 (Ydb ()).bind fun y1=>
 bif (Yb s0 9) then
 Zl1 s0 s1 s1 (((length s1):Nat):Int) (0:Int) (getD y1 (Int.toNat s0) (Ty.zero (.arr 256 .bool))) ([]:List Int)
 else
 none:=by unfold Zk1; rewrite [Y8]; kernel_rfl
theorem Yda (s0:Int) (s1:(List Int)) (s2:(List Int)) (s3:Int) (s4:Int) (b5:(List Bool)) (r6:List Int):Zl1 s0 s1 s2 s3 s4 b5 r6=
 bif (decide (s4 < s3)) then
 bif (Yb s4 (length s2)) then
 bif (Yb (getD s2 (Int.toNat s4) (Ty.zero (.int .u8))) 256) then
 bif (getD b5 (Int.toNat (getD s2 (Int.toNat s4) (Ty.zero (.int .u8)))) (Ty.zero .bool)) then
 (YI7 (r6,(getD s2 (Int.toNat s4) (Ty.zero (.int .u8))))).bind fun y0=>
 Zl1 s0 s1 s2 s3 (wrap i64 (s4+1)) b5 y0
 else
 bif (decide (((length r6)+(length ([(getD s2 (Int.toNat s4) (Ty.zero (.int .u8)))]:List Int)))<=(lim))) then
 Zl1 s0 s1 s2 s3 (wrap i64 (s4+1)) b5 (r6++([(getD s2 (Int.toNat s4) (Ty.zero (.int .u8)))]:List Int))
 else
 none
 else
 none
 else
 none
 else
 some ((Yx r6),(0:Int)):=by unfold Zl1; rewrite [Y8]; kernel_rfl
theorem Ywi (x:List UInt8):YQ5 x=
 Zm1 x:=by kernel_rfl
theorem YFf (s0:List UInt8):Zm1 s0=
 (YW7 s0).bind fun y0=>
 (YY7 y0).bind fun y1=>
 some y1:=by unfold Zm1; rewrite [Y8]; kernel_rfl
theorem YCh (x:List UInt8):Ybb x=
 Zn1 x:=by kernel_rfl
theorem YIf (s0:List UInt8):Zn1 s0=
 Zo1 s0 (0:Int) ([]:List Int):=by unfold Zn1; rewrite [Y8]; kernel_rfl
theorem Yja (s0:List UInt8) (s1:Int) (r2:List Int):Zo1 s0 s1 r2=
 bif (decide (s1 < (((length s0):Nat):Int))) then
 (YJ7 (s0,s1)).bind fun y0=>
 bif (decide (y0>=0)) then
 bif (decide (((length r2)+(length ([(wrap u8 y0)]:List Int)))<=(lim))) then
 Zo1 s0 (wrap i64 ((wrap i64 (s1+2))+1)) (r2++([(wrap u8 y0)]:List Int))
 else
 none
 else
 bif (Yb s1 (length s0)) then
 bif (decide (((length r2)+(length ([(((UInt8.toNat (getD s0 (Int.toNat s1) (0:UInt8))):Nat):Int)]:List Int)))<=(lim))) then
 Zo1 s0 (wrap i64 (s1+1)) (r2++([(((UInt8.toNat (getD s0 (Int.toNat s1) (0:UInt8))):Nat):Int)]:List Int))
 else
 none
 else
 none
 else
 some r2:=by unfold Zo1; rewrite [Y8]; kernel_rfl
theorem Yzi (x:(List UInt8×Int)):YR5 x=
 Zp1 x.1 x.2:=by kernel_rfl
theorem YPf (s0:List UInt8) (s1:Int):Zp1 s0 s1=
 bif (Yh (some s1) none (length s0)) then
 (YBb (Yn (some s1) none s0)).bind fun y0=>
 bif (y0.1==65533) then
 some (s1,(y0.2,(y0.1,(y0.2==1))))
 else
 some (s1,(y0.2,(y0.1,false)))
 else
 none:=by unfold Zp1; rewrite [Y8]; kernel_rfl
theorem Yah (x:(List UInt8×Int)):YU3 x=
 Zq1 x.1 x.2:=by kernel_rfl
theorem YSf (s0:List UInt8) (s1:Int):Zq1 s0 s1=
 Zr1 s0 s1 s0 0:=by unfold Zq1; rewrite [Y8]; kernel_rfl
theorem Yna (s0:List UInt8) (s1:Int) (t2:List UInt8) (n3:Nat):Zr1 s0 s1 t2 n3=
 bif (decide (n3 < (length t2))) then
 bif ((((Yp t2 n3).1:Nat):Int)==s1) then
 some true
 else
 Zr1 s0 s1 t2 (n3+(Yp t2 n3).2)
 else
 some false:=by unfold Zr1; rewrite [Y8]; kernel_rfl
theorem Y4h (x:List UInt8):YB7 x=
 Zs1 x:=by kernel_rfl
theorem YXf (s0:List UInt8):Zs1 s0=
 (Yqb (s0,())).bind fun y0=>
 some (decide (y0 < 0)):=by unfold Zs1; rewrite [Y8]; kernel_rfl
theorem YRh (x:List UInt8):YG5 x=
 Zt1 x:=by kernel_rfl
theorem Y1g (s0:List UInt8):Zt1 s0=
 (YM7 s0).bind fun y0=>
 bif (y0.2 !=0) then
 some (([]:List UInt8),y0.2)
 else
 (YH5 s0).bind fun y1=>
 bif y1 then
 some (s0,(0:Int))
 else
 bif (decide (((length ([120,110,45,45]:List UInt8))+(length y0.1))<=(2 ^ 62))) then
 some ((([120,110,45,45]:List UInt8)++y0.1),(0:Int))
 else
 none:=by unfold Zt1; rewrite [Y8]; kernel_rfl
theorem Ygi (x:(List UInt8×Unit)):Yqb x=
 Zu1 x.1 x.2:=by kernel_rfl
theorem Y4g (s0:List UInt8) (s1:Unit):Zu1 s0 s1=
 (Yvb (s0,(s1,true))).bind fun y0=>
 some y0:=by unfold Zu1; rewrite [Y8]; kernel_rfl
theorem Yfi (x:(List UInt8×Unit)):Yrb x=
 Zv1 x.1 x.2:=by kernel_rfl
theorem Y7g (s0:List UInt8) (s1:Unit):Zv1 s0 s1=
 (Yxb (s0,(s1,true))).bind fun y0=>
 some y0:=by unfold Zv1; rewrite [Y8]; kernel_rfl
theorem Yei (x:(List UInt8×Unit)):YG4 x=
 Zw1 x.1 x.2:=by kernel_rfl
theorem Y9g (s0:List UInt8) (s1:Unit):Zw1 s0 s1=
 (Ywb (s0,(s1,true))).bind fun y0=>
 some y0:=by unfold Zw1; rewrite [Y8]; kernel_rfl
theorem Ynh (x:(List UInt8×List UInt8)):Y8b x=
 Zx1 x.1 x.2:=by kernel_rfl
theorem Ybg (s0:List UInt8) (s1:List UInt8):Zx1 s0 s1=
 (Y6b (s0,s1)).bind fun y0=>
 bif y0 then
 bif (Yh none (some (wrap i64 ((((length s0):Nat):Int) - (((length s1):Nat):Int)))) (length s0)) then
 some (Yn none (some (wrap i64 ((((length s0):Nat):Int) - (((length s1):Nat):Int)))) s0)
 else
 none
 else
 some s0:=by unfold Zx1; rewrite [Y8]; kernel_rfl
theorem YNh (x:List UInt8):YL7 x=
 Zy1 x:=by kernel_rfl
theorem Ydg (s0:List UInt8):Zy1 s0=
 bif (decide ((((length s0):Nat):Int) > 65536)) then
 some (([]:List UInt8),((5:Int),(0:Int)))
 else
 (YI5 s0).bind fun y0=>
 some (y0.1,(y0.2.1,y0.2.2)):=by unfold Zy1; rewrite [Y8]; kernel_rfl
theorem YWh (x:List UInt8):YH5 x=
 Zz1 x:=by kernel_rfl
theorem Ygg (s0:List UInt8):Zz1 s0=
 (Yrb (s0,())).bind fun y0=>
 some (decide (y0 < 0)):=by unfold Zz1; rewrite [Y8]; kernel_rfl
theorem Yth (x:(List UInt8×List UInt8)):YG7 x=
 Z02 x.1 x.2:=by kernel_rfl
theorem Yve (s0:List UInt8) (s1:List UInt8):Z02 s0 s1=
 (YH2 s0).bind fun y0=>
 (YH2 s1).bind fun y1=>
 some (y0==y1):=by unfold Z02; rewrite [Y8]; kernel_rfl
theorem Ysb (x:(List UInt8×Int)):YM5 x=
 Z12 x.1 x.2:=by kernel_rfl
theorem YN9 (s0:List UInt8) (s1:Int):Z12 s0 s1=
 bif (decide ((0:Int)<=s1)) then
 bif (decide (s1 < 128)) then
 (Yk3 (s0,(wrap u8 s1))).bind fun y0=>
 some y0
 else
 bif (s1==65533) then
 Z22 s0 s1 s0 0
 else
 (YO5 s1).bind fun y0=>
 bif (!y0) then
 some (-(1:Int))
 else
 Z32 s0 s1 (Ya1 s1) (wrap i64 ((((length (Ya1 s1)):Nat):Int) - 1)) (wrap i64 ((((length (Ya1 s1)):Nat):Int) - 1))
 else
 bif (s1==65533) then
 Z22 s0 s1 s0 0
 else
 (YO5 s1).bind fun y0=>
 bif (!y0) then
 some (-(1:Int))
 else
 Z32 s0 s1 (Ya1 s1) (wrap i64 ((((length (Ya1 s1)):Nat):Int) - 1)) (wrap i64 ((((length (Ya1 s1)):Nat):Int) - 1)):=by unfold Z12; rewrite [Y8]; kernel_rfl
theorem YDe (s0:List UInt8) (s1:Int) (s2:List UInt8) (s3:Int) (s4:Int):Z32 s0 s1 s2 s3 s4=
 bif (decide (s4 < (((length s0):Nat):Int))) then
 bif (Yb s4 (length s0)) then
 bif (Yb s3 (length s2)) then
 bif ((((UInt8.toNat (getD s0 (Int.toNat s4) (0:UInt8))):Nat):Int) !=(((UInt8.toNat (getD s2 (Int.toNat s3) (0:UInt8))):Nat):Int)) then
 bif (Yh (some (wrap i64 (s4+1))) none (length s0)) then
 bif (Yb s3 (length s2)) then
 (Yk3 ((Yn (some (wrap i64 (s4+1))) none s0),(((UInt8.toNat (getD s2 (Int.toNat s3) (0:UInt8))):Nat):Int))).bind fun y0=>
 bif (decide (y0 < 0)) then
 some (-(1:Int))
 else
 Z42 s0 s1 s2 s3 (wrap i64 (s4+(wrap i64 (y0+1))))
 else
 none
 else
 none
 else
 Z42 s0 s1 s2 s3 s4
 else
 none
 else
 none
 else
 some (-(1:Int)):=by unfold Z32; rewrite [Y8]; kernel_rfl
theorem Ypi (x:Int):Yzb x=
 Z52 x:=by kernel_rfl
theorem YKe (s0:Int):Z52 s0=
 some (decide (s0 > 8)):=by unfold Z52; rewrite [Y8]; kernel_rfl
theorem Yli (x:((List Bool)×Int)):Yub x=
 Z62 x.2 x.1:=by kernel_rfl
theorem YMe (s0:Int) (b1:(List Bool)):Z62 s0 b1=
 bif (Yb s0 256) then
 some ((getD b1 (Int.toNat s0) (Ty.zero .bool)),b1)
 else
 none:=by unfold Z62; rewrite [Y8]; kernel_rfl
theorem YIh (x:Int):Yeb x=
 Z72 x:=by kernel_rfl
theorem YRe (s0:Int):Z72 s0=
 bif (decide (s0>=1)) then
 some (decide (s0<=8))
 else
 some false:=by unfold Z72; rewrite [Y8]; kernel_rfl
theorem YGh (x:((List Int)×Int)):YI7 x=
 Z82 x.2 x.1:=by kernel_rfl
theorem YWe (s0:Int) (r1:List Int):Z82 s0 r1=
 bif (Yb (shr u8 s0 (4:Int)) (length ([48,49,50,51,52,53,54,55,56,57,65,66,67,68,69,70]:List UInt8))) then
 bif (Yb (bits Go.BinOp.and u8 s0 (15:Int)) (length ([48,49,50,51,52,53,54,55,56,57,65,66,67,68,69,70]:List UInt8))) then
 bif (decide (((length r1)+(length ([(37:Int),(((UInt8.toNat (getD ([48,49,50,51,52,53,54,55,56,57,65,66,67,68,69,70]:List UInt8) (Int.toNat (shr u8 s0 (4:Int))) (0:UInt8))):Nat):Int),(((UInt8.toNat (getD ([48,49,50,51,52,53,54,55,56,57,65,66,67,68,69,70]:List UInt8) (Int.toNat (bits Go.BinOp.and u8 s0 (15:Int))) (0:UInt8))):Nat):Int)]:List Int)))<=(lim))) then
 some (r1++([(37:Int),(((UInt8.toNat (getD ([48,49,50,51,52,53,54,55,56,57,65,66,67,68,69,70]:List UInt8) (Int.toNat (shr u8 s0 (4:Int))) (0:UInt8))):Nat):Int),(((UInt8.toNat (getD ([48,49,50,51,52,53,54,55,56,57,65,66,67,68,69,70]:List UInt8) (Int.toNat (bits Go.BinOp.and u8 s0 (15:Int))) (0:UInt8))):Nat):Int)]:List Int))
 else
 none
 else
 none
 else
 none:=by unfold Z82; rewrite [Y8]; kernel_rfl
theorem YCi (x:(List D181)):YY7 x=
 Z92 x:=by kernel_rfl
theorem YYe (s0:(List D181)):Z92 s0=
 Za2 s0 s0 (((length s0):Nat):Int) (0:Int):=by unfold Z92; rewrite [Y8]; kernel_rfl
theorem Y3f (s0:(List D181)) (s1:(List D181)) (s2:Int) (s3:Int):Za2 s0 s1 s2 s3=
 bif (decide (s3 < s2)) then
 bif (Yb s3 (length s1)) then
 (YN5 (([]:List Int),(getD s1 (Int.toNat s3) (Ty.zero T181)).2.2.1)).bind fun y0=>
 Zb2 s0 s1 s2 (wrap i64 (s3+1)) y0
 else
 none
 else
 some (Yx ([]:List Int)):=by unfold Za2; rewrite [Y8]; kernel_rfl
theorem YY9 (s0:(List D181)) (s1:(List D181)) (s2:Int) (s3:Int) (r4:List Int):Zb2 s0 s1 s2 s3 r4=
 bif (decide (s3 < s2)) then
 bif (Yb s3 (length s1)) then
 (YN5 (r4,(getD s1 (Int.toNat s3) (Ty.zero T181)).2.2.1)).bind fun y0=>
 Zb2 s0 s1 s2 (wrap i64 (s3+1)) y0
 else
 none
 else
 some (Yx r4):=by unfold Zb2; rewrite [Y8]; kernel_rfl
theorem Yxi (x:List UInt8):YW7 x=
 Zc2 x:=by kernel_rfl
theorem Y8f (s0:List UInt8):Zc2 s0=
 Zd2 s0 (0:Int) ([]:List D181):=by unfold Zc2; rewrite [Y8]; kernel_rfl
theorem Y3a (s0:List UInt8) (s1:Int) (r2:List D181):Zd2 s0 s1 r2=
 bif (decide (s1 < (((length s0):Nat):Int))) then
 (YR5 (s0,s1)).bind fun y0=>
 bif y0.2.2.2 then
 bif (Yh (some s1) none (length s0)) then
 (YZ7 (Yn (some s1) none s0)).bind fun y1=>
 Ze2 s0 s1 (y0.1,(y1,y0.2.2)) r2
 else
 none
 else
 Ze2 s0 s1 y0 r2
 else
 some r2:=by unfold Zd2; rewrite [Y8]; kernel_rfl
theorem Yff (s0:List UInt8) (s1:Int) (b2:D181) (r3:List D181):Ze2 s0 s1 b2 r3=
 bif (decide (((length r3)+(length ([b2]:List D181)))<=(lim))) then
 Zd2 s0 (wrap i64 (s1+b2.2.1)) (r3++([b2]:List D181))
 else
 none:=by unfold Ze2; rewrite [Y8]; kernel_rfl
theorem YKh (x:(List UInt8×Int)):YJ7 x=
 Zf2 x.1 x.2:=by kernel_rfl
theorem Yjf (s0:List UInt8) (s1:Int):Zf2 s0 s1=
 bif (decide ((wrap i64 (s1+2))>=(((length s0):Nat):Int))) then
 some (-(1:Int))
 else
 bif (Yb s1 (length s0)) then
 bif ((((UInt8.toNat (getD s0 (Int.toNat s1) (0:UInt8))):Nat):Int) !=37) then
 some (-(1:Int))
 else
 bif (Yb (wrap i64 (s1+1)) (length s0)) then
 bif (Yb (wrap i64 (s1+2)) (length s0)) then
 (YF5 (((UInt8.toNat (getD s0 (Int.toNat (wrap i64 (s1+1))) (0:UInt8))):Nat):Int)).bind fun y0=>
 (YF5 (((UInt8.toNat (getD s0 (Int.toNat (wrap i64 (s1+2))) (0:UInt8))):Nat):Int)).bind fun y1=>
 bif (decide (y0 < 0)) then
 some (-(1:Int))
 else
 bif (decide (y1 < 0)) then
 some (-(1:Int))
 else
 some (bits Go.BinOp.or i64 (shl i64 y0 (4:Int)) y1)
 else
 none
 else
 none
 else
 none:=by unfold Zf2; rewrite [Y8]; kernel_rfl
theorem Ysi (x:List UInt8):YBb x=Yo4 x:=by kernel_rfl
theorem Y3h (x:Int):YXa x=
 Zg2 x:=by kernel_rfl
theorem Ymf (s0:Int):Zg2 s0=
 some (decide (s0 > 127)):=by unfold Zg2; rewrite [Y8]; kernel_rfl
theorem YPh (x:List UInt8):YM7 x=
 Zh2 x:=by kernel_rfl
theorem Yqf (s0:List UInt8):Zh2 s0=
 (YP5 s0).bind fun y0=>
 bif (!y0.1) then
 some (([]:List UInt8),(21:Int))
 else
 bif (decide ((((length s0):Nat):Int) > 65536)) then
 some (([]:List UInt8),(5:Int))
 else
 bif (decide ((length s0)<=(lim))) then
 Zi2 s0 (((length (Yu s0)):Nat):Int) (0:Int) (Yu s0) ([]:List Int)
 else
 none:=by unfold Zh2; rewrite [Y8]; kernel_rfl
theorem Y8a (s0:List UInt8) (s1:Int) (s2:Int) (r3:List Int) (r4:List Int):Zi2 s0 s1 s2 r3 r4=
 bif (decide (s2 < s1)) then
 bif (Yb s2 (length r3)) then
 bif (decide ((getD r3 (Int.toNat s2) (Ty.zero (.int .i32))) < 128)) then
 bif (decide (((length r4)+(length ([(wrap u8 (getD r3 (Int.toNat s2) (Ty.zero (.int .i32))))]:List Int)))<=(lim))) then
 Zi2 s0 s1 (wrap i64 (s2+1)) r3 (r4++([(wrap u8 (getD r3 (Int.toNat s2) (Ty.zero (.int .i32))))]:List Int))
 else
 none
 else
 Zi2 s0 s1 (wrap i64 (s2+1)) r3 r4
 else
 none
 else
 bif (decide ((((length r4):Nat):Int) > 0)) then
 bif (decide (((length r4)+(length ([45]:List Int)))<=(lim))) then
 Zj2 s0 (((length r4):Nat):Int) (((length r4):Nat):Int) r3 (r4++([45]:List Int))
 else
 none
 else
 Zj2 s0 (((length r4):Nat):Int) (((length r4):Nat):Int) r3 r4:=by unfold Zi2; rewrite [Y8]; kernel_rfl
theorem Yxf (s0:List UInt8) (s1:Int) (s2:Int) (r3:List Int) (r4:List Int):Zj2 s0 s1 s2 r3 r4=
 Zk2 s0 s1 s2 (128:Int) (72:Int) (0:Int) r3 r4:=by unfold Zj2; rewrite [Y8]; kernel_rfl
theorem Yaa (s0:List UInt8) (s1:Int) (s2:Int) (s3:Int) (s4:Int) (s5:Int) (r6:List Int) (r7:List Int):Zk2 s0 s1 s2 s3 s4 s5 r6 r7=
 bif (decide (s1 < (((length r6):Nat):Int))) then
 Zl2 s0 s1 s2 s3 s4 s5 (1114112:Int) (((length r6):Nat):Int) (0:Int) r6 r7
 else
 (YI5 (Yx r7)).bind fun y0=>
 bif (y0.2.1==32) then
 some (([]:List UInt8),y0.2.1)
 else
 some ((Yx r7),(0:Int)):=by unfold Zk2; rewrite [Y8]; kernel_rfl
theorem Yea (s0:List UInt8) (s1:Int) (s2:Int) (s3:Int) (s4:Int) (s5:Int) (s6:Int) (s7:Int) (s8:Int) (r9:List Int) (r10:List Int):Zl2 s0 s1 s2 s3 s4 s5 s6 s7 s8 r9 r10=
 bif (decide (s8 < s7)) then
 bif (Yb s8 (length r9)) then
 bif (decide ((getD r9 (Int.toNat s8) (Ty.zero (.int .i32)))>=s3)) then
 bif (decide ((getD r9 (Int.toNat s8) (Ty.zero (.int .i32))) < s6)) then
 Zl2 s0 s1 s2 s3 s4 s5 (getD r9 (Int.toNat s8) (Ty.zero (.int .i32))) s7 (wrap i64 (s8+1)) r9 r10
 else
 Zl2 s0 s1 s2 s3 s4 s5 s6 s7 (wrap i64 (s8+1)) r9 r10
 else
 Zl2 s0 s1 s2 s3 s4 s5 s6 s7 (wrap i64 (s8+1)) r9 r10
 else
 none
 else
 Zm2 s0 s1 s2 s6 s4 (wrap i64 (s5+(wrap i64 ((wrap i64 (wrap i32 (s6 - s3)))*(wrap i64 (s1+1)))))) (((length r9):Nat):Int) (0:Int) r9 r10:=by unfold Zl2; rewrite [Y8]; kernel_rfl
theorem Yga (s0:List UInt8) (s1:Int) (s2:Int) (s3:Int) (s4:Int) (s5:Int) (s6:Int) (s7:Int) (r8:List Int) (r9:List Int):Zm2 s0 s1 s2 s3 s4 s5 s6 s7 r8 r9=
 bif (decide (s7 < s6)) then
 bif (Yb s7 (length r8)) then
 bif (decide ((getD r8 (Int.toNat s7) (Ty.zero (.int .i32))) < s3)) then
 Zn2 s0 s1 s2 s3 s4 (wrap i64 (s5+1)) (getD r8 (Int.toNat s7) (Ty.zero (.int .i32))) s6 s7 r8 r9
 else
 Zn2 s0 s1 s2 s3 s4 s5 (getD r8 (Int.toNat s7) (Ty.zero (.int .i32))) s6 s7 r8 r9
 else
 none
 else
 Zk2 s0 s1 s2 (wrap i32 (s3+1)) s4 (wrap i64 (s5+1)) r8 r9:=by unfold Zm2; rewrite [Y8]; kernel_rfl
theorem Yia (s0:List UInt8) (s1:Int) (s2:Int) (s3:Int) (s4:Int) (s5:Int) (s6:Int) (s7:Int) (s8:Int) (r9:List Int) (r10:List Int):Zn2 s0 s1 s2 s3 s4 s5 s6 s7 s8 r9 r10=
 bif (s6==s3) then
 (YN7 (r10,(s5,s4))).bind fun y0=>
 (YE4 (s5,((wrap i64 (s1+1)),(s1==s2)))).bind fun y1=>
 Zm2 s0 (wrap i64 (s1+1)) s2 s3 y1 (0:Int) s7 (wrap i64 (s8+1)) r9 y0
 else
 Zm2 s0 s1 s2 s3 s4 s5 s7 (wrap i64 (s8+1)) r9 r10:=by unfold Zn2; rewrite [Y8]; kernel_rfl
theorem Yoi (x:(List UInt8×(Unit×Bool))):Yvb x=
 Zo2 x.1 x.2.1 x.2.2:=by kernel_rfl
theorem YMf (s0:List UInt8) (s1:Unit) (s2:Bool):Zo2 s0 s1 s2=
 Zp2 s0 s1 s2 s0 0:=by unfold Zo2; rewrite [Y8]; kernel_rfl
theorem Yla (s0:List UInt8) (s1:Unit) (s2:Bool) (t3:List UInt8) (n4:Nat):Zp2 s0 s1 s2 t3 n4=
 bif (decide (n4 < (length t3))) then
 (YXa (((Yp t3 n4).1:Nat):Int)).bind fun y0=>
 bif (y0==s2) then
 some ((n4:Nat):Int)
 else
 Zp2 s0 s1 s2 t3 (n4+(Yp t3 n4).2)
 else
 some (-(1:Int)):=by unfold Zp2; rewrite [Y8]; kernel_rfl
theorem Yni (x:(List UInt8×(Unit×Bool))):Yxb x=
 Zq2 x.1 x.2.1 x.2.2:=by kernel_rfl
theorem YTf (s0:List UInt8) (s1:Unit) (s2:Bool):Zq2 s0 s1 s2=
 Zr2 s0 s1 s2 s0 0:=by unfold Zq2; rewrite [Y8]; kernel_rfl
theorem Yoa (s0:List UInt8) (s1:Unit) (s2:Bool) (t3:List UInt8) (n4:Nat):Zr2 s0 s1 s2 t3 n4=
 bif (decide (n4 < (length t3))) then
 (Yib (((Yp t3 n4).1:Nat):Int)).bind fun y0=>
 bif (y0==s2) then
 some ((n4:Nat):Int)
 else
 Zr2 s0 s1 s2 t3 (n4+(Yp t3 n4).2)
 else
 some (-(1:Int)):=by unfold Zr2; rewrite [Y8]; kernel_rfl
theorem Ymi (x:(List UInt8×(Unit×Bool))):Ywb x=
 Zs2 x.1 x.2.1 x.2.2:=by kernel_rfl
theorem YYf (s0:List UInt8) (s1:Unit) (s2:Bool):Zs2 s0 s1 s2=
 Zt2 s0 s1 s2 s0 0:=by unfold Zs2; rewrite [Y8]; kernel_rfl
theorem Yqa (s0:List UInt8) (s1:Unit) (s2:Bool) (t3:List UInt8) (n4:Nat):Zt2 s0 s1 s2 t3 n4=
 bif (decide (n4 < (length t3))) then
 (YA5 (((Yp t3 n4).1:Nat):Int)).bind fun y0=>
 bif (y0==s2) then
 some ((n4:Nat):Int)
 else
 Zt2 s0 s1 s2 t3 (n4+(Yp t3 n4).2)
 else
 some (-(1:Int)):=by unfold Zt2; rewrite [Y8]; kernel_rfl
theorem Ylh (x:(List UInt8×List UInt8)):Y6b x=
 Zu2 x.1 x.2:=by kernel_rfl
theorem Y5g (s0:List UInt8) (s1:List UInt8):Zu2 s0 s1=
 bif (decide ((((length s0):Nat):Int)>=(((length s1):Nat):Int))) then
 bif (Yh (some (wrap i64 ((((length s0):Nat):Int) - (((length s1):Nat):Int)))) none (length s0)) then
 some ((Yn (some (wrap i64 ((((length s0):Nat):Int) - (((length s1):Nat):Int)))) none s0)==s1)
 else
 none
 else
 some false:=by unfold Zu2; rewrite [Y8]; kernel_rfl
theorem YXh (x:List UInt8):YI5 x=
 Zv2 x:=by kernel_rfl
theorem Y8g (s0:List UInt8):Zv2 s0=
 Zw2 s0 (((length s0):Nat):Int) (0:Int):=by unfold Zv2; rewrite [Y8]; kernel_rfl
theorem Yta (s0:List UInt8) (s1:Int) (s2:Int):Zw2 s0 s1 s2=
 bif (decide (s2 < s1)) then
 bif (Yb s2 (length s0)) then
 bif (decide ((((UInt8.toNat (getD s0 (Int.toNat s2) (0:UInt8))):Nat):Int) > 127)) then
 some (([]:List UInt8),((31:Int),s2))
 else
 Zw2 s0 s1 (wrap i64 (s2+1))
 else
 none
 else
 (YU7 (s0,(45:Int))).bind fun y0=>
 bif (decide ((wrap i64 (y0+1)) > 0)) then
 bif (Yh none (some (wrap i64 ((wrap i64 (y0+1)) - 1))) (length s0)) then
 bif (decide ((length (Yn none (some (wrap i64 ((wrap i64 (y0+1)) - 1))) s0))<=(lim))) then
 Zx2 s0 (wrap i64 (y0+1)) (Yu (Yn none (some (wrap i64 ((wrap i64 (y0+1)) - 1))) s0))
 else
 none
 else
 none
 else
 Zy2 s0 (wrap i64 (y0+1)):=by unfold Zw2; rewrite [Y8]; kernel_rfl
theorem Ycg (s0:List UInt8) (s1:Int) (r2:List Int):Zx2 s0 s1 r2=
 Zz2 s0 s1 (((length r2):Nat):Int) (0:Int) (128:Int) (72:Int) r2:=by unfold Zx2; rewrite [Y8]; kernel_rfl
theorem Yeg (s0:List UInt8) (s1:Int):Zy2 s0 s1=
 Z03 s0 s1 ((0:Nat):Int) (0:Int) (128:Int) (72:Int):=by unfold Zy2; rewrite [Y8]; kernel_rfl
theorem Ys5 (s0:List UInt8) (s1:Int) (s2:Int) (s3:Int) (s4:Int) (s5:Int) (r6:List Int):Zz2 s0 s1 s2 s3 s4 s5 r6=
 bif (decide (s1 < (((length s0):Nat):Int))) then
 (YJ5 (s0,(s1,(s3,s5)))).bind fun y0=>
 bif (y0.2.2.1 !=0) then
 some (([]:List UInt8),(y0.2.2.1,y0.2.2.2))
 else
 (YE4 ((wrap i64 (y0.1 - s3)),((wrap i64 ((((length r6):Nat):Int)+1)),((((length r6):Nat):Int)==s2)))).bind fun y1=>
 bif ((wrap i64 ((((length r6):Nat):Int)+1)) !=0) then
 bif (decide ((wrap i64 (s4+(wrap i64 (Int.tdiv y0.1 (wrap i64 ((((length r6):Nat):Int)+1)))))) > 1114111)) then
 some (([]:List UInt8),((32:Int),s1))
 else
 bif (decide ((wrap i64 (s4+(wrap i64 (Int.tdiv y0.1 (wrap i64 ((((length r6):Nat):Int)+1))))))>=55296)) then
 bif (decide ((wrap i64 (s4+(wrap i64 (Int.tdiv y0.1 (wrap i64 ((((length r6):Nat):Int)+1))))))<=57343)) then
 some (([]:List UInt8),((32:Int),s1))
 else
 bif ((wrap i64 ((((length r6):Nat):Int)+1)) !=0) then
 (Yi3 (r6,((Int.tmod y0.1 (wrap i64 ((((length r6):Nat):Int)+1))),([(wrap i32 (wrap i64 (s4+(wrap i64 (Int.tdiv y0.1 (wrap i64 ((((length r6):Nat):Int)+1)))))))]:List Int)))).bind fun y2=>
 Zz2 s0 y0.2.1 s2 (wrap i64 ((Int.tmod y0.1 (wrap i64 ((((length r6):Nat):Int)+1)))+1)) (wrap i64 (s4+(wrap i64 (Int.tdiv y0.1 (wrap i64 ((((length r6):Nat):Int)+1)))))) y1 y2
 else
 none
 else
 bif ((wrap i64 ((((length r6):Nat):Int)+1)) !=0) then
 (Yi3 (r6,((Int.tmod y0.1 (wrap i64 ((((length r6):Nat):Int)+1))),([(wrap i32 (wrap i64 (s4+(wrap i64 (Int.tdiv y0.1 (wrap i64 ((((length r6):Nat):Int)+1)))))))]:List Int)))).bind fun y2=>
 Zz2 s0 y0.2.1 s2 (wrap i64 ((Int.tmod y0.1 (wrap i64 ((((length r6):Nat):Int)+1)))+1)) (wrap i64 (s4+(wrap i64 (Int.tdiv y0.1 (wrap i64 ((((length r6):Nat):Int)+1)))))) y1 y2
 else
 none
 else
 none
 else
 some ((Y43 r6),((0:Int),(0:Int))):=by unfold Zz2; rewrite [Y8]; kernel_rfl
theorem Ywe (s0:List UInt8) (s1:Int) (s2:Int) (s3:Int) (s4:Int) (s5:Int):Z03 s0 s1 s2 s3 s4 s5=
 bif (decide (s1 < (((length s0):Nat):Int))) then
 (YJ5 (s0,(s1,(s3,s5)))).bind fun y0=>
 bif (y0.2.2.1 !=0) then
 some (([]:List UInt8),(y0.2.2.1,y0.2.2.2))
 else
 (YE4 ((wrap i64 (y0.1 - s3)),((wrap i64 (((0:Nat):Int)+1)),(((0:Nat):Int)==s2)))).bind fun y1=>
 bif (decide ((wrap i64 (s4+(wrap i64 (Int.tdiv y0.1 (wrap i64 (((0:Nat):Int)+1)))))) > 1114111)) then
 some (([]:List UInt8),((32:Int),s1))
 else
 bif (decide ((wrap i64 (s4+(wrap i64 (Int.tdiv y0.1 (wrap i64 (((0:Nat):Int)+1))))))>=55296)) then
 bif (decide ((wrap i64 (s4+(wrap i64 (Int.tdiv y0.1 (wrap i64 (((0:Nat):Int)+1))))))<=57343)) then
 some (([]:List UInt8),((32:Int),s1))
 else
 (Yi3 (([]:List Int),((Int.tmod y0.1 (wrap i64 (((0:Nat):Int)+1))),([(wrap i32 (wrap i64 (s4+(wrap i64 (Int.tdiv y0.1 (wrap i64 (((0:Nat):Int)+1)))))))]:List Int)))).bind fun y2=>
 Zz2 s0 y0.2.1 s2 (wrap i64 ((Int.tmod y0.1 (wrap i64 (((0:Nat):Int)+1)))+1)) (wrap i64 (s4+(wrap i64 (Int.tdiv y0.1 (wrap i64 (((0:Nat):Int)+1)))))) y1 y2
 else
 (Yi3 (([]:List Int),((Int.tmod y0.1 (wrap i64 (((0:Nat):Int)+1))),([(wrap i32 (wrap i64 (s4+(wrap i64 (Int.tdiv y0.1 (wrap i64 (((0:Nat):Int)+1)))))))]:List Int)))).bind fun y2=>
 Zz2 s0 y0.2.1 s2 (wrap i64 ((Int.tmod y0.1 (wrap i64 (((0:Nat):Int)+1)))+1)) (wrap i64 (s4+(wrap i64 (Int.tdiv y0.1 (wrap i64 (((0:Nat):Int)+1)))))) y1 y2
 else
 some ((Y43 ([]:List Int)),((0:Int),(0:Int))):=by unfold Z03; rewrite [Y8]; kernel_rfl
theorem YVh (x:Int):Yib x=
 Z13 x:=by kernel_rfl
theorem Yze (s0:Int):Z13 s0=
 some (decide (s0 > 127)):=by unfold Z13; rewrite [Y8]; kernel_rfl
theorem Yti (x:Int):YO5 x=
 Z23 x:=by kernel_rfl
theorem YBe (s0:Int):Z23 s0=
 bif (decide ((0:Int)<=s0)) then
 bif (decide (s0 < 55296)) then
 some true
 else
 bif (decide ((57343:Int) < s0)) then
 bif (decide (s0<=1114111)) then
 some true
 else
 some false
 else
 some false
 else
 bif (decide ((57343:Int) < s0)) then
 bif (decide (s0<=1114111)) then
 some true
 else
 some false
 else
 some false:=by unfold Z23; rewrite [Y8]; kernel_rfl
theorem Yqi (x:((List Int)×Int)):YN5 x=
 Z33 x.2 x.1:=by kernel_rfl
theorem YEe (s0:Int) (r1:List Int):Z33 s0 r1=
 bif (decide ((wrap u32 s0)<=127)) then
 bif (decide (((length r1)+(length ([(wrap u8 s0)]:List Int)))<=(lim))) then
 some (r1++([(wrap u8 s0)]:List Int))
 else
 none
 else
 (YCb (r1,s0)).bind fun y0=>
 some y0:=by unfold Z33; rewrite [Y8]; kernel_rfl
theorem YEi (x:List UInt8):YZ7 x=
 Z43 x:=by kernel_rfl
theorem YHe (s0:List UInt8):Z43 s0=
 bif (Yb (0:Int) (length s0)) then
 (YX7 (((UInt8.toNat (getD s0 (Int.toNat (0:Int)) (0:UInt8))):Nat):Int)).bind fun y0=>
 Z53 s0 y0.1 y0.2.1 y0.2.2 (1:Int)
 else
 none:=by unfold Z43; rewrite [Y8]; kernel_rfl
theorem YS9 (s0:List UInt8) (s1:Int) (s2:Int) (s3:Int) (s4:Int):Z53 s0 s1 s2 s3 s4=
 bif (decide (s4 < (wrap i64 (s3 - 1)))) then
 bif (decide (s4 < (((length s0):Nat):Int))) then
 bif (Yb s4 (length s0)) then
 bif (decide ((((UInt8.toNat (getD s0 (Int.toNat s4) (0:UInt8))):Nat):Int)>=s1)) then
 bif (Yb s4 (length s0)) then
 bif (decide ((((UInt8.toNat (getD s0 (Int.toNat s4) (0:UInt8))):Nat):Int)<=s2)) then
 Z53 s0 (128:Int) (191:Int) s3 (wrap i64 (s4+1))
 else
 some s4
 else
 none
 else
 some s4
 else
 none
 else
 some s4
 else
 some s4:=by unfold Z53; rewrite [Y8]; kernel_rfl
theorem YJh (x:Int):YF5 x=
 Z63 x:=by kernel_rfl
theorem YNe (s0:Int):Z63 s0=
 (Yk3 (([48,49,50,51,52,53,54,55,56,57,65,66,67,68,69,70]:List UInt8),s0)).bind fun y0=>
 bif (decide (y0>=0)) then
 some y0
 else
 bif (decide (s0>=97)) then
 bif (decide (s0<=102)) then
 some (wrap i64 ((wrap i64 (wrap u8 (s0 - 97)))+10))
 else
 some (-(1:Int))
 else
 some (-(1:Int)):=by unfold Z63; rewrite [Y8]; kernel_rfl
theorem YYh (x:((List Int)×(Int×Int))):YN7 x=
 Z73 x.2.1 x.2.2 x.1:=by kernel_rfl
theorem YSe (s0:Int) (s1:Int) (r2:List Int):Z73 s0 s1 r2=
 Z83 s0 s1 (36:Int) r2:=by unfold Z73; rewrite [Y8]; kernel_rfl
theorem YV9 (s0:Int) (s1:Int) (s2:Int) (r3:List Int):Z83 s0 s1 s2 r3=
 (YK5 (s2,s1)).bind fun y0=>
 bif (decide (s0 < y0)) then
 bif (Yb s0 (length ([97,98,99,100,101,102,103,104,105,106,107,108,109,110,111,112,113,114,115,116,117,118,119,120,121,122,48,49,50,51,52,53,54,55,56,57]:List UInt8))) then
 bif (decide (((length r3)+(length ([(((UInt8.toNat (getD ([97,98,99,100,101,102,103,104,105,106,107,108,109,110,111,112,113,114,115,116,117,118,119,120,121,122,48,49,50,51,52,53,54,55,56,57]:List UInt8) (Int.toNat s0) (0:UInt8))):Nat):Int)]:List Int)))<=(lim))) then
 some (r3++([(((UInt8.toNat (getD ([97,98,99,100,101,102,103,104,105,106,107,108,109,110,111,112,113,114,115,116,117,118,119,120,121,122,48,49,50,51,52,53,54,55,56,57]:List UInt8) (Int.toNat s0) (0:UInt8))):Nat):Int)]:List Int))
 else
 none
 else
 none
 else
 bif ((wrap i64 ((36:Int) - y0)) !=0) then
 bif (Yb (wrap i64 (y0+(Int.tmod (wrap i64 (s0 - y0)) (wrap i64 ((36:Int) - y0))))) (length ([97,98,99,100,101,102,103,104,105,106,107,108,109,110,111,112,113,114,115,116,117,118,119,120,121,122,48,49,50,51,52,53,54,55,56,57]:List UInt8))) then
 bif (decide (((length r3)+(length ([(((UInt8.toNat (getD ([97,98,99,100,101,102,103,104,105,106,107,108,109,110,111,112,113,114,115,116,117,118,119,120,121,122,48,49,50,51,52,53,54,55,56,57]:List UInt8) (Int.toNat (wrap i64 (y0+(Int.tmod (wrap i64 (s0 - y0)) (wrap i64 ((36:Int) - y0)))))) (0:UInt8))):Nat):Int)]:List Int)))<=(lim))) then
 bif ((wrap i64 ((36:Int) - y0)) !=0) then
 Z83 (wrap i64 (Int.tdiv (wrap i64 (s0 - y0)) (wrap i64 ((36:Int) - y0)))) s1 (wrap i64 (s2+36)) (r3++([(((UInt8.toNat (getD ([97,98,99,100,101,102,103,104,105,106,107,108,109,110,111,112,113,114,115,116,117,118,119,120,121,122,48,49,50,51,52,53,54,55,56,57]:List UInt8) (Int.toNat (wrap i64 (y0+(Int.tmod (wrap i64 (s0 - y0)) (wrap i64 ((36:Int) - y0)))))) (0:UInt8))):Nat):Int)]:List Int))
 else
 none
 else
 none
 else
 none
 else
 none:=by unfold Z83; rewrite [Y8]; kernel_rfl
theorem YUh (x:(Int×(Int×Bool))):YE4 x=
 Z93 x.1 x.2.1 x.2.2:=by kernel_rfl
theorem YZe (s0:Int) (s1:Int) (s2:Bool):Z93 s0 s1 s2=
 bif s2 then
 Za3 (wrap i64 (Int.tdiv s0 (700:Int))) s1 s2
 else
 Za3 (wrap i64 (Int.tdiv s0 (2:Int))) s1 s2:=by unfold Z93; rewrite [Y8]; kernel_rfl
theorem Y4f (s0:Int) (s1:Int) (s2:Bool):Za3 s0 s1 s2=
 bif (s1 !=0) then
 Zb3 (wrap i64 (s0+(wrap i64 (Int.tdiv s0 s1)))) s1 s2 (0:Int)
 else
 none:=by unfold Za3; rewrite [Y8]; kernel_rfl
theorem YZ9 (s0:Int) (s1:Int) (s2:Bool) (s3:Int):Zb3 s0 s1 s2 s3=
 bif (decide (s0 > 455)) then
 Zb3 (wrap i64 (Int.tdiv s0 (35:Int))) s1 s2 (wrap i64 (s3+36))
 else
 bif ((wrap i64 (s0+38)) !=0) then
 some (wrap i64 (s3+(wrap i64 (Int.tdiv (wrap i64 ((36:Int)*s0)) (wrap i64 (s0+38))))))
 else
 none:=by unfold Zb3; rewrite [Y8]; kernel_rfl
theorem Yji (x:(List UInt8×Int)):YU7 x=
 Zc3 x.1 x.2:=by kernel_rfl
theorem Y9f (s0:List UInt8) (s1:Int):Zc3 s0 s1=
 (Y3b (s0,s1)).bind fun y0=>
 some y0:=by unfold Zc3; rewrite [Y8]; kernel_rfl
theorem Y0i (x:(List UInt8×(Int×(Int×Int)))):YJ5 x=
 Zd3 x.1 x.2.1 x.2.2.1 x.2.2.2:=by kernel_rfl
theorem Ybf (s0:List UInt8) (s1:Int) (s2:Int) (s3:Int):Zd3 s0 s1 s2 s3=
 Ze3 s0 s1 s2 s3 s1 (1:Int) (36:Int):=by unfold Zd3; rewrite [Y8]; kernel_rfl
theorem Y4a (s0:List UInt8) (s1:Int) (s2:Int) (s3:Int) (s4:Int) (s5:Int) (s6:Int):Ze3 s0 s1 s2 s3 s4 s5 s6=
 bif (s1==(((length s0):Nat):Int)) then
 some ((0:Int),((0:Int),((31:Int),s1)))
 else
 bif (Yb s1 (length s0)) then
 (Yk3 (([97,98,99,100,101,102,103,104,105,106,107,108,109,110,111,112,113,114,115,116,117,118,119,120,121,122,48,49,50,51,52,53,54,55,56,57]:List UInt8),(((UInt8.toNat (getD s0 (Int.toNat s1) (0:UInt8))):Nat):Int))).bind fun y0=>
 bif (Yb s1 (length s0)) then
 bif (decide (y0 < 0)) then
 bif (decide ((bits Go.BinOp.or u8 (((UInt8.toNat (getD s0 (Int.toNat s1) (0:UInt8))):Nat):Int) (32:Int))>=97)) then
 bif (decide ((bits Go.BinOp.or u8 (((UInt8.toNat (getD s0 (Int.toNat s1) (0:UInt8))):Nat):Int) (32:Int))<=122)) then
 Zf3 s0 s1 s2 s3 s4 s5 s6 (wrap i64 (wrap u8 ((bits Go.BinOp.or u8 (((UInt8.toNat (getD s0 (Int.toNat s1) (0:UInt8))):Nat):Int) (32:Int)) - 97)))
 else
 Zf3 s0 s1 s2 s3 s4 s5 s6 y0
 else
 Zf3 s0 s1 s2 s3 s4 s5 s6 y0
 else
 Zf3 s0 s1 s2 s3 s4 s5 s6 y0
 else
 none
 else
 none:=by unfold Ze3; rewrite [Y8]; kernel_rfl
theorem Ykf (s0:List UInt8) (s1:Int) (s2:Int) (s3:Int) (s4:Int) (s5:Int) (s6:Int) (s7:Int):Zf3 s0 s1 s2 s3 s4 s5 s6 s7=
 bif (decide (s7 < 0)) then
 some ((0:Int),((0:Int),((31:Int),s1)))
 else
 bif (decide ((wrap i64 (s2+(wrap i64 (s7*s5)))) > 2147483647)) then
 some ((0:Int),((0:Int),((32:Int),s4)))
 else
 (YK5 (s6,s3)).bind fun y0=>
 bif (decide (s7 < y0)) then
 some ((wrap i64 (s2+(wrap i64 (s7*s5)))),((wrap i64 (s1+1)),((0:Int),(0:Int))))
 else
 bif (decide ((wrap i64 (s5*(wrap i64 ((36:Int) - y0)))) > 2147483647)) then
 some ((0:Int),((0:Int),((32:Int),s4)))
 else
 Ze3 s0 (wrap i64 (s1+1)) (wrap i64 (s2+(wrap i64 (s7*s5)))) s3 s4 (wrap i64 (s5*(wrap i64 ((36:Int) - y0)))) (wrap i64 (s6+36)):=by unfold Zf3; rewrite [Y8]; kernel_rfl
theorem Y6i (x:((List Int)×(Int×(List Int)))):Yi3 x=YE3 x:=by kernel_rfl
theorem Yui (x:((List Int)×Int)):YCb x=
 Zg3 x.2 x.1:=by kernel_rfl
theorem Ynf (s0:Int) (r1:List Int):Zg3 s0 r1=
 bif (decide ((wrap u32 s0)<=2047)) then
 bif (decide (((length r1)+(length ([(bits Go.BinOp.or u8 (192:Int) (wrap u8 (shr i32 s0 (6:Int)))),(bits Go.BinOp.or u8 (128:Int) (bits Go.BinOp.and u8 (wrap u8 s0) (63:Int)))]:List Int)))<=(lim))) then
 some (r1++([(bits Go.BinOp.or u8 (192:Int) (wrap u8 (shr i32 s0 (6:Int)))),(bits Go.BinOp.or u8 (128:Int) (bits Go.BinOp.and u8 (wrap u8 s0) (63:Int)))]:List Int))
 else
 none
 else
 bif (decide ((wrap u32 s0) < 55296)) then
 Zh3 s0 (wrap u32 s0) (decide ((wrap u32 s0) < 55296)) r1
 else
 bif (decide ((57343:Int) < (wrap u32 s0))) then
 Zh3 s0 (wrap u32 s0) (decide ((wrap u32 s0)<=65535)) r1
 else
 Zh3 s0 (wrap u32 s0) false r1:=by unfold Zg3; rewrite [Y8]; kernel_rfl
theorem Y7a (s0:Int) (s1:Int) (s2:Bool) (r3:List Int):Zh3 s0 s1 s2 r3=
 bif s2 then
 bif (decide (((length r3)+(length ([(bits Go.BinOp.or u8 (224:Int) (wrap u8 (shr i32 s0 (12:Int)))),(bits Go.BinOp.or u8 (128:Int) (bits Go.BinOp.and u8 (wrap u8 (shr i32 s0 (6:Int))) (63:Int))),(bits Go.BinOp.or u8 (128:Int) (bits Go.BinOp.and u8 (wrap u8 s0) (63:Int)))]:List Int)))<=(lim))) then
 some (r3++([(bits Go.BinOp.or u8 (224:Int) (wrap u8 (shr i32 s0 (12:Int)))),(bits Go.BinOp.or u8 (128:Int) (bits Go.BinOp.and u8 (wrap u8 (shr i32 s0 (6:Int))) (63:Int))),(bits Go.BinOp.or u8 (128:Int) (bits Go.BinOp.and u8 (wrap u8 s0) (63:Int)))]:List Int))
 else
 none
 else
 bif (decide (s1 > 65535)) then
 bif (decide (s1<=1114111)) then
 bif (decide (((length r3)+(length ([(bits Go.BinOp.or u8 (240:Int) (wrap u8 (shr i32 s0 (18:Int)))),(bits Go.BinOp.or u8 (128:Int) (bits Go.BinOp.and u8 (wrap u8 (shr i32 s0 (12:Int))) (63:Int))),(bits Go.BinOp.or u8 (128:Int) (bits Go.BinOp.and u8 (wrap u8 (shr i32 s0 (6:Int))) (63:Int))),(bits Go.BinOp.or u8 (128:Int) (bits Go.BinOp.and u8 (wrap u8 s0) (63:Int)))]:List Int)))<=(lim))) then
 some (r3++([(bits Go.BinOp.or u8 (240:Int) (wrap u8 (shr i32 s0 (18:Int)))),(bits Go.BinOp.or u8 (128:Int) (bits Go.BinOp.and u8 (wrap u8 (shr i32 s0 (12:Int))) (63:Int))),(bits Go.BinOp.or u8 (128:Int) (bits Go.BinOp.and u8 (wrap u8 (shr i32 s0 (6:Int))) (63:Int))),(bits Go.BinOp.or u8 (128:Int) (bits Go.BinOp.and u8 (wrap u8 s0) (63:Int)))]:List Int))
 else
 none
 else
 bif (decide (((length r3)+(length ([239,191,189]:List Int)))<=(lim))) then
 some (r3++([239,191,189]:List Int))
 else
 none
 else
 bif (decide (((length r3)+(length ([239,191,189]:List Int)))<=(lim))) then
 some (r3++([239,191,189]:List Int))
 else
 none:=by unfold Zh3; rewrite [Y8]; kernel_rfl
theorem YAi (x:Int):YX7 x=
 Zi3 x:=by kernel_rfl
theorem Yuf (s0:Int):Zi3 s0=
 bif (decide (s0>=194)) then
 bif (decide (s0<=223)) then
 some ((128:Int),((191:Int),(2:Int)))
 else
 bif (s0==224) then
 some ((160:Int),((191:Int),(3:Int)))
 else
 bif (s0==237) then
 some ((128:Int),((159:Int),(3:Int)))
 else
 bif (decide (s0>=225)) then
 bif (decide (s0<=239)) then
 some ((128:Int),((191:Int),(3:Int)))
 else
 bif (s0==240) then
 some ((144:Int),((191:Int),(4:Int)))
 else
 bif (decide (s0>=241)) then
 bif (decide (s0<=243)) then
 some ((128:Int),((191:Int),(4:Int)))
 else
 bif (s0==244) then
 some ((128:Int),((143:Int),(4:Int)))
 else
 some ((0:Int),((0:Int),(0:Int)))
 else
 bif (s0==244) then
 some ((128:Int),((143:Int),(4:Int)))
 else
 some ((0:Int),((0:Int),(0:Int)))
 else
 bif (s0==240) then
 some ((144:Int),((191:Int),(4:Int)))
 else
 bif (decide (s0>=241)) then
 bif (decide (s0<=243)) then
 some ((128:Int),((191:Int),(4:Int)))
 else
 bif (s0==244) then
 some ((128:Int),((143:Int),(4:Int)))
 else
 some ((0:Int),((0:Int),(0:Int)))
 else
 bif (s0==244) then
 some ((128:Int),((143:Int),(4:Int)))
 else
 some ((0:Int),((0:Int),(0:Int)))
 else
 bif (s0==224) then
 some ((160:Int),((191:Int),(3:Int)))
 else
 bif (s0==237) then
 some ((128:Int),((159:Int),(3:Int)))
 else
 bif (decide (s0>=225)) then
 bif (decide (s0<=239)) then
 some ((128:Int),((191:Int),(3:Int)))
 else
 bif (s0==240) then
 some ((144:Int),((191:Int),(4:Int)))
 else
 bif (decide (s0>=241)) then
 bif (decide (s0<=243)) then
 some ((128:Int),((191:Int),(4:Int)))
 else
 bif (s0==244) then
 some ((128:Int),((143:Int),(4:Int)))
 else
 some ((0:Int),((0:Int),(0:Int)))
 else
 bif (s0==244) then
 some ((128:Int),((143:Int),(4:Int)))
 else
 some ((0:Int),((0:Int),(0:Int)))
 else
 bif (s0==240) then
 some ((144:Int),((191:Int),(4:Int)))
 else
 bif (decide (s0>=241)) then
 bif (decide (s0<=243)) then
 some ((128:Int),((191:Int),(4:Int)))
 else
 bif (s0==244) then
 some ((128:Int),((143:Int),(4:Int)))
 else
 some ((0:Int),((0:Int),(0:Int)))
 else
 bif (s0==244) then
 some ((128:Int),((143:Int),(4:Int)))
 else
 some ((0:Int),((0:Int),(0:Int))):=by unfold Zi3; rewrite [Y8]; kernel_rfl
theorem Y2i (x:(Int×Int)):YK5 x=
 Zj3 x.1 x.2:=by kernel_rfl
theorem Yyf (s0:Int) (s1:Int):Zj3 s0 s1=
 bif (decide (s0<=s1)) then
 some (1:Int)
 else
 bif (decide (s0>=(wrap i64 (s1+26)))) then
 some (26:Int)
 else
 some (wrap i64 (s0 - s1)):=by unfold Zj3; rewrite [Y8]; kernel_rfl
theorem Yih (x:(List UInt8×Int)):Y3b x=
 Zk3 x.1 x.2:=by kernel_rfl
theorem YCf (s0:List UInt8) (s1:Int):Zk3 s0 s1=
 Zl3 s0 s1 (wrap i64 ((((length s0):Nat):Int) - 1)):=by unfold Zk3; rewrite [Y8]; kernel_rfl
theorem Yfa (s0:List UInt8) (s1:Int) (s2:Int):Zl3 s0 s1 s2=
 bif (decide (s2>=0)) then
 bif (Yb s2 (length s0)) then
 bif ((((UInt8.toNat (getD s0 (Int.toNat s2) (0:UInt8))):Nat):Int)==s1) then
 some s2
 else
 Zl3 s0 s1 (wrap i64 (s2 - 1))
 else
 none
 else
 some (-(1:Int)):=by unfold Zl3; rewrite [Y8]; kernel_rfl
end
end Go.Abs
namespace Go.Abs
noncomputable section
open IntKind List
def Yz4 (x:D35):Option Int:=Abs.Call E 50 x
def Zm3 (s0:D35):Option Int:=(Abs.Run E 50 (E.at 50 []) ⟨Y7 [(0,(.val T35 s0))],Yc [],Yd []⟩)
def Zn3 (s0:D35) (s1:Int) (s2:Bool) (b3:D35) (b4:D35):Option Int:=(Abs.Run E 50 (E.at 50 [1,1,0,1,0,0,1,9]) ⟨Y7 [(0,(.val T35 s0)),(1,(.addr (.box 0) [])),(3,(.addr (.box 1) [])),(8,(.val (.int .i64) s1)),(9,(.val .bool s2))],Yf [.cells T35 .live (.val T35 b3),.cells T35 .live (.val T35 b4)],Yg []⟩)
def Zo3 (s0:D35) (s1:Int) (s2:Bool) (b3:D35) (b4:D35):Option Int:=(Abs.Run E 50 (E.at 50 [1,1,0,1,0,1,9]) ⟨Y7 [(0,(.val T35 s0)),(1,(.addr (.box 0) [])),(3,(.addr (.box 1) [])),(8,(.val (.int .i64) s1)),(9,(.val .bool s2))],Yf [.cells T35 .live (.val T35 b3),.cells T35 .live (.val T35 b4)],Yg []⟩)
def Zp3 (s0:D35) (b1:D35) (b2:D35):Option Int:=(Abs.Run E 50 (E.at 50 [1,1,0,1,0,1,1,1,9]) ⟨Y7 [(0,(.val T35 s0)),(1,(.addr (.box 0) [])),(3,(.addr (.box 1) []))],Yf [.cells T35 .live (.val T35 b1),.cells T35 .live (.val T35 b2)],Yg []⟩)
def Zq3 (s0:D35) (b1:D35) (b2:D35):Option Int:=(Abs.Run E 50 (E.at 50 [1,1,0,1,0,1,1,1,1,1,9]) ⟨Y7 [(0,(.val T35 s0)),(1,(.addr (.box 0) [])),(3,(.addr (.box 1) []))],Yf [.cells T35 .live (.val T35 b1),.cells T35 .live (.val T35 b2)],Yg []⟩)
def Zr3 (s0:D35) (s1:Bool) (b2:D35) (b3:D35):Option Int:=(Abs.Run E 50 (E.at 50 [1,1,0,1,0,1,1,1,1,1,1,0,1,9]) ⟨Y7 [(0,(.val T35 s0)),(1,(.addr (.box 0) [])),(3,(.addr (.box 1) [])),(22,(.val .bool s1))],Yf [.cells T35 .live (.val T35 b2),.cells T35 .live (.val T35 b3)],Yg []⟩)
def Zs3 (s0:D35) (b1:D35) (b2:D35):Option Int:=(Abs.Run E 50 (E.at 50 [1,1,0,1,0,1,9]) ⟨Y7 [(0,(.val T35 s0)),(1,(.addr (.box 0) [])),(3,(.addr (.box 1) [])),(8,.undef),(9,.undef)],Yf [.cells T35 .live (.val T35 b1),.cells T35 .live (.val T35 b2)],Yg []⟩)
def Zt3 (s0:D35) (s1:Bool) (b2:D35) (b3:D35):Option Int:=(Abs.Run E 50 (E.at 50 [1,1,0,1,0,1,1,1,1,1,1,1,9]) ⟨Y7 [(0,(.val T35 s0)),(1,(.addr (.box 0) [])),(3,(.addr (.box 1) [])),(22,(.val .bool s1))],Yf [.cells T35 .live (.val T35 b2),.cells T35 .live (.val T35 b3)],Yg []⟩)
theorem YOg (x:D35):Yz4 x=
 Zm3 x:=by kernel_rfl
theorem YGf (s0:D35):Zm3 s0=
 bif (s0.1==0) then
 Zn3 s0 s0.1 (s0.1==0) s0 (s0.1,((Ty.zero .str),((Ty.zero (.int .u32)),(Ty.zero (.arr 8 (.int .u16))))))
 else
 Zn3 s0 s0.1 (s0.1==5) s0 (s0.1,((Ty.zero .str),((Ty.zero (.int .u32)),(Ty.zero (.arr 8 (.int .u16)))))):=by unfold Zm3; rewrite [Y8]; kernel_rfl
theorem YJf (s0:D35) (s1:Int) (s2:Bool) (b3:D35) (b4:D35):Zn3 s0 s1 s2 b3 b4=
 bif s2 then
 Zo3 s0 s1 s2 b3 b4
 else
 bif (s1==2) then
 Zp3 s0 b3 (b4.1,(b4.2.1,(b3.2.2.1,b4.2.2.2)))
 else
 bif (s1==3) then
 Zq3 s0 b3 (b4.1,(b4.2.1,(b4.2.2.1,b3.2.2.2)))
 else
 bif (s1==1) then
 Zr3 s0 (s1==1) b3 b4
 else
 Zr3 s0 (s1==4) b3 b4:=by unfold Zn3; rewrite [Y8]; kernel_rfl
theorem YNf (s0:D35) (s1:Int) (s2:Bool) (b3:D35) (b4:D35):Zo3 s0 s1 s2 b3 b4=
 bif (!(Ty.beq T35 b3 b4)) then
 some (51:Int)
 else
 some (0:Int):=by unfold Zo3; rewrite [Y8]; kernel_rfl
theorem YQf (s0:D35) (b1:D35) (b2:D35):Zp3 s0 b1 b2=
 Zs3 s0 b1 b2:=by unfold Zp3; rewrite [Y8]; kernel_rfl
theorem YUf (s0:D35) (b1:D35) (b2:D35):Zq3 s0 b1 b2=
 Zp3 s0 b1 b2:=by unfold Zq3; rewrite [Y8]; kernel_rfl
theorem YWf (s0:D35) (s1:Bool) (b2:D35) (b3:D35):Zr3 s0 s1 b2 b3=
 bif s1 then
 (YA7 (b2.2.1,(b2.1==1))).bind fun y0=>
 Zt3 s0 s1 b2 y0.1
 else
 some (51:Int):=by unfold Zr3; rewrite [Y8]; kernel_rfl
theorem YZf (s0:D35) (b1:D35) (b2:D35):Zs3 s0 b1 b2=
 bif (!(Ty.beq T35 b1 b2)) then
 some (51:Int)
 else
 some (0:Int):=by unfold Zs3; rewrite [Y8]; kernel_rfl
theorem Y2g (s0:D35) (s1:Bool) (b2:D35) (b3:D35):Zt3 s0 s1 b2 b3=
 Zq3 s0 b2 b3:=by unfold Zt3; rewrite [Y8]; kernel_rfl
end
end Go.Abs
namespace Go.Abs
noncomputable section
open IntKind List
def Y9b (x:(Int×(List D40))):Option Bool:=Abs.Call E 3 x
def Zu3 (s0:Int) (s1:(List D40)):Option Bool:=(Abs.Run E 3 (E.at 3 []) ⟨Y7 [(1,(.val (.sl false T40) s1)),(0,(.val (.int .i64) s0))],Yc [],Yd []⟩)
def Zv3 (s0:Int) (s1:(List D40)) (s2:Int) (r3:List D37) (r4:List (List Int)):Option Bool:=(Abs.Run E 3 (E.at 3 [1,1,1,1,1,1,0,1,0,7]) ⟨Y7 [(0,(.val (.int .i64) s0)),(1,(.val (.sl false T40) s1)),(5,.nilp),(7,(.row 0)),(8,(.row 1)),(9,(.val (.int .i64) s2))],Yf [],Yg [.mk T37 .live r3,.mk (.sl false (.int .i64)) .live r4]⟩)
def Zw3 (s0:Int) (s1:(List D40)) (s2:Int) (b3:Int) (r4:List D87) (r5:List D37) (r6:List (List Int)):Option Bool:=(Abs.Run E 3 (E.at 3 [1,1,1,1,1,1,0,1,0,7]) ⟨Y7 [(0,(.val (.int .i64) s0)),(1,(.val (.sl false T40) s1)),(5,(.addr (.box 0) [])),(7,(.row 1)),(8,(.row 2)),(9,(.val (.int .i64) s2))],Yf [.cells (.st (.pair (.int .i64) (.sl true T87))) .live (.st (.pair (.val (.int .i64) b3) (.row 0)))],Yg [.mk T87 .live r4,.mk T37 .live r5,.mk (.sl false (.int .i64)) .live r6]⟩)
def Zx3 (s0:Int) (s1:(List D40)) (s2:Int) (s3:Int) (s4:Int) (b5:Int) (r6:List D87) (r7:List D37) (r8:List (List Int)):Option Bool:=(Abs.Run E 3 (E.at 3 [1,1,1,1,1,1,0,1,0,0,1,0,0,1,1,1,1,1,1,1,0,7]) ⟨Y7 [(0,(.val (.int .i64) s0)),(1,(.val (.sl false T40) s1)),(5,(.addr (.box 0) [])),(7,(.row 1)),(8,(.row 2)),(9,(.val (.int .i64) s2)),(11,(.val (.int .i64) s3)),(12,(.val (.int .i64) s4))],Yf [.cells (.st (.pair (.int .i64) (.sl true T87))) .live (.st (.pair (.val (.int .i64) b5) (.row 0)))],Yg [.mk T87 .live r6,.mk T37 .live r7,.mk (.sl false (.int .i64)) .live r8]⟩)
def YE7 (x:Unit):Option Bool:=Abs.Call E 15 x
def Yu7 (x:Int):Option ((Option (Int×(List D87)))×Int):=Abs.Call E 16 x
def Zy3 (s0:Int):Option ((Option (Int×(List D87)))×Int):=(Abs.Run E 16 (E.at 16 []) ⟨Y7 [(0,(.val (.int .i64) s0))],Yc [],Yd []⟩)
def YB4 (x:Int):Option Int:=Abs.Call E 17 x
def Zz3 (s0:Int):Option Int:=(Abs.Run E 17 (E.at 17 []) ⟨Y7 [(0,(.val (.int .i64) s0))],Yc [],Yd []⟩)
def Ys7 (x:((Int×(List D87))×(D37×(List Int)))):Option (Int×(Int×(List D87))):=Abs.Call E 18 x
def Z04 (s0:D37) (s1:(List Int)) (r2:List D87) (b3:Int):Option (Int×(Int×(List D87))):=(Abs.Run E 18 (E.at 18 []) ⟨Y7 [(2,(.val (.sl false (.int .i64)) s1)),(1,(.val T37 s0)),(0,(.addr (.box 1073741824) []))],Yc [(1073741824,.cells (.st (.pair (.int .i64) (.sl true T87))) .live (.st (.pair (.val (.int .i64) b3) (.row 8589934593))))],Yd [(8589934593,.mk T87 .live r2)]⟩)
def Z14 (s0:D37) (s1:(List Int)) (b2:Int) (b3:D37) (r4:List D87):Option (Int×(Int×(List D87))):=(Abs.Run E 18 (E.at 18 [1,1,1,0,1,9]) ⟨Y7 [(0,(.addr (.box 0) [])),(1,(.val T37 s0)),(2,(.val (.sl false (.int .i64)) s1)),(4,(.addr (.box 1) []))],Yf [.cells (.st (.pair (.int .i64) (.sl true T87))) .live (.st (.pair (.val (.int .i64) b2) (.row 0))),.cells T37 .live (.val T37 b3)],Yg [.mk T87 .live r4]⟩)
def Yr7 (x:(Int×(List D87))):Option ((List D37)×(Int×(List D87))):=Abs.Call E 19 x
def Z24 (r0:List D87) (b1:Int):Option ((List D37)×(Int×(List D87))):=(Abs.Run E 19 (E.at 19 []) ⟨Y7 [(0,(.addr (.box 1073741824) []))],Yc [(1073741824,.cells (.st (.pair (.int .i64) (.sl true T87))) .live (.st (.pair (.val (.int .i64) b1) (.row 8589934593))))],Yd [(8589934593,.mk T87 .live r0)]⟩)
def Z34 (s0:Int) (s1:Int) (b2:Int) (r3:List D87) (r4:List D37) (r5:List D87):Option ((List D37)×(Int×(List D87))):=(Abs.Run E 19 (E.at 19 [1,1,0,1,0,7]) ⟨Y7 [(0,(.addr (.box 0) [])),(3,(.row 1)),(7,(.row 2)),(8,(.val (.int .i64) s0)),(9,(.val (.int .i64) s1))],Yf [.cells (.st (.pair (.int .i64) (.sl true T87))) .live (.st (.pair (.val (.int .i64) b2) (.row 0)))],Yg [.mk T87 .live r3,.mk T37 .live r4,.mk T87 .live r5]⟩)
def YF7 (x:((List D37)×Int)):Option Bool:=Abs.Call E 20 x
def Z44 (s0:(List D37)) (s1:Int):Option Bool:=(Abs.Run E 20 (E.at 20 []) ⟨Y7 [(1,(.val (.int .i64) s1)),(0,(.val (.sl false T37) s0))],Yc [],Yd []⟩)
def Z54 (s0:(List D37)) (s1:Int) (s2:Int):Option Bool:=(Abs.Run E 20 (E.at 20 [1,0,1,0,7]) ⟨Y7 [(0,(.val (.sl false T37) s0)),(1,(.val (.int .i64) s1)),(5,(.val (.int .i64) s2))],Yf [],Yg []⟩)
def Yq7 (x:((Int×(List D87))×D37)):Option ((List Int)×(Bool×(Int×(List D87)))):=Abs.Call E 21 x
def Z64 (s0:D37) (r1:List D87) (b2:Int):Option ((List Int)×(Bool×(Int×(List D87)))):=(Abs.Run E 21 (E.at 21 []) ⟨Y7 [(1,(.val T37 s0)),(0,(.addr (.box 1073741824) []))],Yc [(1073741824,.cells (.st (.pair (.int .i64) (.sl true T87))) .live (.st (.pair (.val (.int .i64) b2) (.row 8589934593))))],Yd [(8589934593,.mk T87 .live r1)]⟩)
def YK7 (x:((List Int)×(List Int))):Option Bool:=Abs.Call E 22 x
def Z74 (s0:(List Int)) (s1:(List Int)):Option Bool:=(Abs.Run E 22 (E.at 22 []) ⟨Y7 [(1,(.val (.sl false (.int .i64)) s1)),(0,(.val (.sl false (.int .i64)) s0))],Yc [],Yd []⟩)
def Z84 (s0:(List Int)) (s1:(List Int)) (s2:Int):Option Bool:=(Abs.Run E 22 (E.at 22 [1,1,0,1,0,7]) ⟨Y7 [(0,(.val (.sl false (.int .i64)) s0)),(1,(.val (.sl false (.int .i64)) s1)),(5,(.val (.int .i64) s2))],Yf [],Yg []⟩)
def Yo7 (x:((Int×(List D87))×D37)):Option (Bool×(Int×(List D87))):=Abs.Call E 28 x
def Z94 (s0:D37) (r1:List D87) (b2:Int):Option (Bool×(Int×(List D87))):=(Abs.Run E 28 (E.at 28 []) ⟨Y7 [(1,(.val T37 s0)),(0,(.addr (.box 1073741824) []))],Yc [(1073741824,.cells (.st (.pair (.int .i64) (.sl true T87))) .live (.st (.pair (.val (.int .i64) b2) (.row 8589934593))))],Yd [(8589934593,.mk T87 .live r1)]⟩)
def Yp7 (x:(Int×(List D87))):Option ((List D87)×(Int×(List D87))):=Abs.Call E 35 x
def Za4 (r0:List D87) (b1:Int):Option ((List D87)×(Int×(List D87))):=(Abs.Run E 35 (E.at 35 []) ⟨Y7 [(0,(.addr (.box 1073741824) []))],Yc [(1073741824,.cells (.st (.pair (.int .i64) (.sl true T87))) .live (.st (.pair (.val (.int .i64) b1) (.row 8589934593))))],Yd [(8589934593,.mk T87 .live r0)]⟩)
def Zb4 (s0:Int) (s1:Int) (b2:Int) (r3:List D87) (r4:List D87):Option ((List D87)×(Int×(List D87))):=(Abs.Run E 35 (E.at 35 [1,1,1,0,1,0,7]) ⟨Y7 [(0,(.addr (.box 0) [])),(3,(.row 1)),(12,(.row 0)),(13,(.val (.int .i64) s0)),(14,(.val (.int .i64) s1))],Yf [.cells (.st (.pair (.int .i64) (.sl true T87))) .live (.st (.pair (.val (.int .i64) b2) (.row 0)))],Yg [.mk T87 .live r3,.mk T87 .live r4]⟩)
def Yx5 (x:(Int×(List D87))):Option (Bool×(Int×(List D87))):=Abs.Call E 67 x
def Zc4 (r0:List D87) (b1:Int):Option (Bool×(Int×(List D87))):=(Abs.Run E 67 (E.at 67 []) ⟨Y7 [(0,(.addr (.box 1073741824) []))],Yc [(1073741824,.cells (.st (.pair (.int .i64) (.sl true T87))) .live (.st (.pair (.val (.int .i64) b1) (.row 8589934593))))],Yd [(8589934593,.mk T87 .live r0)]⟩)
def Yy5 (x:(D37×(List Int))):Option Int:=Abs.Call E 68 x
def Zd4 (s0:D37) (s1:(List Int)):Option Int:=(Abs.Run E 68 (E.at 68 []) ⟨Y7 [(1,(.val (.sl false (.int .i64)) s1)),(0,(.val T37 s0))],Yc [],Yd []⟩)
def YQ7 (x:((List D87)×(Int×Int))):Option (List D87):=Abs.Call E 69 x
def YL5 (x:(List Int)):Option (List Int):=Abs.Call E 70 x
def Yw5 (x:((Int×(List D87))×D37)):Option (Int×(Int×(List D87))):=Abs.Call E 71 x
def Ze4 (s0:D37) (r1:List D87) (b2:Int):Option (Int×(Int×(List D87))):=(Abs.Run E 71 (E.at 71 []) ⟨Y7 [(1,(.val T37 s0)),(0,(.addr (.box 1073741824) []))],Yc [(1073741824,.cells (.st (.pair (.int .i64) (.sl true T87))) .live (.st (.pair (.val (.int .i64) b2) (.row 8589934593))))],Yd [(8589934593,.mk T87 .live r1)]⟩)
def YE5 (x:D37):Option Int:=Abs.Call E 148 x
def Zf4 (s0:D37):Option Int:=(Abs.Run E 148 (E.at 148 []) ⟨Y7 [(0,(.val T37 s0))],Yc [],Yd []⟩)
def YH7 (x:D37):Option Bool:=Abs.Call E 149 x
def Zg4 (s0:D37):Option Bool:=(Abs.Run E 149 (E.at 149 []) ⟨Y7 [(0,(.val T37 s0))],Yc [],Yd []⟩)
def Zh4 (s0:D37) (b1:D37):Option Bool:=(Abs.Run E 149 (E.at 149 [1,1,1,0,1,0,1,9]) ⟨Y7 [(0,(.val T37 s0)),(1,(.addr (.box 0) []))],Yf [.cells T37 .live (.val T37 b1)],Yg []⟩)
def Zi4 (s0:D37) (b1:D37):Option Bool:=(Abs.Run E 149 (E.at 149 [1,1,1,0,1,0,1,0,1,9]) ⟨Y7 [(0,(.val T37 s0)),(1,(.addr (.box 0) []))],Yf [.cells T37 .live (.val T37 b1)],Yg []⟩)
def Yv7 (x:(List Int)):Option Int:=Abs.Call E 150 x
def Zj4 (s0:(List Int)):Option Int:=(Abs.Run E 150 (E.at 150 []) ⟨Y7 [(0,(.val (.sl false (.int .i64)) s0))],Yc [],Yd []⟩)
def Zk4 (s0:(List Int)) (s1:(List Int)) (s2:Int) (s3:Int):Option Int:=(Abs.Run E 150 (E.at 150 [1,0,1,0,7]) ⟨Y7 [(0,(.val (.sl false (.int .i64)) s0)),(5,(.val (.sl false (.int .i64)) s1)),(6,(.val (.int .i64) s2)),(7,(.val (.int .i64) s3))],Yf [],Yg []⟩)
def Ymb (x:((List D87)×D37)):Option Int:=Abs.Call E 151 x
def Zl4 (s0:(List D87)) (s1:D37):Option Int:=(Abs.Run E 151 (E.at 151 []) ⟨Y7 [(1,(.cl 152 1 (.addr (.fbox T37 s1) []))),(0,(.val (.sl false T87) s0))],Yc [],Yd []⟩)
def Zm4 (s0:(List D87)) (s1:D37) (s2:Int) (s3:Int):Option Int:=(Abs.Run E 151 (E.at 151 [1,0,1,0,7]) ⟨Y7 [(0,(.val (.sl false T87) s0)),(1,(.cl 152 1 (.addr (.fbox T37 s1) []))),(7,(.val (.int .i64) s2)),(8,(.val (.int .i64) s3))],Yf [],Yg []⟩)
def YWa (x:(D87×D37)):Option Bool:=Abs.Call E 152 x
def Zn4 (s0:D87) (s1:D37):Option Bool:=(Abs.Run E 152 (E.at 152 []) ⟨Y7 [(1,(.addr (.fbox T37 s1) [])),(0,(.val T87 s0))],Yc [],Yd []⟩)
def YC4 (x:List UInt8):Option (Int×Bool):=Abs.Call E 211 x
def YF4 (x:((List Int)×Int)):Option Bool:=Abs.Call E 212 x
def Zo4 (s0:(List Int)) (s1:Int):Option Bool:=(Abs.Run E 212 (E.at 212 []) ⟨Y7 [(1,(.val (.int .i64) s1)),(0,(.val (.sl false (.int .i64)) s0))],Yc [],Yd []⟩)
def Ynb (x:((List Int)×Int)):Option Int:=Abs.Call E 251 x
def Zp4 (s0:(List Int)) (s1:Int):Option Int:=(Abs.Run E 251 (E.at 251 []) ⟨Y7 [(1,(.val (.int .i64) s1)),(0,(.val (.sl false (.int .i64)) s0))],Yc [],Yd []⟩)
def Zq4 (s0:(List Int)) (s1:Int) (s2:Int) (s3:Int):Option Int:=(Abs.Run E 251 (E.at 251 [1,0,1,0,7]) ⟨Y7 [(0,(.val (.sl false (.int .i64)) s0)),(1,(.val (.int .i64) s1)),(7,(.val (.int .i64) s2)),(8,(.val (.int .i64) s3))],Yf [],Yg []⟩)
theorem Yph (x:(Int×(List D40))):Y9b x=
 Zu3 x.1 x.2:=by kernel_rfl
theorem Y6g (s0:Int) (s1:(List D40)):Zu3 s0 s1=
 (YE7 ()).bind fun y0=>
 bif (!y0) then
 some false
 else
 (Yu7 s0).bind fun y1=>
 Option.elim y1.1 ((YB4 y1.2).bind fun y2=>
 bif (y2 !=0) then
 bif (decide (s0 < 1)) then
 some true
 else
 some (decide (s0 > 64))
 else
 Zv3 s0 s1 (0:Int) ([]:List D37) ([]:List (List Int))) fun v2=>
 (YB4 y1.2).bind fun y3=>
 bif (y3 !=0) then
 some false
 else
 Zw3 s0 s1 (0:Int) v2.1 v2.2 ([]:List D37) ([]:List (List Int)):=by unfold Zu3; rewrite [Y8]; kernel_rfl
theorem Yua (s0:Int) (s1:(List D40)) (s2:Int) (b3:Int) (r4:List D87) (r5:List D37) (r6:List (List Int)):Zw3 s0 s1 s2 b3 r4 r5 r6=
 bif (decide (s2 < (((length s1):Nat):Int))) then
 bif (Yb s2 (length s1)) then
 bif ((getD s1 (Int.toNat s2) (Ty.zero T40)).1 !=0) then
 Zw3 s0 s1 (wrap i64 (s2+1)) b3 r4 r5 r6
 else
 bif (Yb s2 (length s1)) then
 bif (Yb s2 (length s1)) then
 (Ys7 ((b3,r4),((getD s1 (Int.toNat s2) (Ty.zero T40)).2.1,(getD s1 (Int.toNat s2) (Ty.zero T40)).2.2))).bind fun y0=>
 (YB4 y0.1).bind fun y1=>
 bif (y1 !=0) then
 Zw3 s0 s1 (wrap i64 (s2+1)) y0.2.1 y0.2.2 r5 r6
 else
 bif (Yb s2 (length s1)) then
 bif (decide (((length r5)+(length ([(getD s1 (Int.toNat s2) (Ty.zero T40)).2.1]:List D37)))<=(lim))) then
 bif (Yb s2 (length s1)) then
 bif (decide (((length r6)+(length ([(getD s1 (Int.toNat s2) (Ty.zero T40)).2.2]:List (List Int))))<=(lim))) then
 (Yr7 (y0.2.1,y0.2.2)).bind fun y2=>
 bif (decide ((((length y2.1):Nat):Int) > s0)) then
 some false
 else
 bif ((((length y2.1):Nat):Int)==0) then
 some false
 else
 bif (Yb (wrap i64 ((((length y2.1):Nat):Int) - 1)) (length y2.1)) then
 bif (Yb s2 (length s1)) then
 bif (!(Ty.beq T37 (getD y2.1 (Int.toNat (wrap i64 ((((length y2.1):Nat):Int) - 1))) (Ty.zero T37)) (getD s1 (Int.toNat s2) (Ty.zero T40)).2.1)) then
 some false
 else
 Zx3 s0 s1 s2 (0:Int) (wrap i64 ((((length (r5++([(getD s1 (Int.toNat s2) (Ty.zero T40)).2.1]:List D37))):Nat):Int) - 1)) y2.2.1 y2.2.2 (r5++([(getD s1 (Int.toNat s2) (Ty.zero T40)).2.1]:List D37)) (r6++([(getD s1 (Int.toNat s2) (Ty.zero T40)).2.2]:List (List Int)))
 else
 none
 else
 none
 else
 none
 else
 none
 else
 none
 else
 none
 else
 none
 else
 none
 else
 none
 else
 some true:=by unfold Zw3; rewrite [Y8]; kernel_rfl
theorem Yva (s0:Int) (s1:(List D40)) (s2:Int) (s3:Int) (s4:Int) (b5:Int) (r6:List D87) (r7:List D37) (r8:List (List Int)):Zx3 s0 s1 s2 s3 s4 b5 r6 r7 r8=
 bif (decide (s4>=0)) then
 (YF7 (r7,s4)).bind fun y0=>
 bif y0 then
 Zx3 s0 s1 s2 s3 (wrap i64 (s4 - 1)) b5 r6 r7 r8
 else
 bif (Yb s4 (length r7)) then
 (Yq7 ((b5,r6),(getD r7 (Int.toNat s4) (Ty.zero T37)))).bind fun y1=>
 bif (!(y1.2.1==(decide ((wrap i64 (s3+1))<=s0)))) then
 some false
 else
 bif y1.2.1 then
 bif (Yb s4 (length r8)) then
 (YK7 (y1.1,(getD r8 (Int.toNat s4) (Ty.zero (.sl false (.int .i64)))))).bind fun y2=>
 bif (!y2) then
 some false
 else
 Zx3 s0 s1 s2 (wrap i64 (s3+1)) (wrap i64 (s4 - 1)) y1.2.2.1 y1.2.2.2 r7 r8
 else
 none
 else
 Zx3 s0 s1 s2 (wrap i64 (s3+1)) (wrap i64 (s4 - 1)) y1.2.2.1 y1.2.2.2 r7 r8
 else
 none
 else
 Zw3 s0 s1 (wrap i64 (s2+1)) b5 r6 r7 r8:=by unfold Zx3; rewrite [Y8]; kernel_rfl
theorem YKg (x:Int):Yu7 x=
 Zy3 x:=by kernel_rfl
theorem Yfg (s0:Int):Zy3 s0=
 bif (decide (s0 < 1)) then
 some (none,(4:Int))
 else
 bif (decide (s0 > 64)) then
 some (none,(4:Int))
 else
 some ((some (s0,([]:List D87))),(0:Int)):=by unfold Zy3; rewrite [Y8]; kernel_rfl
theorem Yrh (x:Int):YB4 x=
 Zz3 x:=by kernel_rfl
theorem Yhg (s0:Int):Zz3 s0=
 some s0:=by unfold Zz3; rewrite [Y8]; kernel_rfl
theorem YHg (x:((Int×(List D87))×(D37×(List Int)))):Ys7 x=
 Z04 x.2.1 x.2.2 x.1.2 x.1.1:=by kernel_rfl
theorem Yxe (s0:D37) (s1:(List Int)) (r2:List D87) (b3:Int):Z04 s0 s1 r2 b3=
 (Yx5 (b3,r2)).bind fun y0=>
 bif (!y0.1) then
 some ((2:Int),(y0.2.1,y0.2.2))
 else
 (Yy5 (s0,s1)).bind fun y1=>
 bif (y1 !=0) then
 some (y1,(y0.2.1,y0.2.2))
 else
 (Yo7 ((y0.2.1,y0.2.2),s0)).bind fun y2=>
 bif (!y2.1) then
 bif ((((length y2.2.2):Nat):Int)==y2.2.1) then
 (YQ7 (y2.2.2,((0:Int),(1:Int)))).bind fun y3=>
 Z14 s0 s1 y2.2.1 s0 y3
 else
 Z14 s0 s1 y2.2.1 s0 y2.2.2
 else
 Z14 s0 s1 y2.2.1 s0 y2.2.2:=by unfold Z04; rewrite [Y8]; kernel_rfl
theorem YAe (s0:D37) (s1:(List Int)) (b2:Int) (b3:D37) (r4:List D87):Z14 s0 s1 b2 b3 r4=
 (YL5 s1).bind fun y0=>
 bif (decide (((length r4)+(length ([(b3,y0)]:List D87)))<=(lim))) then
 some ((0:Int),(b2,(r4++([(b3,y0)]:List D87))))
 else
 none:=by unfold Z14; rewrite [Y8]; kernel_rfl
theorem YGg (x:(Int×(List D87))):Yr7 x=
 Z24 x.2 x.1:=by kernel_rfl
theorem YCe (r0:List D87) (b1:Int):Z24 r0 b1=
 (Yp7 (b1,r0)).bind fun y0=>
 Z34 (((length y0.1):Nat):Int) (0:Int) y0.2.1 y0.2.2 ([]:List D37) y0.1:=by unfold Z24; rewrite [Y8]; kernel_rfl
theorem YQ9 (s0:Int) (s1:Int) (b2:Int) (r3:List D87) (r4:List D37) (r5:List D87):Z34 s0 s1 b2 r3 r4 r5=
 bif (decide (s1 < s0)) then
 bif (Yb s1 (length r5)) then
 bif (decide (((length r4)+(length ([(getD r5 (Int.toNat s1) (Ty.zero T87)).1]:List D37)))<=(lim))) then
 Z34 s0 (wrap i64 (s1+1)) b2 r3 (r4++([(getD r5 (Int.toNat s1) (Ty.zero T87)).1]:List D37)) r5
 else
 none
 else
 none
 else
 some (r4,(b2,r3)):=by unfold Z34; rewrite [Y8]; kernel_rfl
theorem Yqh (x:((List D37)×Int)):YF7 x=
 Z44 x.1 x.2:=by kernel_rfl
theorem YIe (s0:(List D37)) (s1:Int):Z44 s0 s1=
 Z54 s0 s1 (wrap i64 (s1+1)):=by unfold Z44; rewrite [Y8]; kernel_rfl
theorem YT9 (s0:(List D37)) (s1:Int) (s2:Int):Z54 s0 s1 s2=
 bif (decide (s2 < (((length s0):Nat):Int))) then
 bif (Yb s2 (length s0)) then
 bif (Yb s1 (length s0)) then
 bif (Ty.beq T37 (getD s0 (Int.toNat s2) (Ty.zero T37)) (getD s0 (Int.toNat s1) (Ty.zero T37))) then
 some true
 else
 Z54 s0 s1 (wrap i64 (s2+1))
 else
 none
 else
 none
 else
 some false:=by unfold Z54; rewrite [Y8]; kernel_rfl
theorem YFg (x:((Int×(List D87))×D37)):Yq7 x=
 Z64 x.2 x.1.2 x.1.1:=by kernel_rfl
theorem YOe (s0:D37) (r1:List D87) (b2:Int):Z64 s0 r1 b2=
 (Yw5 ((b2,r1),s0)).bind fun y0=>
 bif (decide (y0.1 < 0)) then
 some (([]:List Int),(false,(y0.2.1,y0.2.2)))
 else
 bif (Yb y0.1 (length y0.2.2)) then
 (YL5 (getD y0.2.2 (Int.toNat y0.1) (Ty.zero T87)).2).bind fun y1=>
 some (y1,(true,(y0.2.1,y0.2.2)))
 else
 none:=by unfold Z64; rewrite [Y8]; kernel_rfl
theorem YMh (x:((List Int)×(List Int))):YK7 x=
 Z74 x.1 x.2:=by kernel_rfl
theorem YTe (s0:(List Int)) (s1:(List Int)):Z74 s0 s1=
 bif ((((length s0):Nat):Int) !=(((length s1):Nat):Int)) then
 some false
 else
 Z84 s0 s1 (0:Int):=by unfold Z74; rewrite [Y8]; kernel_rfl
theorem YW9 (s0:(List Int)) (s1:(List Int)) (s2:Int):Z84 s0 s1 s2=
 bif (decide (s2 < (((length s0):Nat):Int))) then
 bif (Yb s2 (length s0)) then
 bif (Yb s2 (length s1)) then
 bif ((getD s0 (Int.toNat s2) (Ty.zero (.int .i64))) !=(getD s1 (Int.toNat s2) (Ty.zero (.int .i64)))) then
 some false
 else
 Z84 s0 s1 (wrap i64 (s2+1))
 else
 none
 else
 none
 else
 some true:=by unfold Z84; rewrite [Y8]; kernel_rfl
theorem YDg (x:((Int×(List D87))×D37)):Yo7 x=
 Z94 x.2 x.1.2 x.1.1:=by kernel_rfl
theorem Y0f (s0:D37) (r1:List D87) (b2:Int):Z94 s0 r1 b2=
 (Yw5 ((b2,r1),s0)).bind fun y0=>
 bif (decide (y0.1>=0)) then
 (YQ7 (y0.2.2,(y0.1,(wrap i64 (y0.1+1))))).bind fun y1=>
 some ((decide (y0.1>=0)),(y0.2.1,y1))
 else
 some ((decide (y0.1>=0)),(y0.2.1,y0.2.2)):=by unfold Z94; rewrite [Y8]; kernel_rfl
theorem YEg (x:(Int×(List D87))):Yp7 x=
 Za4 x.2 x.1:=by kernel_rfl
theorem Y5f (r0:List D87) (b1:Int):Za4 r0 b1=
 (Yx5 (b1,r0)).bind fun y0=>
 bif (!y0.1) then
 some (([]:List D87),(y0.2.1,y0.2.2))
 else
 Zb4 (((length y0.2.2):Nat):Int) (0:Int) y0.2.1 y0.2.2 ([]:List D87):=by unfold Za4; rewrite [Y8]; kernel_rfl
theorem Y0a (s0:Int) (s1:Int) (b2:Int) (r3:List D87) (r4:List D87):Zb4 s0 s1 b2 r3 r4=
 bif (decide (s1 < s0)) then
 bif (Yb s1 (length r3)) then
 (YL5 (getD r3 (Int.toNat s1) (Ty.zero T87)).2).bind fun y0=>
 bif (decide (((length r4)+(length ([((getD r3 (Int.toNat s1) (Ty.zero T87)).1,y0)]:List D87)))<=(lim))) then
 Zb4 s0 (wrap i64 (s1+1)) b2 r3 (r4++([((getD r3 (Int.toNat s1) (Ty.zero T87)).1,y0)]:List D87))
 else
 none
 else
 none
 else
 some (r4,(b2,r3)):=by unfold Zb4; rewrite [Y8]; kernel_rfl
theorem Yt7 (x:(Int×(List D87))):Yx5 x=
 Zc4 x.2 x.1:=by kernel_rfl
theorem Yd7 (r0:List D87) (b1:Int):Zc4 r0 b1=
 some ((decide (b1 > 0)),(b1,r0)):=by unfold Zc4; rewrite [Y8]; kernel_rfl
theorem YLg (x:(D37×(List Int))):Yy5 x=
 Zd4 x.1 x.2:=by kernel_rfl
theorem Ycf (s0:D37) (s1:(List Int)):Zd4 s0 s1=
 (YE5 s0).bind fun y0=>
 bif (y0 !=0) then
 some (71:Int)
 else
 bif (decide (s0.1 > 0)) then
 some (242:Int)
 else
 (YH7 s0).bind fun y1=>
 bif (!y1) then
 some (1:Int)
 else
 (Yv7 s1).bind fun y2=>
 some y2:=by unfold Zd4; rewrite [Y8]; kernel_rfl
theorem Ylb (x:((List D87)×(Int×Int))):YQ7 x=Y03 x:=by kernel_rfl
theorem YP7 (x:(List Int)):YL5 x=Yt2 x:=by kernel_rfl
theorem YJg (x:((Int×(List D87))×D37)):Yw5 x=
 Ze4 x.2 x.1.2 x.1.1:=by kernel_rfl
theorem Ygf (s0:D37) (r1:List D87) (b2:Int):Ze4 s0 r1 b2=
 (Yx5 (b2,r1)).bind fun y0=>
 bif (!y0.1) then
 some ((-(1:Int)),(y0.2.1,y0.2.2))
 else
 (Ymb (y0.2.2,s0)).bind fun y1=>
 some (y1,(y0.2.1,y0.2.2)):=by unfold Ze4; rewrite [Y8]; kernel_rfl
theorem Yxh (x:D37):YE5 x=
 Zf4 x:=by kernel_rfl
theorem Ylf (s0:D37):Zf4 s0=
 bif (decide (s0.1 > 0)) then
 bif (Ty.beq T37 s0 (s0.1,((Ty.zero .str),(((Ty.zero (.int .i64)),((Ty.zero .str),((Ty.zero (.int .u32)),(Ty.zero (.arr 8 (.int .u16)))))),(Ty.zero (.int .i64)))))) then
 some (0:Int)
 else
 (YC4 s0.2.1).bind fun y0=>
 bif (s0.1 !=0) then
 some (71:Int)
 else
 bif (!y0.2) then
 some (71:Int)
 else
 (YF4 (([1,2,3]:List Int),s0.2.2.1.1)).bind fun y1=>
 bif (!y1) then
 some (71:Int)
 else
 (Yz4 s0.2.2.1).bind fun y2=>
 bif (y2 !=0) then
 some (71:Int)
 else
 bif (decide (s0.2.2.2 < 0)) then
 some (71:Int)
 else
 bif (decide (s0.2.2.2 > 65535)) then
 some (71:Int)
 else
 some (0:Int)
 else
 (YC4 s0.2.1).bind fun y0=>
 bif (s0.1 !=0) then
 some (71:Int)
 else
 bif (!y0.2) then
 some (71:Int)
 else
 (YF4 (([1,2,3]:List Int),s0.2.2.1.1)).bind fun y1=>
 bif (!y1) then
 some (71:Int)
 else
 (Yz4 s0.2.2.1).bind fun y2=>
 bif (y2 !=0) then
 some (71:Int)
 else
 bif (decide (s0.2.2.2 < 0)) then
 some (71:Int)
 else
 bif (decide (s0.2.2.2 > 65535)) then
 some (71:Int)
 else
 some (0:Int):=by unfold Zf4; rewrite [Y8]; kernel_rfl
theorem Yzh (x:D37):YH7 x=
 Zg4 x:=by kernel_rfl
theorem Yof (s0:D37):Zg4 s0=
 (YE5 s0).bind fun y0=>
 bif (y0 !=0) then
 some false
 else
 bif (decide (s0.1 > 0)) then
 some false
 else
 (Yz7 s0.2.2.1.2.1).bind fun y1=>
 bif (s0.2.2.1.1==2) then
 bif ((shr u32 s0.2.2.1.2.2.1 (24:Int))==127) then
 some true
 else
 Zh4 s0 s0
 else
 bif (s0.2.2.1.1==3) then
 bif (Ty.beq (.arr 8 (.int .u16)) s0.2.2.1.2.2.2 (List.set (Ty.zero (.arr 8 (.int .u16))) 7 (1:Int))) then
 some true
 else
 Zi4 s0 s0
 else
 bif (decide ((((length y1):Nat):Int) > 0)) then
 bif (Yb (wrap i64 ((((length y1):Nat):Int) - 1)) (length y1)) then
 bif ((getD y1 (Int.toNat (wrap i64 ((((length y1):Nat):Int) - 1))) (Ty.zero .str))==([108,111,99,97,108,104,111,115,116]:List UInt8)) then
 some true
 else
 Zi4 s0 s0
 else
 none
 else
 Zi4 s0 s0:=by unfold Zg4; rewrite [Y8]; kernel_rfl
theorem Yrf (s0:D37) (b1:D37):Zh4 s0 b1=
 bif (b1.2.1==([104,116,116,112,115]:List UInt8)) then
 some true
 else
 some (b1.2.1==([119,115,115]:List UInt8)):=by unfold Zh4; rewrite [Y8]; kernel_rfl
theorem Yvf (s0:D37) (b1:D37):Zi4 s0 b1=
 Zh4 s0 b1:=by unfold Zi4; rewrite [Y8]; kernel_rfl
theorem YNg (x:(List Int)):Yv7 x=
 Zj4 x:=by kernel_rfl
theorem Yzf (s0:(List Int)):Zj4 s0=
 Zk4 s0 s0 (((length s0):Nat):Int) (0:Int):=by unfold Zj4; rewrite [Y8]; kernel_rfl
theorem Yba (s0:(List Int)) (s1:(List Int)) (s2:Int) (s3:Int):Zk4 s0 s1 s2 s3=
 bif (decide (s3 < s2)) then
 bif (Yb s3 (length s1)) then
 bif (decide ((getD s1 (Int.toNat s3) (Ty.zero (.int .i64))) < 0)) then
 some (201:Int)
 else
 bif (decide ((getD s1 (Int.toNat s3) (Ty.zero (.int .i64)))>=12)) then
 some (201:Int)
 else
 bif (decide (s3 > 0)) then
 bif (Yb (wrap i64 (s3 - 1)) (length s0)) then
 bif (decide ((getD s1 (Int.toNat s3) (Ty.zero (.int .i64)))<=(getD s0 (Int.toNat (wrap i64 (s3 - 1))) (Ty.zero (.int .i64))))) then
 some (7:Int)
 else
 Zk4 s0 s1 s2 (wrap i64 (s3+1))
 else
 none
 else
 Zk4 s0 s1 s2 (wrap i64 (s3+1))
 else
 none
 else
 some (0:Int):=by unfold Zk4; rewrite [Y8]; kernel_rfl
theorem Y4i (x:((List D87)×D37)):Ymb x=
 Zl4 x.1 x.2:=by kernel_rfl
theorem YDf (s0:(List D87)) (s1:D37):Zl4 s0 s1=
 Zm4 s0 s1 (((length s0):Nat):Int) (0:Int):=by unfold Zl4; rewrite [Y8]; kernel_rfl
theorem Yha (s0:(List D87)) (s1:D37) (s2:Int) (s3:Int):Zm4 s0 s1 s2 s3=
 bif (decide (s3 < s2)) then
 bif (Yb s3 (length s0)) then
 (YWa ((getD s0 (Int.toNat s3) (Ty.zero T87)),s1)).bind fun y0=>
 bif y0 then
 some s3
 else
 Zm4 s0 s1 s2 (wrap i64 (s3+1))
 else
 none
 else
 some (-(1:Int)):=by unfold Zm4; rewrite [Y8]; kernel_rfl
theorem YIg (x:(D87×D37)):YWa x=
 Zn4 x.1 x.2:=by kernel_rfl
theorem YKf (s0:D87) (s1:D37):Zn4 s0 s1=
 some (Ty.beq T37 s0.1 s1):=by unfold Zn4; rewrite [Y8]; kernel_rfl
theorem Yyh (x:List UInt8):YC4 x=YG3 x:=by kernel_rfl
theorem Y3i (x:((List Int)×Int)):YF4 x=
 Zo4 x.1 x.2:=by kernel_rfl
theorem YOf (s0:(List Int)) (s1:Int):Zo4 s0 s1=
 (Ynb (s0,s1)).bind fun y0=>
 some (decide (y0>=0)):=by unfold Zo4; rewrite [Y8]; kernel_rfl
theorem Y5i (x:((List Int)×Int)):Ynb x=
 Zp4 x.1 x.2:=by kernel_rfl
theorem YRf (s0:(List Int)) (s1:Int):Zp4 s0 s1=
 Zq4 s0 s1 (((length s0):Nat):Int) (0:Int):=by unfold Zp4; rewrite [Y8]; kernel_rfl
theorem Yr5 (s0:(List Int)) (s1:Int) (s2:Int) (s3:Int):Zq4 s0 s1 s2 s3=
 bif (decide (s3 < s2)) then
 bif (Yb s3 (length s0)) then
 bif (s1==(getD s0 (Int.toNat s3) (Ty.zero (.int .i64)))) then
 some s3
 else
 Zq4 s0 s1 s2 (wrap i64 (s3+1))
 else
 none
 else
 some (-(1:Int)):=by unfold Zq4; rewrite [Y8]; kernel_rfl
end
end Go.Abs
