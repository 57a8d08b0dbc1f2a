/- Part Q3 of the proof: see the last text of the claim. No condition of its own. -/
import Derived.Test.YtddagflhafkbnaaGreatDoorQ1
import Derived.Test.YtddagflhafkbnaaGreatDoorQ2
set_option linter.all false
set_option autoImplicit false
namespace Go.Abs
noncomputable section
open IntKind List
def Yp9 (x:(List UInt8×Bool)):Option (D35×Int):=Abs.Call E 48 x
def Z84 (s0:List UInt8) (s1:Bool):Option (D35×Int):=(Abs.Run E 48 (E.at 48 []) ⟨Y7 [(1,(.val .bool s1)),(0,(.val .str s0))],Ye [],Yf []⟩)
def Z94 (s0:List UInt8) (s1:Bool) (s2:List UInt8) (s3:Int) (s4:Int) (b5:D35):Option (D35×Int):=(Abs.Run E 48 (E.at 48 [1,1,1,1,1,0,1,0,7]) ⟨Y7 [(0,(.val .str s0)),(1,(.val .bool s1)),(4,(.addr (.box 0) [])),(10,(.val .str s2)),(95,(.val (.int .i64) s3)),(96,(.val (.int .i64) s4))],Yc [.cells T35 .live (.val T35 b5)],Yd []⟩)
def Y04 (x:List UInt8):Option (List UInt8×Int):=Abs.Call E 56 x
def Za4 (s0:List UInt8):Option (List UInt8×Int):=(Abs.Run E 56 (E.at 56 []) ⟨Y7 [(0,(.val .str s0))],Ye [],Yf []⟩)
def Zb4 (s0:List UInt8) (s1:Int) (t2:List UInt8) (n3:Nat) (r4:List (List UInt8)):Option (List UInt8×Int):=(Abs.Run E 56 (E.at 56 [1,1,1,1,1,1,0,1,0,7]) ⟨Y7 [(0,(.val .str s0)),(6,(.row 0)),(7,(.val (.int .i64) s1)),(27,(.addr (.box 0) []))],Yc [.iter t2 n3],Yd [.mk .str .live r4]⟩)
def Zc4 (s0:List UInt8) (s1:Int) (s2:Int) (r3:List (List UInt8)):Option (List UInt8×Int):=(Abs.Run E 56 (E.at 56 [1,1,1,1,1,1,1,1,0,1,0,7]) ⟨Y7 [(0,(.val .str s0)),(6,(.row 0)),(53,(.val (.int .i64) s1)),(54,(.val (.int .i64) s2))],Yc [],Yd [.mk .str .live r3]⟩)
def Yo9 (x:List UInt8):Option (List (List UInt8)):=Abs.Call E 63 x
def Zd4 (s0:List UInt8):Option (List (List UInt8)):=(Abs.Run E 63 (E.at 63 []) ⟨Y7 [(0,(.val .str s0))],Ye [],Yf []⟩)
def Y64 (x:(List UInt8×List UInt8)):Option Bool:=Abs.Call E 123 x
def Ze4 (s0:List UInt8) (s1:List UInt8):Option Bool:=(Abs.Run E 123 (E.at 123 []) ⟨Y7 [(1,(.val .str s1)),(0,(.val .str s0))],Ye [],Yf []⟩)
def Y34 (x:(Int×List UInt8)):Option (List UInt8×Int):=Abs.Call E 124 x
def Zf4 (s0:Int) (s1:List UInt8):Option (List UInt8×Int):=(Abs.Run E 124 (E.at 124 []) ⟨Y7 [(1,(.val .str s1)),(0,(.val (.int .i64) s0))],Ye [],Yf []⟩)
def Y24 (x:List UInt8):Option (List UInt8):=Abs.Call E 125 x
def Zg4 (s0:List UInt8):Option (List UInt8):=(Abs.Run E 125 (E.at 125 []) ⟨Y7 [(0,(.val .str s0))],Ye [],Yf []⟩)
def Yk7 (x:List UInt8):Option (Bool×Int):=Abs.Call E 134 x
def Zh4 (s0:List UInt8):Option (Bool×Int):=(Abs.Run E 134 (E.at 134 []) ⟨Y7 [(0,(.val .str s0))],Ye [],Yf []⟩)
def Zi4 (s0:List UInt8) (t1:List UInt8) (n2:Nat):Option (Bool×Int):=(Abs.Run E 134 (E.at 134 [1,0,1,0,7]) ⟨Y7 [(0,(.val .str s0)),(6,(.addr (.box 0) []))],Yc [.iter t1 n2],Yd []⟩)
def YI6 (x:Int):Option Bool:=Abs.Call E 135 x
def Zj4 (s0:Int):Option Bool:=(Abs.Run E 135 (E.at 135 []) ⟨Y7 [(0,(.val (.int .i32) s0))],Ye [],Yf []⟩)
def Yy5 (x:(List UInt8×Bool)):Option (List UInt8×Int):=Abs.Call E 136 x
def Zk4 (s0:List UInt8) (s1:Bool):Option (List UInt8×Int):=(Abs.Run E 136 (E.at 136 []) ⟨Y7 [(1,(.val .bool s1)),(0,(.val .str s0))],Ye [],Yf []⟩)
def Zl4 (s0:List UInt8) (s1:Bool) (s2:Bool):Option (List UInt8×Int):=(Abs.Run E 136 (E.at 136 [1,1,1,0,1,9]) ⟨Y7 [(0,(.val .str s0)),(1,(.val .bool s1)),(6,(.val .bool s2))],Yc [],Yd []⟩)
def Yh7 (x:((List (List UInt8))×List UInt8)):Option (List UInt8):=Abs.Call E 137 x
def Y8a (x:(List UInt8×List UInt8)):Option (List UInt8):=Abs.Call E 138 x
def Zm4 (s0:List UInt8) (s1:List UInt8):Option (List UInt8):=(Abs.Run E 138 (E.at 138 []) ⟨Y7 [(1,(.val .str s1)),(0,(.val .str s0))],Ye [],Yf []⟩)
def YB5 (x:List UInt8):Option (List UInt8×Int):=Abs.Call E 143 x
def Zn4 (s0:List UInt8):Option (List UInt8×Int):=(Abs.Run E 143 (E.at 143 []) ⟨Y7 [(0,(.val .str s0))],Ye [],Yf []⟩)
def Y5a (x:(List UInt8×List UInt8)):Option Int:=Abs.Call E 177 x
def Zo4 (s0:List UInt8) (s1:List UInt8):Option Int:=(Abs.Run E 177 (E.at 177 []) ⟨Y7 [(1,(.val .str s1)),(0,(.val .str s0))],Ye [],Yf []⟩)
def Zp4 (s0:List UInt8) (s1:List UInt8) (s2:Int):Option Int:=(Abs.Run E 177 (E.at 177 [1,1,0,1,0,1,0,1,9]) ⟨Y7 [(0,(.val .str s0)),(1,(.val .str s1)),(5,(.val (.int .i32) s2))],Yc [],Yd []⟩)
def Zq4 (s0:List UInt8) (s1:List UInt8) (s2:Int) (b3:(List Bool)):Option Int:=(Abs.Run E 177 (E.at 177 [1,1,1,0,1,0,1,1,0,0,1,0,7]) ⟨Y7 [(0,(.val .str s0)),(1,(.val .str s1)),(6,(.addr (.box 0) [])),(8,(.val (.int .i64) s2))],Yc [.cells (.arr 256 .bool) .live (.val (.arr 256 .bool) b3)],Yd []⟩)
def Zr4 (s0:List UInt8) (s1:List UInt8):Option Int:=(Abs.Run E 177 (E.at 177 [1,1,1,0,1,9]) ⟨Y7 [(0,(.val .str s0)),(1,(.val .str s1))],Yc [],Yd []⟩)
def Zs4 (s0:List UInt8) (s1:List UInt8) (t2:List UInt8) (n3:Nat):Option Int:=(Abs.Run E 177 (E.at 177 [1,1,1,1,0,1,0,7]) ⟨Y7 [(0,(.val .str s0)),(1,(.val .str s1)),(45,(.addr (.box 0) []))],Yc [.iter t2 n3],Yd []⟩)
def YOe (x:(Int×(List Int))):Option (List UInt8×Int):=Abs.Call E 178 x
def Zt4 (s0:Int) (s1:(List Int)):Option (List UInt8×Int):=(Abs.Run E 178 (E.at 178 []) ⟨Y7 [(1,(.val (.sl false (.int .u8)) s1)),(0,(.val (.int .i64) s0))],Ye [],Yf []⟩)
def Zu4 (s0:Int) (s1:(List Int)) (s2:(List Int)) (s3:Int) (s4:Int) (b5:(List Bool)) (r6:List Int):Option (List UInt8×Int):=(Abs.Run E 178 (E.at 178 [1,1,1,1,0,1,0,7]) ⟨Y7 [(0,(.val (.int .i64) s0)),(1,(.val (.sl false (.int .u8)) s1)),(6,(.addr (.box 0) [])),(7,(.row 0)),(16,(.val (.sl false (.int .u8)) s2)),(17,(.val (.int .i64) s3)),(18,(.val (.int .i64) s4))],Yc [.cells (.arr 256 .bool) .live (.val (.arr 256 .bool) b5)],Yd [.mk (.int .u8) .live r6]⟩)
def Yl7 (x:List UInt8):Option (List UInt8):=Abs.Call E 179 x
def Zv4 (s0:List UInt8):Option (List UInt8):=(Abs.Run E 179 (E.at 179 []) ⟨Y7 [(0,(.val .str s0))],Ye [],Yf []⟩)
def YNe (x:List UInt8):Option (List Int):=Abs.Call E 180 x
def Zw4 (s0:List UInt8):Option (List Int):=(Abs.Run E 180 (E.at 180 []) ⟨Y7 [(0,(.val .str s0))],Ye [],Yf []⟩)
def Zx4 (s0:List UInt8) (s1:Int) (r2:List Int):Option (List Int):=(Abs.Run E 180 (E.at 180 [1,1,0,1,0,7]) ⟨Y7 [(0,(.val .str s0)),(3,(.row 0)),(4,(.val (.int .i64) s1))],Yc [],Yd [.mk (.int .u8) .live r2]⟩)
def Ym7 (x:(List UInt8×Int)):Option D181:=Abs.Call E 190 x
def Zy4 (s0:List UInt8) (s1:Int):Option D181:=(Abs.Run E 190 (E.at 190 []) ⟨Y7 [(1,(.val (.int .i64) s1)),(0,(.val .str s0))],Ye [],Yf []⟩)
def YD4 (x:(List UInt8×Int)):Option Bool:=Abs.Call E 191 x
def Zz4 (s0:List UInt8) (s1:Int):Option Bool:=(Abs.Run E 191 (E.at 191 []) ⟨Y7 [(1,(.val (.int .i32) s1)),(0,(.val .str s0))],Ye [],Yf []⟩)
def Z05 (s0:List UInt8) (s1:Int) (t2:List UInt8) (n3:Nat):Option Bool:=(Abs.Run E 191 (E.at 191 [1,0,1,0,7]) ⟨Y7 [(0,(.val .str s0)),(1,(.val (.int .i32) s1)),(8,(.addr (.box 0) []))],Yc [.iter t2 n3],Yd []⟩)
def Yq9 (x:List UInt8):Option Bool:=Abs.Call E 192 x
def Z15 (s0:List UInt8):Option Bool:=(Abs.Run E 192 (E.at 192 []) ⟨Y7 [(0,(.val .str s0))],Ye [],Yf []⟩)
def YO6 (x:List UInt8):Option (List UInt8×Int):=Abs.Call E 193 x
def Z25 (s0:List UInt8):Option (List UInt8×Int):=(Abs.Run E 193 (E.at 193 []) ⟨Y7 [(0,(.val .str s0))],Ye [],Yf []⟩)
def Yuf (x:(List UInt8×Unit)):Option Int:=Abs.Call E 194 x
def Z35 (s0:List UInt8) (s1:Unit):Option Int:=(Abs.Run E 194 (E.at 194 []) ⟨Y7 [(1,(.cl 239 0 (.val .unit s1))),(0,(.val .str s0))],Ye [],Yf []⟩)
def Yvf (x:(List UInt8×Unit)):Option Int:=Abs.Call E 1194 x
def Z45 (s0:List UInt8) (s1:Unit):Option Int:=(Abs.Run E 1194 (E.at 1194 []) ⟨Y7 [(1,(.cl 248 0 (.val .unit s1))),(0,(.val .str s0))],Ye [],Yf []⟩)
def YN5 (x:(List UInt8×Unit)):Option Int:=Abs.Call E 2194 x
def Z55 (s0:List UInt8) (s1:Unit):Option Int:=(Abs.Run E 2194 (E.at 2194 []) ⟨Y7 [(1,(.cl 135 0 (.val .unit s1))),(0,(.val .str s0))],Ye [],Yf []⟩)
def YJe (x:(List UInt8×List UInt8)):Option (List UInt8):=Abs.Call E 198 x
def Z65 (s0:List UInt8) (s1:List UInt8):Option (List UInt8):=(Abs.Run E 198 (E.at 198 []) ⟨Y7 [(1,(.val .str s1)),(0,(.val .str s0))],Ye [],Yf []⟩)
def Yz9 (x:List UInt8):Option (List UInt8×(Int×Int)):=Abs.Call E 204 x
def Z75 (s0:List UInt8):Option (List UInt8×(Int×Int)):=(Abs.Run E 204 (E.at 204 []) ⟨Y7 [(0,(.val .str s0))],Ye [],Yf []⟩)
def YP6 (x:List UInt8):Option Bool:=Abs.Call E 205 x
def Z85 (s0:List UInt8):Option Bool:=(Abs.Run E 205 (E.at 205 []) ⟨Y7 [(0,(.val .str s0))],Ye [],Yf []⟩)
def Yv9 (x:(List UInt8×List UInt8)):Option Bool:=Abs.Call E 206 x
def Z95 (s0:List UInt8) (s1:List UInt8):Option Bool:=(Abs.Run E 206 (E.at 206 []) ⟨Y7 [(1,(.val .str s1)),(0,(.val .str s0))],Ye [],Yf []⟩)
def Yg7 (x:(List UInt8×Int)):Option Int:=Abs.Call E 216 x
def Za5 (s0:List UInt8) (s1:Int):Option Int:=(Abs.Run E 216 (E.at 216 []) ⟨Y7 [(1,(.val (.int .i32) s1)),(0,(.val .str s0))],Ye [],Yf []⟩)
def Zb5 (s0:List UInt8) (s1:Int) (t2:List UInt8) (n3:Nat):Option Int:=(Abs.Run E 216 (E.at 216 [1,0,1,1,1,0,0,1,0,7]) ⟨Y7 [(0,(.val .str s0)),(1,(.val (.int .i32) s1)),(175,(.addr (.box 0) []))],Yc [.iter t2 n3],Yd []⟩)
def Zc5 (s0:List UInt8) (s1:Int) (s2:List UInt8) (s3:Int) (s4:Int):Option Int:=(Abs.Run E 216 (E.at 216 [1,0,1,1,1,1,1,1,0,1,1,1,1,0,0,7]) ⟨Y7 [(0,(.val .str s0)),(1,(.val (.int .i32) s1)),(7,(.val .str s2)),(8,(.val (.int .i64) s3)),(9,(.val (.int .i64) s4))],Yc [],Yd []⟩)
def Zd5 (s0:List UInt8) (s1:Int) (s2:List UInt8) (s3:Int) (s4:Int):Option Int:=(Abs.Run E 216 (E.at 216 [1,0,1,1,1,1,1,1,0,1,1,1,1,0,0,0,1,0,0,0,1,9]) ⟨Y7 [(0,(.val .str s0)),(1,(.val (.int .i32) s1)),(7,(.val .str s2)),(8,(.val (.int .i64) s3)),(9,(.val (.int .i64) s4))],Yc [],Yd []⟩)
def YCf (x:Int):Option Bool:=Abs.Call E 217 x
def Ze5 (s0:Int):Option Bool:=(Abs.Run E 217 (E.at 217 []) ⟨Y7 [(0,(.val (.int .i64) s0))],Ye [],Yf []⟩)
def YBf (x:List UInt8):Option ((List Bool)×Bool):=Abs.Call E 218 x
def Yxf (x:((List Bool)×Int)):Option (Bool×(List Bool)):=Abs.Call E 219 x
def Zf5 (s0:Int) (b1:(List Bool)):Option (Bool×(List Bool)):=(Abs.Run E 219 (E.at 219 []) ⟨Y7 [(1,(.val (.int .u8) s0)),(0,(.addr (.box 1073741824) []))],Ye [(1073741824,.cells (.arr 256 .bool) .live (.val (.arr 256 .bool) b1))],Yf []⟩)
def YQe (x:Int):Option Bool:=Abs.Call E 220 x
def Zg5 (s0:Int):Option Bool:=(Abs.Run E 220 (E.at 220 []) ⟨Y7 [(0,(.val (.int .i64) s0))],Ye [],Yf []⟩)
def YPe (x:Unit):Option (List (List Bool)):=Abs.Call E 221 x
def Yw9 (x:((List Int)×Int)):Option (List Int):=Abs.Call E 222 x
def Zh5 (s0:Int) (r1:List Int):Option (List Int):=(Abs.Run E 222 (E.at 222 []) ⟨Y7 [(1,(.val (.int .u8) s0)),(0,(.row 1073741824))],Ye [],Yf [(1073741824,.mk (.int .u8) .live r1)]⟩)
def Yba (x:(List D181)):Option (List UInt8):=Abs.Call E 223 x
def Zi5 (s0:(List D181)):Option (List UInt8):=(Abs.Run E 223 (E.at 223 []) ⟨Y7 [(0,(.val (.sl false T181) s0))],Ye [],Yf []⟩)
def Zj5 (s0:(List D181)) (s1:(List D181)) (s2:Int) (s3:Int):Option (List UInt8):=(Abs.Run E 223 (E.at 223 [1,1,0,1,0,7]) ⟨Y7 [(0,(.val (.sl false T181) s0)),(3,.nils),(6,(.val (.sl false T181) s1)),(7,(.val (.int .i64) s2)),(8,(.val (.int .i64) s3))],Yc [],Yd []⟩)
def Zk5 (s0:(List D181)) (s1:(List D181)) (s2:Int) (s3:Int) (r4:List Int):Option (List UInt8):=(Abs.Run E 223 (E.at 223 [1,1,0,1,0,7]) ⟨Y7 [(0,(.val (.sl false T181) s0)),(3,(.row 0)),(6,(.val (.sl false T181) s1)),(7,(.val (.int .i64) s2)),(8,(.val (.int .i64) s3))],Yc [],Yd [.mk (.int .u8) .live r4]⟩)
def Y9a (x:List UInt8):Option (List D181):=Abs.Call E 224 x
def Zl5 (s0:List UInt8):Option (List D181):=(Abs.Run E 224 (E.at 224 []) ⟨Y7 [(0,(.val .str s0))],Ye [],Yf []⟩)
def Zm5 (s0:List UInt8) (s1:Int) (r2:List D181):Option (List D181):=(Abs.Run E 224 (E.at 224 [1,1,0,1,0,7]) ⟨Y7 [(0,(.val .str s0)),(3,(.row 0)),(4,(.val (.int .i64) s1))],Yc [],Yd [.mk T181 .live r2]⟩)
def Zn5 (s0:List UInt8) (s1:Int) (b2:D181) (r3:List D181):Option (List D181):=(Abs.Run E 224 (E.at 224 [1,1,0,1,0,0,1,0,1,0,1,9]) ⟨Y7 [(0,(.val .str s0)),(3,(.row 0)),(4,(.val (.int .i64) s1)),(5,(.addr (.box 0) []))],Yc [.cells T181 .live (.val T181 b2)],Yd [.mk T181 .live r3]⟩)
def Yx9 (x:(List UInt8×Int)):Option Int:=Abs.Call E 225 x
def Zo5 (s0:List UInt8) (s1:Int):Option Int:=(Abs.Run E 225 (E.at 225 []) ⟨Y7 [(1,(.val (.int .i64) s1)),(0,(.val .str s0))],Ye [],Yf []⟩)
def YCe (x:Int):Option (List UInt8):=Abs.Call E 227 x
def YEf (x:List UInt8):Option (Int×Int):=Abs.Call E 238 x
def Yse (x:Int):Option Bool:=Abs.Call E 239 x
def Zp5 (s0:Int):Option Bool:=(Abs.Run E 239 (E.at 239 []) ⟨Y7 [(0,(.val (.int .i32) s0))],Ye [],Yf []⟩)
def YA9 (x:List UInt8):Option (List UInt8×Int):=Abs.Call E 240 x
def Zq5 (s0:List UInt8):Option (List UInt8×Int):=(Abs.Run E 240 (E.at 240 []) ⟨Y7 [(0,(.val .str s0))],Ye [],Yf []⟩)
def Zr5 (s0:List UInt8) (s1:Int) (s2:Int) (r3:List Int) (r4:List Int):Option (List UInt8×Int):=(Abs.Run E 240 (E.at 240 [1,1,1,1,1,0,1,0,7]) ⟨Y7 [(0,(.val .str s0)),(6,(.row 0)),(7,(.row 1)),(35,(.row 0)),(36,(.val (.int .i64) s1)),(37,(.val (.int .i64) s2))],Yc [],Yd [.mk (.int .i32) .live r3,.mk (.int .u8) .live r4]⟩)
def Zs5 (s0:List UInt8) (s1:Int) (s2:Int) (r3:List Int) (r4:List Int):Option (List UInt8×Int):=(Abs.Run E 240 (E.at 240 [1,1,1,1,1,1,1,1,0,1,9]) ⟨Y7 [(0,(.val .str s0)),(6,(.row 0)),(7,(.row 1)),(10,(.val (.int .i64) s1)),(11,(.val (.int .i64) s2))],Yc [],Yd [.mk (.int .i32) .live r3,.mk (.int .u8) .live r4]⟩)
def Zt5 (s0:List UInt8) (s1:Int) (s2:Int) (s3:Int) (s4:Int) (s5:Int) (r6:List Int) (r7:List Int):Option (List UInt8×Int):=(Abs.Run E 240 (E.at 240 [1,1,1,1,1,1,1,1,1,1,0,0,7]) ⟨Y7 [(0,(.val .str s0)),(6,(.row 0)),(7,(.row 1)),(10,(.val (.int .i64) s1)),(11,(.val (.int .i64) s2)),(12,(.val (.int .i32) s3)),(13,(.val (.int .i64) s4)),(14,(.val (.int .i64) s5))],Yc [],Yd [.mk (.int .i32) .live r6,.mk (.int .u8) .live r7]⟩)
def Zu5 (s0:List UInt8) (s1:Int) (s2:Int) (s3:Int) (s4:Int) (s5:Int) (s6:Int) (s7:Int) (s8:Int) (r9:List Int) (r10:List Int):Option (List UInt8×Int):=(Abs.Run E 240 (E.at 240 [1,1,1,1,1,1,1,1,1,1,0,0,0,1,0,1,0,1,0,7]) ⟨Y7 [(0,(.val .str s0)),(6,(.row 0)),(7,(.row 1)),(10,(.val (.int .i64) s1)),(11,(.val (.int .i64) s2)),(12,(.val (.int .i32) s3)),(13,(.val (.int .i64) s4)),(14,(.val (.int .i64) s5)),(15,(.val (.int .i32) s6)),(61,(.row 0)),(62,(.val (.int .i64) s7)),(63,(.val (.int .i64) s8))],Yc [],Yd [.mk (.int .i32) .live r9,.mk (.int .u8) .live r10]⟩)
def Zv5 (s0:List UInt8) (s1:Int) (s2:Int) (s3:Int) (s4:Int) (s5:Int) (s6:Int) (s7:Int) (r8:List Int) (r9:List Int):Option (List UInt8×Int):=(Abs.Run E 240 (E.at 240 [1,1,1,1,1,1,1,1,1,1,0,0,0,1,0,1,1,1,1,0,1,0,7]) ⟨Y7 [(0,(.val .str s0)),(6,(.row 0)),(7,(.row 1)),(10,(.val (.int .i64) s1)),(11,(.val (.int .i64) s2)),(12,(.val (.int .i32) s3)),(13,(.val (.int .i64) s4)),(14,(.val (.int .i64) s5)),(87,(.row 0)),(88,(.val (.int .i64) s6)),(89,(.val (.int .i64) s7))],Yc [],Yd [.mk (.int .i32) .live r8,.mk (.int .u8) .live r9]⟩)
def Zw5 (s0:List UInt8) (s1:Int) (s2:Int) (s3:Int) (s4:Int) (s5:Int) (s6:Int) (s7:Int) (s8:Int) (r9:List Int) (r10:List Int):Option (List UInt8×Int):=(Abs.Run E 240 (E.at 240 [1,1,1,1,1,1,1,1,1,1,0,0,0,1,0,1,1,1,1,0,1,0,0,1,1,0,0,1,0,1,9]) ⟨Y7 [(0,(.val .str s0)),(6,(.row 0)),(7,(.row 1)),(10,(.val (.int .i64) s1)),(11,(.val (.int .i64) s2)),(12,(.val (.int .i32) s3)),(13,(.val (.int .i64) s4)),(14,(.val (.int .i64) s5)),(19,(.val (.int .i32) s6)),(87,(.row 0)),(88,(.val (.int .i64) s7)),(89,(.val (.int .i64) s8))],Yc [],Yd [.mk (.int .i32) .live r9,.mk (.int .u8) .live r10]⟩)
def Yyf (x:(List UInt8×(Unit×Bool))):Option Int:=Abs.Call E 241 x
def Zx5 (s0:List UInt8) (s1:Unit) (s2:Bool):Option Int:=(Abs.Run E 241 (E.at 241 []) ⟨Y7 [(2,(.val .bool s2)),(1,(.cl 239 0 (.val .unit s1))),(0,(.val .str s0))],Ye [],Yf []⟩)
def Zy5 (s0:List UInt8) (s1:Unit) (s2:Bool) (t3:List UInt8) (n4:Nat):Option Int:=(Abs.Run E 241 (E.at 241 [1,0,1,0,7]) ⟨Y7 [(0,(.val .str s0)),(1,(.cl 239 0 (.val .unit s1))),(2,(.val .bool s2)),(10,(.addr (.box 0) []))],Yc [.iter t3 n4],Yd []⟩)
def YAf (x:(List UInt8×(Unit×Bool))):Option Int:=Abs.Call E 1241 x
def Zz5 (s0:List UInt8) (s1:Unit) (s2:Bool):Option Int:=(Abs.Run E 1241 (E.at 1241 []) ⟨Y7 [(2,(.val .bool s2)),(1,(.cl 248 0 (.val .unit s1))),(0,(.val .str s0))],Ye [],Yf []⟩)
def Z06 (s0:List UInt8) (s1:Unit) (s2:Bool) (t3:List UInt8) (n4:Nat):Option Int:=(Abs.Run E 1241 (E.at 1241 [1,0,1,0,7]) ⟨Y7 [(0,(.val .str s0)),(1,(.cl 248 0 (.val .unit s1))),(2,(.val .bool s2)),(10,(.addr (.box 0) []))],Yc [.iter t3 n4],Yd []⟩)
def Yzf (x:(List UInt8×(Unit×Bool))):Option Int:=Abs.Call E 2241 x
def Z16 (s0:List UInt8) (s1:Unit) (s2:Bool):Option Int:=(Abs.Run E 2241 (E.at 2241 []) ⟨Y7 [(2,(.val .bool s2)),(1,(.cl 135 0 (.val .unit s1))),(0,(.val .str s0))],Ye [],Yf []⟩)
def Z26 (s0:List UInt8) (s1:Unit) (s2:Bool) (t3:List UInt8) (n4:Nat):Option Int:=(Abs.Run E 2241 (E.at 2241 [1,0,1,0,7]) ⟨Y7 [(0,(.val .str s0)),(1,(.cl 135 0 (.val .unit s1))),(2,(.val .bool s2)),(10,(.addr (.box 0) []))],Yc [.iter t3 n4],Yd []⟩)
def YHe (x:(List UInt8×List UInt8)):Option Bool:=Abs.Call E 244 x
def Z36 (s0:List UInt8) (s1:List UInt8):Option Bool:=(Abs.Run E 244 (E.at 244 []) ⟨Y7 [(1,(.val .str s1)),(0,(.val .str s0))],Ye [],Yf []⟩)
def YQ6 (x:List UInt8):Option (List UInt8×(Int×Int)):=Abs.Call E 247 x
def Z46 (s0:List UInt8):Option (List UInt8×(Int×Int)):=(Abs.Run E 247 (E.at 247 []) ⟨Y7 [(0,(.val .str s0))],Ye [],Yf []⟩)
def Z56 (s0:List UInt8) (s1:Int) (s2:Int):Option (List UInt8×(Int×Int)):=(Abs.Run E 247 (E.at 247 [1,0,1,0,7]) ⟨Y7 [(0,(.val .str s0)),(19,(.val (.int .i64) s1)),(20,(.val (.int .i64) s2))],Yc [],Yd []⟩)
def Z66 (s0:List UInt8) (s1:Int) (r2:List Int):Option (List UInt8×(Int×Int)):=(Abs.Run E 247 (E.at 247 [1,1,1,1,0,1,9]) ⟨Y7 [(0,(.val .str s0)),(6,(.row 0)),(7,(.val (.int .i64) s1))],Yc [],Yd [.mk (.int .i32) .live r2]⟩)
def Z76 (s0:List UInt8) (s1:Int):Option (List UInt8×(Int×Int)):=(Abs.Run E 247 (E.at 247 [1,1,1,1,0,1,9]) ⟨Y7 [(0,(.val .str s0)),(6,.nils),(7,(.val (.int .i64) s1))],Yc [],Yd []⟩)
def Z86 (s0:List UInt8) (s1:Int) (s2:Int) (s3:Int) (s4:Int) (s5:Int) (r6:List Int):Option (List UInt8×(Int×Int)):=(Abs.Run E 247 (E.at 247 [1,1,1,1,1,1,1,0,0,7]) ⟨Y7 [(0,(.val .str s0)),(6,(.row 0)),(7,(.val (.int .i64) s1)),(8,(.val (.int .i64) s2)),(9,(.val (.int .i64) s3)),(10,(.val (.int .i64) s4)),(11,(.val (.int .i64) s5))],Yc [],Yd [.mk (.int .i32) .live r6]⟩)
def Z96 (s0:List UInt8) (s1:Int) (s2:Int) (s3:Int) (s4:Int) (s5:Int):Option (List UInt8×(Int×Int)):=(Abs.Run E 247 (E.at 247 [1,1,1,1,1,1,1,0,0,7]) ⟨Y7 [(0,(.val .str s0)),(6,.nils),(7,(.val (.int .i64) s1)),(8,(.val (.int .i64) s2)),(9,(.val (.int .i64) s3)),(10,(.val (.int .i64) s4)),(11,(.val (.int .i64) s5))],Yc [],Yd []⟩)
def YUe (x:Int):Option Bool:=Abs.Call E 248 x
def Za6 (s0:Int):Option Bool:=(Abs.Run E 248 (E.at 248 []) ⟨Y7 [(0,(.val (.int .i32) s0))],Ye [],Yf []⟩)
def Yj7 (x:Int):Option Bool:=Abs.Call E 256 x
def Zb6 (s0:Int):Option Bool:=(Abs.Run E 256 (E.at 256 []) ⟨Y7 [(0,(.val (.int .i32) s0))],Ye [],Yf []⟩)
def Yi7 (x:((List Int)×Int)):Option (List Int):=Abs.Call E 258 x
def Zc6 (s0:Int) (r1:List Int):Option (List Int):=(Abs.Run E 258 (E.at 258 []) ⟨Y7 [(1,(.val (.int .i32) s0)),(0,(.row 1073741824))],Ye [],Yf [(1073741824,.mk (.int .u8) .live r1)]⟩)
def Yca (x:List UInt8):Option Int:=Abs.Call E 259 x
def Zd6 (s0:List UInt8):Option Int:=(Abs.Run E 259 (E.at 259 []) ⟨Y7 [(0,(.val .str s0))],Ye [],Yf []⟩)
def Ze6 (s0:List UInt8) (s1:Int) (s2:Int) (s3:Int) (s4:Int):Option Int:=(Abs.Run E 259 (E.at 259 [1,1,1,0,0,7]) ⟨Y7 [(0,(.val .str s0)),(3,(.val (.int .u8) s1)),(4,(.val (.int .u8) s2)),(5,(.val (.int .i64) s3)),(6,(.val (.int .i64) s4))],Yc [],Yd []⟩)
def YN6 (x:Int):Option Int:=Abs.Call E 260 x
def Zf6 (s0:Int):Option Int:=(Abs.Run E 260 (E.at 260 []) ⟨Y7 [(0,(.val (.int .u8) s0))],Ye [],Yf []⟩)
def YB9 (x:((List Int)×(Int×Int))):Option (List Int):=Abs.Call E 270 x
def Zg6 (s0:Int) (s1:Int) (r2:List Int):Option (List Int):=(Abs.Run E 270 (E.at 270 []) ⟨Y7 [(2,(.val (.int .i64) s1)),(1,(.val (.int .i64) s0)),(0,(.row 1073741824))],Ye [],Yf [(1073741824,.mk (.int .u8) .live r2)]⟩)
def Zh6 (s0:Int) (s1:Int) (s2:Int) (r3:List Int):Option (List Int):=(Abs.Run E 270 (E.at 270 [1,1,0,7]) ⟨Y7 [(0,(.row 0)),(1,(.val (.int .i64) s0)),(2,(.val (.int .i64) s1)),(7,(.val (.int .i64) s2))],Yc [],Yd [.mk (.int .u8) .live r3]⟩)
def YC5 (x:(Int×(Int×Bool))):Option Int:=Abs.Call E 271 x
def Zi6 (s0:Int) (s1:Int) (s2:Bool):Option Int:=(Abs.Run E 271 (E.at 271 []) ⟨Y7 [(2,(.val .bool s2)),(1,(.val (.int .i64) s1)),(0,(.val (.int .i64) s0))],Ye [],Yf []⟩)
def Zj6 (s0:Int) (s1:Int) (s2:Bool):Option Int:=(Abs.Run E 271 (E.at 271 [1,0,1,9]) ⟨Y7 [(0,(.val (.int .i64) s0)),(1,(.val (.int .i64) s1)),(2,(.val .bool s2))],Yc [],Yd []⟩)
def Zk6 (s0:Int) (s1:Int) (s2:Bool) (s3:Int):Option Int:=(Abs.Run E 271 (E.at 271 [1,1,1,1,0,0,7]) ⟨Y7 [(0,(.val (.int .i64) s0)),(1,(.val (.int .i64) s1)),(2,(.val .bool s2)),(7,(.val (.int .i64) s3))],Yc [],Yd []⟩)
def Y7a (x:(List UInt8×Int)):Option Int:=Abs.Call E 275 x
def Zl6 (s0:List UInt8) (s1:Int):Option Int:=(Abs.Run E 275 (E.at 275 []) ⟨Y7 [(1,(.val (.int .u8) s1)),(0,(.val .str s0))],Ye [],Yf []⟩)
def YR6 (x:(List UInt8×(Int×(Int×Int)))):Option (Int×(Int×(Int×Int))):=Abs.Call E 276 x
def Zm6 (s0:List UInt8) (s1:Int) (s2:Int) (s3:Int):Option (Int×(Int×(Int×Int))):=(Abs.Run E 276 (E.at 276 []) ⟨Y7 [(3,(.val (.int .i64) s3)),(2,(.val (.int .i64) s2)),(1,(.val (.int .i64) s1)),(0,(.val .str s0))],Ye [],Yf []⟩)
def Zn6 (s0:List UInt8) (s1:Int) (s2:Int) (s3:Int) (s4:Int) (s5:Int) (s6:Int):Option (Int×(Int×(Int×Int))):=(Abs.Run E 276 (E.at 276 [1,1,1,1,0,7]) ⟨Y7 [(0,(.val .str s0)),(1,(.val (.int .i64) s1)),(2,(.val (.int .i64) s2)),(3,(.val (.int .i64) s3)),(12,(.val (.int .i64) s4)),(13,(.val (.int .i64) s5)),(14,(.val (.int .i64) s6))],Yc [],Yd []⟩)
def Zo6 (s0:List UInt8) (s1:Int) (s2:Int) (s3:Int) (s4:Int) (s5:Int) (s6:Int) (s7:Int):Option (Int×(Int×(Int×Int))):=(Abs.Run E 276 (E.at 276 [1,1,1,1,0,0,0,0,1,1,0,1,1,9]) ⟨Y7 [(0,(.val .str s0)),(1,(.val (.int .i64) s1)),(2,(.val (.int .i64) s2)),(3,(.val (.int .i64) s3)),(12,(.val (.int .i64) s4)),(13,(.val (.int .i64) s5)),(14,(.val (.int .i64) s6)),(15,(.val (.int .i64) s7))],Yc [],Yd []⟩)
def Y54 (x:((List Int)×(Int×(List Int)))):Option (List Int):=Abs.Call E 277 x
def YFf (x:((List Int)×Int)):Option (List Int):=Abs.Call E 282 x
def Zp6 (s0:Int) (r1:List Int):Option (List Int):=(Abs.Run E 282 (E.at 282 []) ⟨Y7 [(1,(.val (.int .i32) s0)),(0,(.row 1073741824))],Ye [],Yf [(1073741824,.mk (.int .u8) .live r1)]⟩)
def Zq6 (s0:Int) (s1:Int) (s2:Bool) (r3:List Int):Option (List Int):=(Abs.Run E 282 (E.at 282 [1,1,0,1,1,0,1,9]) ⟨Y7 [(0,(.row 0)),(1,(.val (.int .i32) s0)),(5,(.val (.int .u32) s1)),(25,(.val .bool s2))],Yc [],Yd [.mk (.int .u8) .live r3]⟩)
def Yaa (x:Int):Option (Int×(Int×Int)):=Abs.Call E 283 x
def Zr6 (s0:Int):Option (Int×(Int×Int)):=(Abs.Run E 283 (E.at 283 []) ⟨Y7 [(0,(.val (.int .u8) s0))],Ye [],Yf []⟩)
def YS6 (x:(Int×Int)):Option Int:=Abs.Call E 290 x
def Zs6 (s0:Int) (s1:Int):Option Int:=(Abs.Run E 290 (E.at 290 []) ⟨Y7 [(1,(.val (.int .i64) s1)),(0,(.val (.int .i64) s0))],Ye [],Yf []⟩)
def YAe (x:(List UInt8×Int)):Option Int:=Abs.Call E 292 x
def Zt6 (s0:List UInt8) (s1:Int):Option Int:=(Abs.Run E 292 (E.at 292 []) ⟨Y7 [(1,(.val (.int .u8) s1)),(0,(.val .str s0))],Ye [],Yf []⟩)
def Zu6 (s0:List UInt8) (s1:Int) (s2:Int):Option Int:=(Abs.Run E 292 (E.at 292 [1,0,1,0,7]) ⟨Y7 [(0,(.val .str s0)),(1,(.val (.int .u8) s1)),(5,(.val (.int .i64) s2))],Yc [],Yd []⟩)
theorem YCm (x:(List UInt8×Bool)):Yp9 x=
 Z84 x.1 x.2:=by kernel_rfl
theorem YZj (s0:List UInt8) (s1:Bool):Z84 s0 s1=
 bif (decide ((((length s0):Nat):Int) > 65536)) then
 some (((Ty.zero (.int .i64)),((Ty.zero .str),((Ty.zero (.int .u32)),(Ty.zero (.arr 8 (.int .u16)))))),(5:Int))
 else
 bif (!(s0==([]:List UInt8))) then
 bif (Ya (0:Int) (length s0)) then
 bif ((((UInt8.toNat (getD s0 (Int.toNat (0:Int)) (0:UInt8))):Nat):Int)==91) then
 bif (Ya (wrap i64 ((((length s0):Nat):Int) - 1)) (length s0)) then
 bif ((((UInt8.toNat (getD s0 (Int.toNat (wrap i64 ((((length s0):Nat):Int) - 1))) (0:UInt8))):Nat):Int) !=93) then
 some (((Ty.zero (.int .i64)),((Ty.zero .str),((Ty.zero (.int .u32)),(Ty.zero (.arr 8 (.int .u16)))))),(51:Int))
 else
 bif (decide ((((length s0):Nat):Int) < 2)) then
 some (((Ty.zero (.int .i64)),((Ty.zero .str),((Ty.zero (.int .u32)),(Ty.zero (.arr 8 (.int .u16)))))),(51:Int))
 else
 bif (Yi (some (1:Int)) (some (wrap i64 ((((length s0):Nat):Int) - 1))) (length s0)) then
 (Yn9 (Yl (some (1:Int)) (some (wrap i64 ((((length s0):Nat):Int) - 1))) s0)).bind fun y0=>
 bif (y0.2 !=0) then
 some (((Ty.zero (.int .i64)),((Ty.zero .str),((Ty.zero (.int .u32)),(Ty.zero (.arr 8 (.int .u16)))))),y0.2)
 else
 some (((3:Int),((Ty.zero .str),((Ty.zero (.int .u32)),y0.1))),(0:Int))
 else
 none
 else
 none
 else
 bif (!s1) then
 bif (s0==([]:List UInt8)) then
 some (((5:Int),((Ty.zero .str),((Ty.zero (.int .u32)),(Ty.zero (.arr 8 (.int .u16)))))),(0:Int))
 else
 bif (!s1) then
 (Y64 (s0,([0,9,10,13,32,35,47,58,60,62,63,64,91,92,93,94,124]:List UInt8))).bind fun y0=>
 bif y0 then
 some (((Ty.zero (.int .i64)),((Ty.zero .str),((Ty.zero (.int .u32)),(Ty.zero (.arr 8 (.int .u16)))))),(52:Int))
 else
 (Y34 ((1:Int),s0)).bind fun y1=>
 bif (decide ((((length y1.1):Nat):Int) > 65536)) then
 some (((Ty.zero (.int .i64)),((Ty.zero .str),((Ty.zero (.int .u32)),(Ty.zero (.arr 8 (.int .u16)))))),(5:Int))
 else
 some (((4:Int),(y1.1,((Ty.zero (.int .u32)),(Ty.zero (.arr 8 (.int .u16)))))),(0:Int))
 else
 (Y24 s0).bind fun y0=>
 (Y04 y0).bind fun y1=>
 bif (y1.2 !=0) then
 some (((Ty.zero (.int .i64)),((Ty.zero .str),((Ty.zero (.int .u32)),(Ty.zero (.arr 8 (.int .u16)))))),y1.2)
 else
 bif (y1.1==([]:List UInt8)) then
 some (((Ty.zero (.int .i64)),((Ty.zero .str),((Ty.zero (.int .u32)),(Ty.zero (.arr 8 (.int .u16)))))),(51:Int))
 else
 Z94 s0 s1 y1.1 (((length y1.1):Nat):Int) (0:Int) ((Ty.zero (.int .i64)),((Ty.zero .str),((Ty.zero (.int .u32)),(Ty.zero (.arr 8 (.int .u16))))))
 else
 bif (!s1) then
 (Y64 (s0,([0,9,10,13,32,35,47,58,60,62,63,64,91,92,93,94,124]:List UInt8))).bind fun y0=>
 bif y0 then
 some (((Ty.zero (.int .i64)),((Ty.zero .str),((Ty.zero (.int .u32)),(Ty.zero (.arr 8 (.int .u16)))))),(52:Int))
 else
 (Y34 ((1:Int),s0)).bind fun y1=>
 bif (decide ((((length y1.1):Nat):Int) > 65536)) then
 some (((Ty.zero (.int .i64)),((Ty.zero .str),((Ty.zero (.int .u32)),(Ty.zero (.arr 8 (.int .u16)))))),(5:Int))
 else
 some (((4:Int),(y1.1,((Ty.zero (.int .u32)),(Ty.zero (.arr 8 (.int .u16)))))),(0:Int))
 else
 (Y24 s0).bind fun y0=>
 (Y04 y0).bind fun y1=>
 bif (y1.2 !=0) then
 some (((Ty.zero (.int .i64)),((Ty.zero .str),((Ty.zero (.int .u32)),(Ty.zero (.arr 8 (.int .u16)))))),y1.2)
 else
 bif (y1.1==([]:List UInt8)) then
 some (((Ty.zero (.int .i64)),((Ty.zero .str),((Ty.zero (.int .u32)),(Ty.zero (.arr 8 (.int .u16)))))),(51:Int))
 else
 Z94 s0 s1 y1.1 (((length y1.1):Nat):Int) (0:Int) ((Ty.zero (.int .i64)),((Ty.zero .str),((Ty.zero (.int .u32)),(Ty.zero (.arr 8 (.int .u16))))))
 else
 none
 else
 bif (!s1) then
 bif (s0==([]:List UInt8)) then
 some (((5:Int),((Ty.zero .str),((Ty.zero (.int .u32)),(Ty.zero (.arr 8 (.int .u16)))))),(0:Int))
 else
 bif (!s1) then
 (Y64 (s0,([0,9,10,13,32,35,47,58,60,62,63,64,91,92,93,94,124]:List UInt8))).bind fun y0=>
 bif y0 then
 some (((Ty.zero (.int .i64)),((Ty.zero .str),((Ty.zero (.int .u32)),(Ty.zero (.arr 8 (.int .u16)))))),(52:Int))
 else
 (Y34 ((1:Int),s0)).bind fun y1=>
 bif (decide ((((length y1.1):Nat):Int) > 65536)) then
 some (((Ty.zero (.int .i64)),((Ty.zero .str),((Ty.zero (.int .u32)),(Ty.zero (.arr 8 (.int .u16)))))),(5:Int))
 else
 some (((4:Int),(y1.1,((Ty.zero (.int .u32)),(Ty.zero (.arr 8 (.int .u16)))))),(0:Int))
 else
 (Y24 s0).bind fun y0=>
 (Y04 y0).bind fun y1=>
 bif (y1.2 !=0) then
 some (((Ty.zero (.int .i64)),((Ty.zero .str),((Ty.zero (.int .u32)),(Ty.zero (.arr 8 (.int .u16)))))),y1.2)
 else
 bif (y1.1==([]:List UInt8)) then
 some (((Ty.zero (.int .i64)),((Ty.zero .str),((Ty.zero (.int .u32)),(Ty.zero (.arr 8 (.int .u16)))))),(51:Int))
 else
 Z94 s0 s1 y1.1 (((length y1.1):Nat):Int) (0:Int) ((Ty.zero (.int .i64)),((Ty.zero .str),((Ty.zero (.int .u32)),(Ty.zero (.arr 8 (.int .u16))))))
 else
 bif (!s1) then
 (Y64 (s0,([0,9,10,13,32,35,47,58,60,62,63,64,91,92,93,94,124]:List UInt8))).bind fun y0=>
 bif y0 then
 some (((Ty.zero (.int .i64)),((Ty.zero .str),((Ty.zero (.int .u32)),(Ty.zero (.arr 8 (.int .u16)))))),(52:Int))
 else
 (Y34 ((1:Int),s0)).bind fun y1=>
 bif (decide ((((length y1.1):Nat):Int) > 65536)) then
 some (((Ty.zero (.int .i64)),((Ty.zero .str),((Ty.zero (.int .u32)),(Ty.zero (.arr 8 (.int .u16)))))),(5:Int))
 else
 some (((4:Int),(y1.1,((Ty.zero (.int .u32)),(Ty.zero (.arr 8 (.int .u16)))))),(0:Int))
 else
 (Y24 s0).bind fun y0=>
 (Y04 y0).bind fun y1=>
 bif (y1.2 !=0) then
 some (((Ty.zero (.int .i64)),((Ty.zero .str),((Ty.zero (.int .u32)),(Ty.zero (.arr 8 (.int .u16)))))),y1.2)
 else
 bif (y1.1==([]:List UInt8)) then
 some (((Ty.zero (.int .i64)),((Ty.zero .str),((Ty.zero (.int .u32)),(Ty.zero (.arr 8 (.int .u16)))))),(51:Int))
 else
 Z94 s0 s1 y1.1 (((length y1.1):Nat):Int) (0:Int) ((Ty.zero (.int .i64)),((Ty.zero .str),((Ty.zero (.int .u32)),(Ty.zero (.arr 8 (.int .u16)))))):=by unfold Z84; rewrite [Y9]; kernel_rfl
theorem YLc (s0:List UInt8) (s1:Bool) (s2:List UInt8) (s3:Int) (s4:Int) (b5:D35):Z94 s0 s1 s2 s3 s4 b5=
 bif (decide (s4 < s3)) then
 bif (Ya s4 (length s2)) then
 bif (decide ((((UInt8.toNat (getD s2 (Int.toNat s4) (0:UInt8))):Nat):Int) < 32)) then
 some (((Ty.zero (.int .i64)),((Ty.zero .str),((Ty.zero (.int .u32)),(Ty.zero (.arr 8 (.int .u16)))))),(52:Int))
 else
 bif ((((UInt8.toNat (getD s2 (Int.toNat s4) (0:UInt8))):Nat):Int)==37) then
 some (((Ty.zero (.int .i64)),((Ty.zero .str),((Ty.zero (.int .u32)),(Ty.zero (.arr 8 (.int .u16)))))),(52:Int))
 else
 bif ((((UInt8.toNat (getD s2 (Int.toNat s4) (0:UInt8))):Nat):Int)==127) then
 some (((Ty.zero (.int .i64)),((Ty.zero .str),((Ty.zero (.int .u32)),(Ty.zero (.arr 8 (.int .u16)))))),(52:Int))
 else
 (Y74 (([0,9,10,13,32,35,47,58,60,62,63,64,91,92,93,94,124]:List UInt8),(((UInt8.toNat (getD s2 (Int.toNat s4) (0:UInt8))):Nat):Int))).bind fun y0=>
 bif (decide (y0>=0)) then
 some (((Ty.zero (.int .i64)),((Ty.zero .str),((Ty.zero (.int .u32)),(Ty.zero (.arr 8 (.int .u16)))))),(52:Int))
 else
 Z94 s0 s1 s2 s3 (wrap i64 (s4+1)) b5
 else
 none
 else
 (Yl9 s2).bind fun y0=>
 bif y0 then
 (Ym9 s2).bind fun y1=>
 bif (y1.2 !=0) then
 some (((Ty.zero (.int .i64)),((Ty.zero .str),((Ty.zero (.int .u32)),(Ty.zero (.arr 8 (.int .u16)))))),y1.2)
 else
 some (((2:Int),((Ty.zero .str),(y1.1,(Ty.zero (.arr 8 (.int .u16)))))),(0:Int))
 else
 some (((1:Int),(s2,((Ty.zero (.int .u32)),(Ty.zero (.arr 8 (.int .u16)))))),(0:Int)):=by unfold Z94; rewrite [Y9]; kernel_rfl
theorem YEm (x:List UInt8):Y04 x=
 Za4 x:=by kernel_rfl
theorem Y9k (s0:List UInt8):Za4 s0=
 (Yk7 s0).bind fun y0=>
 bif (!y0.1) then
 some (([]:List UInt8),(21:Int))
 else
 bif (decide ((((length s0):Nat):Int) > 65536)) then
 some (([]:List UInt8),(5:Int))
 else
 bif (s0==([]:List UInt8)) then
 some (([]:List UInt8),(0:Int))
 else
 Zb4 s0 (0:Int) s0 0 ([]:List (List UInt8)):=by unfold Za4; rewrite [Y9]; kernel_rfl
theorem YPc (s0:List UInt8) (s1:Int) (t2:List UInt8) (n3:Nat) (r4:List (List UInt8)):Zb4 s0 s1 t2 n3 r4=
 bif (decide (n3 < (length t2))) then
 (YI6 (((Yx t2 n3).1:Nat):Int)).bind fun y0=>
 bif y0 then
 bif (Yi (some s1) (some ((n3:Nat):Int)) (length s0)) then
 bif (decide (((length r4)+(length ([(Yl (some s1) (some ((n3:Nat):Int)) s0)]:List (List UInt8))))<=(lim))) then
 Zb4 s0 (wrap i64 (((n3:Nat):Int)+(((length (Yy1 (((Yx t2 n3).1:Nat):Int))):Nat):Int))) t2 (n3+(Yx t2 n3).2) (r4++([(Yl (some s1) (some ((n3:Nat):Int)) s0)]:List (List UInt8)))
 else
 none
 else
 none
 else
 Zb4 s0 s1 t2 (n3+(Yx t2 n3).2) r4
 else
 bif (Yi (some s1) none (length s0)) then
 bif (decide (((length r4)+(length ([(Yl (some s1) none s0)]:List (List UInt8))))<=(lim))) then
 Zc4 s0 (((length (r4++([(Yl (some s1) none s0)]:List (List UInt8)))):Nat):Int) (0:Int) (r4++([(Yl (some s1) none s0)]:List (List UInt8)))
 else
 none
 else
 none:=by unfold Zb4; rewrite [Y9]; kernel_rfl
theorem YSc (s0:List UInt8) (s1:Int) (s2:Int) (r3:List (List UInt8)):Zc4 s0 s1 s2 r3=
 bif (decide (s2 < s1)) then
 bif (Ya s2 (length r3)) then
 bif (s2==(wrap i64 ((((length r3):Nat):Int) - 1))) then
 (Yy5 ((getD r3 (Int.toNat s2) (Ty.zero .str)),(decide (s2 > 0)))).bind fun y0=>
 bif (y0.2 !=0) then
 some (([]:List UInt8),y0.2)
 else
 bif (Ya s2 (length r3)) then
 Zc4 s0 s1 (wrap i64 (s2+1)) (List.set r3 (Int.toNat s2) y0.1)
 else
 none
 else
 (Yy5 ((getD r3 (Int.toNat s2) (Ty.zero .str)),false)).bind fun y0=>
 bif (y0.2 !=0) then
 some (([]:List UInt8),y0.2)
 else
 bif (Ya s2 (length r3)) then
 Zc4 s0 s1 (wrap i64 (s2+1)) (List.set r3 (Int.toNat s2) y0.1)
 else
 none
 else
 none
 else
 (Yh7 (r3,([46]:List UInt8))).bind fun y0=>
 (Y8a (y0,([46]:List UInt8))).bind fun y1=>
 bif (decide ((((length y1):Nat):Int) > 253)) then
 some (([]:List UInt8),(5:Int))
 else
 some (y0,(0:Int)):=by unfold Zc4; rewrite [Y9]; kernel_rfl
theorem YAm (x:List UInt8):Yo9 x=
 Zd4 x:=by kernel_rfl
theorem Yjk (s0:List UInt8):Zd4 s0=
 bif (s0==([]:List UInt8)) then
 some ([]:List (List UInt8))
 else
 (YG4 (s0,(46:Int))).bind fun y0=>
 bif (Ya (wrap i64 ((((length y0):Nat):Int) - 1)) (length y0)) then
 bif ((getD y0 (Int.toNat (wrap i64 ((((length y0):Nat):Int) - 1))) (Ty.zero .str))==([]:List UInt8)) then
 bif (Yi none (some (wrap i64 ((((length y0):Nat):Int) - 1))) (length y0)) then
 some (List.take (Option.getD (Option.map (Int.toNat) (some (wrap i64 ((((length y0):Nat):Int) - 1)))) (length y0)) y0)
 else
 none
 else
 some y0
 else
 none:=by unfold Zd4; rewrite [Y9]; kernel_rfl
theorem Y4p (x:(List UInt8×List UInt8)):Y64 x=
 Ze4 x.1 x.2:=by kernel_rfl
theorem Ynk (s0:List UInt8) (s1:List UInt8):Ze4 s0 s1=
 (Y5a (s0,s1)).bind fun y0=>
 some (decide (y0>=0)):=by unfold Ze4; rewrite [Y9]; kernel_rfl
theorem Ymn (x:(Int×List UInt8)):Y34 x=
 Zf4 x.1 x.2:=by kernel_rfl
theorem Yqk (s0:Int) (s1:List UInt8):Zf4 s0 s1=
 (Yl7 s1).bind fun y0=>
 (YOe (s0,(YM y0))).bind fun y1=>
 some (y1.1,y1.2):=by unfold Zf4; rewrite [Y9]; kernel_rfl
theorem Yjn (x:List UInt8):Y24 x=
 Zg4 x:=by kernel_rfl
theorem Yyk (s0:List UInt8):Zg4 s0=
 (YNe s0).bind fun y0=>
 (Yl7 (Ym y0)).bind fun y1=>
 some y1:=by unfold Zg4; rewrite [Y9]; kernel_rfl
theorem Yrp (x:List UInt8):Yk7 x=
 Zh4 x:=by kernel_rfl
theorem YDk (s0:List UInt8):Zh4 s0=
 Zi4 s0 s0 0:=by unfold Zh4; rewrite [Y9]; kernel_rfl
theorem Y9d (s0:List UInt8) (t1:List UInt8) (n2:Nat):Zi4 s0 t1 n2=
 bif (decide (n2 < (length t1))) then
 (Ym7 (s0,((n2:Nat):Int))).bind fun y0=>
 bif y0.2.2.2 then
 some (false,((n2:Nat):Int))
 else
 Zi4 s0 t1 (n2+(Yx t1 n2).2)
 else
 some (true,(0:Int)):=by unfold Zi4; rewrite [Y9]; kernel_rfl
theorem YNm (x:Int):YI6 x=
 Zj4 x:=by kernel_rfl
theorem YNk (s0:Int):Zj4 s0=
 bif (s0==46) then
 some true
 else
 bif (s0==12290) then
 some true
 else
 bif (s0==65294) then
 some true
 else
 some (s0==65377):=by unfold Zj4; rewrite [Y9]; kernel_rfl
theorem YQm (x:(List UInt8×Bool)):Yy5 x=
 Zk4 x.1 x.2:=by kernel_rfl
theorem YSk (s0:List UInt8) (s1:Bool):Zk4 s0 s1=
 (Yn3 s0).bind fun y0=>
 (YD4 (y0,(65533:Int))).bind fun y1=>
 (Yq9 y0).bind fun y2=>
 bif (!y2) then
 bif (!y1) then
 (YO6 y0).bind fun y3=>
 bif (y3.2 !=0) then
 some (([]:List UInt8),(53:Int))
 else
 Zl4 y3.1 s1 y1
 else
 Zl4 y0 s1 y1
 else
 Zl4 y0 s1 y1:=by unfold Zk4; rewrite [Y9]; kernel_rfl
theorem Y29 (s0:List UInt8) (s1:Bool) (s2:Bool):Zl4 s0 s1 s2=
 bif s2 then
 some (([]:List UInt8),(53:Int))
 else
 bif (decide ((((length s0):Nat):Int) > 63)) then
 some (([]:List UInt8),(53:Int))
 else
 bif (s0==([]:List UInt8)) then
 bif (!s1) then
 some (([]:List UInt8),(53:Int))
 else
 (YJ4 (s0,([120,110,45,45]:List UInt8))).bind fun y0=>
 bif y0 then
 (YB5 s0).bind fun y1=>
 bif (y1.2 !=0) then
 some (([]:List UInt8),(53:Int))
 else
 (YD4 (y1.1,(65533:Int))).bind fun y2=>
 bif y2 then
 some (([]:List UInt8),(53:Int))
 else
 (YN5 (y1.1,())).bind fun y3=>
 bif (decide (y3>=0)) then
 some (([]:List UInt8),(53:Int))
 else
 some (s0,(0:Int))
 else
 some (s0,(0:Int))
 else
 (YJ4 (s0,([120,110,45,45]:List UInt8))).bind fun y0=>
 bif y0 then
 (YB5 s0).bind fun y1=>
 bif (y1.2 !=0) then
 some (([]:List UInt8),(53:Int))
 else
 (YD4 (y1.1,(65533:Int))).bind fun y2=>
 bif y2 then
 some (([]:List UInt8),(53:Int))
 else
 (YN5 (y1.1,())).bind fun y3=>
 bif (decide (y3>=0)) then
 some (([]:List UInt8),(53:Int))
 else
 some (s0,(0:Int))
 else
 some (s0,(0:Int)):=by unfold Zl4; rewrite [Y9]; kernel_rfl
theorem Y6a (x:((List (List UInt8))×List UInt8)):Yh7 x=Y93 x:=by kernel_rfl
theorem Ygp (x:(List UInt8×List UInt8)):Y8a x=
 Zm4 x.1 x.2:=by kernel_rfl
theorem Y1l (s0:List UInt8) (s1:List UInt8):Zm4 s0 s1=
 (YJe (s0,s1)).bind fun y0=>
 some y0:=by unfold Zm4; rewrite [Y9]; kernel_rfl
theorem YBn (x:List UInt8):YB5 x=
 Zn4 x:=by kernel_rfl
theorem Y5l (s0:List UInt8):Zn4 s0=
 bif (decide ((((length s0):Nat):Int) < 4)) then
 some (s0,(0:Int))
 else
 bif (Yi none (some (4:Int)) (length s0)) then
 (Yn3 (Yl none (some (4:Int)) s0)).bind fun y0=>
 bif (!(y0==([120,110,45,45]:List UInt8))) then
 some (s0,(0:Int))
 else
 bif (Yi (some (4:Int)) none (length s0)) then
 (Yz9 (Yl (some (4:Int)) none s0)).bind fun y1=>
 bif (y1.2.1 !=0) then
 some (([]:List UInt8),y1.2.1)
 else
 (YO6 y1.1).bind fun y2=>
 bif (y2.2 !=0) then
 some (([]:List UInt8),(31:Int))
 else
 (YP6 y1.1).bind fun y3=>
 bif y3 then
 some (([]:List UInt8),(31:Int))
 else
 (Yv9 (y2.1,s0)).bind fun y4=>
 bif (!y4) then
 some (([]:List UInt8),(31:Int))
 else
 some (y1.1,(0:Int))
 else
 none
 else
 none:=by unfold Zn4; rewrite [Y9]; kernel_rfl
theorem Yap (x:(List UInt8×List UInt8)):Y5a x=
 Zo4 x.1 x.2:=by kernel_rfl
theorem Ybl (s0:List UInt8) (s1:List UInt8):Zo4 s0 s1=
 bif (s1==([]:List UInt8)) then
 some (-(1:Int))
 else
 bif ((((length s1):Nat):Int)==1) then
 bif (Ya (0:Int) (length s1)) then
 bif (decide ((wrap i32 (((UInt8.toNat (getD s1 (Int.toNat (0:Int)) (0:UInt8))):Nat):Int))>=128)) then
 Zp4 s0 s1 (65533:Int)
 else
 Zp4 s0 s1 (wrap i32 (((UInt8.toNat (getD s1 (Int.toNat (0:Int)) (0:UInt8))):Nat):Int))
 else
 none
 else
 (YCf (((length s0):Nat):Int)).bind fun y0=>
 bif y0 then
 (YBf s1).bind fun y1=>
 bif y1.2 then
 Zq4 s0 s1 (0:Int) y1.1
 else
 Zr4 s0 s1
 else
 Zr4 s0 s1:=by unfold Zo4; rewrite [Y9]; kernel_rfl
theorem Yud (s0:List UInt8) (s1:List UInt8) (s2:Int) (b3:(List Bool)):Zq4 s0 s1 s2 b3=
 bif (decide (s2 < (((length s0):Nat):Int))) then
 bif (Ya s2 (length s0)) then
 (Yxf (b3,(((UInt8.toNat (getD s0 (Int.toNat s2) (0:UInt8))):Nat):Int))).bind fun y0=>
 bif y0.1 then
 some s2
 else
 Zq4 s0 s1 (wrap i64 (s2+1)) y0.2
 else
 none
 else
 some (-(1:Int)):=by unfold Zq4; rewrite [Y9]; kernel_rfl
theorem Yql (s0:List UInt8) (s1:List UInt8):Zr4 s0 s1=
 Zs4 s0 s1 s0 0:=by unfold Zr4; rewrite [Y9]; kernel_rfl
theorem Yyd (s0:List UInt8) (s1:List UInt8) (t2:List UInt8) (n3:Nat):Zs4 s0 s1 t2 n3=
 bif (decide (n3 < (length t2))) then
 (Yg7 (s1,(((Yx t2 n3).1:Nat):Int))).bind fun y0=>
 bif (decide (y0>=0)) then
 some ((n3:Nat):Int)
 else
 Zs4 s0 s1 t2 (n3+(Yx t2 n3).2)
 else
 some (-(1:Int)):=by unfold Zs4; rewrite [Y9]; kernel_rfl
theorem Yon (x:(Int×(List Int))):YOe x=
 Zt4 x.1 x.2:=by kernel_rfl
theorem YBl (s0:Int) (s1:(List Int)):Zt4 s0 s1=
 (YQe s0).bind fun y0=>
 bif (!y0) then
 some (([]:List UInt8),(42:Int))
 else
 (YPe ()).bind fun y1=>
 bif (Ya s0 9) then
 Zu4 s0 s1 s1 (((length s1):Nat):Int) (0:Int) (getD y1 (Int.toNat s0) (Ty.zero (.arr 256 .bool))) ([]:List Int)
 else
 none:=by unfold Zt4; rewrite [Y9]; kernel_rfl
theorem YEd (s0:Int) (s1:(List Int)) (s2:(List Int)) (s3:Int) (s4:Int) (b5:(List Bool)) (r6:List Int):Zu4 s0 s1 s2 s3 s4 b5 r6=
 bif (decide (s4 < s3)) then
 bif (Ya s4 (length s2)) then
 bif (Ya (getD s2 (Int.toNat s4) (Ty.zero (.int .u8))) 256) then
 bif (getD b5 (Int.toNat (getD s2 (Int.toNat s4) (Ty.zero (.int .u8)))) (Ty.zero .bool)) then
 (Yw9 (r6,(getD s2 (Int.toNat s4) (Ty.zero (.int .u8))))).bind fun y0=>
 Zu4 s0 s1 s2 s3 (wrap i64 (s4+1)) b5 y0
 else
 bif (decide (((length r6)+(length ([(getD s2 (Int.toNat s4) (Ty.zero (.int .u8)))]:List Int)))<=(lim))) then
 Zu4 s0 s1 s2 s3 (wrap i64 (s4+1)) b5 (r6++([(getD s2 (Int.toNat s4) (Ty.zero (.int .u8)))]:List Int))
 else
 none
 else
 none
 else
 none
 else
 some ((Ym r6),(0:Int)):=by unfold Zu4; rewrite [Y9]; kernel_rfl
theorem Ysp (x:List UInt8):Yl7 x=
 Zv4 x:=by kernel_rfl
theorem YIl (s0:List UInt8):Zv4 s0=
 (Y9a s0).bind fun y0=>
 (Yba y0).bind fun y1=>
 some y1:=by unfold Zv4; rewrite [Y9]; kernel_rfl
theorem Yln (x:List UInt8):YNe x=
 Zw4 x:=by kernel_rfl
theorem YNl (s0:List UInt8):Zw4 s0=
 Zx4 s0 (0:Int) ([]:List Int):=by unfold Zw4; rewrite [Y9]; kernel_rfl
theorem YQd (s0:List UInt8) (s1:Int) (r2:List Int):Zx4 s0 s1 r2=
 bif (decide (s1 < (((length s0):Nat):Int))) then
 (Yx9 (s0,s1)).bind fun y0=>
 bif (decide (y0>=0)) then
 bif (decide (((length r2)+(length ([(wrap u8 y0)]:List Int)))<=(lim))) then
 Zx4 s0 (wrap i64 ((wrap i64 (s1+2))+1)) (r2++([(wrap u8 y0)]:List Int))
 else
 none
 else
 bif (Ya s1 (length s0)) then
 bif (decide (((length r2)+(length ([(((UInt8.toNat (getD s0 (Int.toNat s1) (0:UInt8))):Nat):Int)]:List Int)))<=(lim))) then
 Zx4 s0 (wrap i64 (s1+1)) (r2++([(((UInt8.toNat (getD s0 (Int.toNat s1) (0:UInt8))):Nat):Int)]:List Int))
 else
 none
 else
 none
 else
 some r2:=by unfold Zx4; rewrite [Y9]; kernel_rfl
theorem Yvp (x:(List UInt8×Int)):Ym7 x=
 Zy4 x.1 x.2:=by kernel_rfl
theorem YUl (s0:List UInt8) (s1:Int):Zy4 s0 s1=
 bif (Yi (some s1) none (length s0)) then
 (YEf (Yl (some s1) none s0)).bind fun y0=>
 bif (y0.1==65533) then
 some (s1,(y0.2,(y0.1,(y0.2==1))))
 else
 some (s1,(y0.2,(y0.1,false)))
 else
 none:=by unfold Zy4; rewrite [Y9]; kernel_rfl
theorem YPm (x:(List UInt8×Int)):YD4 x=
 Zz4 x.1 x.2:=by kernel_rfl
theorem YZl (s0:List UInt8) (s1:Int):Zz4 s0 s1=
 Z05 s0 s1 s0 0:=by unfold Zz4; rewrite [Y9]; kernel_rfl
theorem Ypc (s0:List UInt8) (s1:Int) (t2:List UInt8) (n3:Nat):Z05 s0 s1 t2 n3=
 bif (decide (n3 < (length t2))) then
 bif ((((Yx t2 n3).1:Nat):Int)==s1) then
 some true
 else
 Z05 s0 s1 t2 (n3+(Yx t2 n3).2)
 else
 some false:=by unfold Z05; rewrite [Y9]; kernel_rfl
theorem YIm (x:List UInt8):Yq9 x=
 Z15 x:=by kernel_rfl
theorem Ykj (s0:List UInt8):Z15 s0=
 (Yuf (s0,())).bind fun y0=>
 some (decide (y0 < 0)):=by unfold Z15; rewrite [Y9]; kernel_rfl
theorem YAn (x:List UInt8):YO6 x=
 Z25 x:=by kernel_rfl
theorem Yrj (s0:List UInt8):Z25 s0=
 (YA9 s0).bind fun y0=>
 bif (y0.2 !=0) then
 some (([]:List UInt8),y0.2)
 else
 (YP6 s0).bind fun y1=>
 bif y1 then
 some (s0,(0:Int))
 else
 bif (decide (((length ([120,110,45,45]:List UInt8))+(length y0.1))<=(2 ^ 62))) then
 some ((([120,110,45,45]:List UInt8)++y0.1),(0:Int))
 else
 none:=by unfold Z25; rewrite [Y9]; kernel_rfl
theorem Ydp (x:(List UInt8×Unit)):Yuf x=
 Z35 x.1 x.2:=by kernel_rfl
theorem Ywj (s0:List UInt8) (s1:Unit):Z35 s0 s1=
 (Yyf (s0,(s1,true))).bind fun y0=>
 some y0:=by unfold Z35; rewrite [Y9]; kernel_rfl
theorem Ycp (x:(List UInt8×Unit)):Yvf x=
 Z45 x.1 x.2:=by kernel_rfl
theorem YEj (s0:List UInt8) (s1:Unit):Z45 s0 s1=
 (YAf (s0,(s1,true))).bind fun y0=>
 some y0:=by unfold Z45; rewrite [Y9]; kernel_rfl
theorem Ybp (x:(List UInt8×Unit)):YN5 x=
 Z55 x.1 x.2:=by kernel_rfl
theorem YKj (s0:List UInt8) (s1:Unit):Z55 s0 s1=
 (Yzf (s0,(s1,true))).bind fun y0=>
 some y0:=by unfold Z55; rewrite [Y9]; kernel_rfl
theorem Yan (x:(List UInt8×List UInt8)):YJe x=
 Z65 x.1 x.2:=by kernel_rfl
theorem YNj (s0:List UInt8) (s1:List UInt8):Z65 s0 s1=
 (YHe (s0,s1)).bind fun y0=>
 bif y0 then
 bif (Yi none (some (wrap i64 ((((length s0):Nat):Int) - (((length s1):Nat):Int)))) (length s0)) then
 some (Yl none (some (wrap i64 ((((length s0):Nat):Int) - (((length s1):Nat):Int)))) s0)
 else
 none
 else
 some s0:=by unfold Z65; rewrite [Y9]; kernel_rfl
theorem Ywn (x:List UInt8):Yz9 x=
 Z75 x:=by kernel_rfl
theorem YUj (s0:List UInt8):Z75 s0=
 bif (decide ((((length s0):Nat):Int) > 65536)) then
 some (([]:List UInt8),((5:Int),(0:Int)))
 else
 (YQ6 s0).bind fun y0=>
 some (y0.1,(y0.2.1,y0.2.2)):=by unfold Z75; rewrite [Y9]; kernel_rfl
theorem YFn (x:List UInt8):YP6 x=
 Z85 x:=by kernel_rfl
theorem Y0k (s0:List UInt8):Z85 s0=
 (Yvf (s0,())).bind fun y0=>
 some (decide (y0 < 0)):=by unfold Z85; rewrite [Y9]; kernel_rfl
theorem Yfn (x:(List UInt8×List UInt8)):Yv9 x=
 Z95 x.1 x.2:=by kernel_rfl
theorem Y4k (s0:List UInt8) (s1:List UInt8):Z95 s0 s1=
 (Yn3 s0).bind fun y0=>
 (Yn3 s1).bind fun y1=>
 some (y0==y1):=by unfold Z95; rewrite [Y9]; kernel_rfl
theorem Ywf (x:(List UInt8×Int)):Yg7 x=
 Za5 x.1 x.2:=by kernel_rfl
theorem YNc (s0:List UInt8) (s1:Int):Za5 s0 s1=
 bif (decide ((0:Int)<=s1)) then
 bif (decide (s1 < 128)) then
 (Y74 (s0,(wrap u8 s1))).bind fun y0=>
 some y0
 else
 bif (s1==65533) then
 Zb5 s0 s1 s0 0
 else
 (Yj7 s1).bind fun y0=>
 bif (!y0) then
 some (-(1:Int))
 else
 Zc5 s0 s1 (Yy1 s1) (wrap i64 ((((length (Yy1 s1)):Nat):Int) - 1)) (wrap i64 ((((length (Yy1 s1)):Nat):Int) - 1))
 else
 bif (s1==65533) then
 Zb5 s0 s1 s0 0
 else
 (Yj7 s1).bind fun y0=>
 bif (!y0) then
 some (-(1:Int))
 else
 Zc5 s0 s1 (Yy1 s1) (wrap i64 ((((length (Yy1 s1)):Nat):Int) - 1)) (wrap i64 ((((length (Yy1 s1)):Nat):Int) - 1)):=by unfold Za5; rewrite [Y9]; kernel_rfl
theorem Yhk (s0:List UInt8) (s1:Int) (s2:List UInt8) (s3:Int) (s4:Int):Zc5 s0 s1 s2 s3 s4=
 bif (decide (s4 < (((length s0):Nat):Int))) then
 bif (Ya s4 (length s0)) then
 bif (Ya s3 (length s2)) then
 bif ((((UInt8.toNat (getD s0 (Int.toNat s4) (0:UInt8))):Nat):Int) !=(((UInt8.toNat (getD s2 (Int.toNat s3) (0:UInt8))):Nat):Int)) then
 bif (Yi (some (wrap i64 (s4+1))) none (length s0)) then
 bif (Ya s3 (length s2)) then
 (Y74 ((Yl (some (wrap i64 (s4+1))) none s0),(((UInt8.toNat (getD s2 (Int.toNat s3) (0:UInt8))):Nat):Int))).bind fun y0=>
 bif (decide (y0 < 0)) then
 some (-(1:Int))
 else
 Zd5 s0 s1 s2 s3 (wrap i64 (s4+(wrap i64 (y0+1))))
 else
 none
 else
 none
 else
 Zd5 s0 s1 s2 s3 s4
 else
 none
 else
 none
 else
 some (-(1:Int)):=by unfold Zc5; rewrite [Y9]; kernel_rfl
theorem Ylp (x:Int):YCf x=
 Ze5 x:=by kernel_rfl
theorem Yok (s0:Int):Ze5 s0=
 some (decide (s0 > 8)):=by unfold Ze5; rewrite [Y9]; kernel_rfl
theorem Yhp (x:((List Bool)×Int)):Yxf x=
 Zf5 x.2 x.1:=by kernel_rfl
theorem Yrk (s0:Int) (b1:(List Bool)):Zf5 s0 b1=
 bif (Ya s0 256) then
 some ((getD b1 (Int.toNat s0) (Ty.zero .bool)),b1)
 else
 none:=by unfold Zf5; rewrite [Y9]; kernel_rfl
theorem Yrn (x:Int):YQe x=
 Zg5 x:=by kernel_rfl
theorem Yzk (s0:Int):Zg5 s0=
 bif (decide (s0>=1)) then
 some (decide (s0<=8))
 else
 some false:=by unfold Zg5; rewrite [Y9]; kernel_rfl
theorem Ypn (x:((List Int)×Int)):Yw9 x=
 Zh5 x.2 x.1:=by kernel_rfl
theorem YEk (s0:Int) (r1:List Int):Zh5 s0 r1=
 bif (Ya (shr u8 s0 (4:Int)) (length ([48,49,50,51,52,53,54,55,56,57,65,66,67,68,69,70]:List UInt8))) then
 bif (Ya (bits Go.BinOp.and u8 s0 (15:Int)) (length ([48,49,50,51,52,53,54,55,56,57,65,66,67,68,69,70]:List UInt8))) then
 bif (decide (((length r1)+(length ([(37:Int),(((UInt8.toNat (getD ([48,49,50,51,52,53,54,55,56,57,65,66,67,68,69,70]:List UInt8) (Int.toNat (shr u8 s0 (4:Int))) (0:UInt8))):Nat):Int),(((UInt8.toNat (getD ([48,49,50,51,52,53,54,55,56,57,65,66,67,68,69,70]:List UInt8) (Int.toNat (bits Go.BinOp.and u8 s0 (15:Int))) (0:UInt8))):Nat):Int)]:List Int)))<=(lim))) then
 some (r1++([(37:Int),(((UInt8.toNat (getD ([48,49,50,51,52,53,54,55,56,57,65,66,67,68,69,70]:List UInt8) (Int.toNat (shr u8 s0 (4:Int))) (0:UInt8))):Nat):Int),(((UInt8.toNat (getD ([48,49,50,51,52,53,54,55,56,57,65,66,67,68,69,70]:List UInt8) (Int.toNat (bits Go.BinOp.and u8 s0 (15:Int))) (0:UInt8))):Nat):Int)]:List Int))
 else
 none
 else
 none
 else
 none:=by unfold Zh5; rewrite [Y9]; kernel_rfl
theorem Yyp (x:(List D181)):Yba x=
 Zi5 x:=by kernel_rfl
theorem YKk (s0:(List D181)):Zi5 s0=
 Zj5 s0 s0 (((length s0):Nat):Int) (0:Int):=by unfold Zi5; rewrite [Y9]; kernel_rfl
theorem YOk (s0:(List D181)) (s1:(List D181)) (s2:Int) (s3:Int):Zj5 s0 s1 s2 s3=
 bif (decide (s3 < s2)) then
 bif (Ya s3 (length s1)) then
 (Yi7 (([]:List Int),(getD s1 (Int.toNat s3) (Ty.zero T181)).2.2.1)).bind fun y0=>
 Zk5 s0 s1 s2 (wrap i64 (s3+1)) y0
 else
 none
 else
 some (Ym ([]:List Int)):=by unfold Zj5; rewrite [Y9]; kernel_rfl
theorem Yfd (s0:(List D181)) (s1:(List D181)) (s2:Int) (s3:Int) (r4:List Int):Zk5 s0 s1 s2 s3 r4=
 bif (decide (s3 < s2)) then
 bif (Ya s3 (length s1)) then
 (Yi7 (r4,(getD s1 (Int.toNat s3) (Ty.zero T181)).2.2.1)).bind fun y0=>
 Zk5 s0 s1 s2 (wrap i64 (s3+1)) y0
 else
 none
 else
 some (Ym r4):=by unfold Zk5; rewrite [Y9]; kernel_rfl
theorem Ytp (x:List UInt8):Y9a x=
 Zl5 x:=by kernel_rfl
theorem YWk (s0:List UInt8):Zl5 s0=
 Zm5 s0 (0:Int) ([]:List D181):=by unfold Zl5; rewrite [Y9]; kernel_rfl
theorem Ykd (s0:List UInt8) (s1:Int) (r2:List D181):Zm5 s0 s1 r2=
 bif (decide (s1 < (((length s0):Nat):Int))) then
 (Ym7 (s0,s1)).bind fun y0=>
 bif y0.2.2.2 then
 bif (Yi (some s1) none (length s0)) then
 (Yca (Yl (some s1) none s0)).bind fun y1=>
 Zn5 s0 s1 (y0.1,(y1,y0.2.2)) r2
 else
 none
 else
 Zn5 s0 s1 y0 r2
 else
 some r2:=by unfold Zm5; rewrite [Y9]; kernel_rfl
theorem Y6l (s0:List UInt8) (s1:Int) (b2:D181) (r3:List D181):Zn5 s0 s1 b2 r3=
 bif (decide (((length r3)+(length ([b2]:List D181)))<=(lim))) then
 Zm5 s0 (wrap i64 (s1+b2.2.1)) (r3++([b2]:List D181))
 else
 none:=by unfold Zn5; rewrite [Y9]; kernel_rfl
theorem Ytn (x:(List UInt8×Int)):Yx9 x=
 Zo5 x.1 x.2:=by kernel_rfl
theorem Ycl (s0:List UInt8) (s1:Int):Zo5 s0 s1=
 bif (decide ((wrap i64 (s1+2))>=(((length s0):Nat):Int))) then
 some (-(1:Int))
 else
 bif (Ya s1 (length s0)) then
 bif ((((UInt8.toNat (getD s0 (Int.toNat s1) (0:UInt8))):Nat):Int) !=37) then
 some (-(1:Int))
 else
 bif (Ya (wrap i64 (s1+1)) (length s0)) then
 bif (Ya (wrap i64 (s1+2)) (length s0)) then
 (YN6 (((UInt8.toNat (getD s0 (Int.toNat (wrap i64 (s1+1))) (0:UInt8))):Nat):Int)).bind fun y0=>
 (YN6 (((UInt8.toNat (getD s0 (Int.toNat (wrap i64 (s1+2))) (0:UInt8))):Nat):Int)).bind fun y1=>
 bif (decide (y0 < 0)) then
 some (-(1:Int))
 else
 bif (decide (y1 < 0)) then
 some (-(1:Int))
 else
 some (bits Go.BinOp.or i64 (shl i64 y0 (4:Int)) y1)
 else
 none
 else
 none
 else
 none:=by unfold Zo5; rewrite [Y9]; kernel_rfl
theorem Y0n (x:Int):YCe x=Yr4 x:=by kernel_rfl
theorem Yop (x:List UInt8):YEf x=Yh5 x:=by kernel_rfl
theorem YHm (x:Int):Yse x=
 Zp5 x:=by kernel_rfl
theorem Yfl (s0:Int):Zp5 s0=
 some (decide (s0 > 127)):=by unfold Zp5; rewrite [Y9]; kernel_rfl
theorem Yyn (x:List UInt8):YA9 x=
 Zq5 x:=by kernel_rfl
theorem Ykl (s0:List UInt8):Zq5 s0=
 (Yk7 s0).bind fun y0=>
 bif (!y0.1) then
 some (([]:List UInt8),(21:Int))
 else
 bif (decide ((((length s0):Nat):Int) > 65536)) then
 some (([]:List UInt8),(5:Int))
 else
 bif (decide ((length s0)<=(lim))) then
 Zr5 s0 (((length (YD s0)):Nat):Int) (0:Int) (YD s0) ([]:List Int)
 else
 none:=by unfold Zq5; rewrite [Y9]; kernel_rfl
theorem Ywd (s0:List UInt8) (s1:Int) (s2:Int) (r3:List Int) (r4:List Int):Zr5 s0 s1 s2 r3 r4=
 bif (decide (s2 < s1)) then
 bif (Ya s2 (length r3)) then
 bif (decide ((getD r3 (Int.toNat s2) (Ty.zero (.int .i32))) < 128)) then
 bif (decide (((length r4)+(length ([(wrap u8 (getD r3 (Int.toNat s2) (Ty.zero (.int .i32))))]:List Int)))<=(lim))) then
 Zr5 s0 s1 (wrap i64 (s2+1)) r3 (r4++([(wrap u8 (getD r3 (Int.toNat s2) (Ty.zero (.int .i32))))]:List Int))
 else
 none
 else
 Zr5 s0 s1 (wrap i64 (s2+1)) r3 r4
 else
 none
 else
 bif (decide ((((length r4):Nat):Int) > 0)) then
 bif (decide (((length r4)+(length ([45]:List Int)))<=(lim))) then
 Zs5 s0 (((length r4):Nat):Int) (((length r4):Nat):Int) r3 (r4++([45]:List Int))
 else
 none
 else
 Zs5 s0 (((length r4):Nat):Int) (((length r4):Nat):Int) r3 r4:=by unfold Zr5; rewrite [Y9]; kernel_rfl
theorem Ywl (s0:List UInt8) (s1:Int) (s2:Int) (r3:List Int) (r4:List Int):Zs5 s0 s1 s2 r3 r4=
 Zt5 s0 s1 s2 (128:Int) (72:Int) (0:Int) r3 r4:=by unfold Zs5; rewrite [Y9]; kernel_rfl
theorem YBd (s0:List UInt8) (s1:Int) (s2:Int) (s3:Int) (s4:Int) (s5:Int) (r6:List Int) (r7:List Int):Zt5 s0 s1 s2 s3 s4 s5 r6 r7=
 bif (decide (s1 < (((length r6):Nat):Int))) then
 Zu5 s0 s1 s2 s3 s4 s5 (1114112:Int) (((length r6):Nat):Int) (0:Int) r6 r7
 else
 (YQ6 (Ym r7)).bind fun y0=>
 bif (y0.2.1==32) then
 some (([]:List UInt8),y0.2.1)
 else
 some ((Ym r7),(0:Int)):=by unfold Zt5; rewrite [Y9]; kernel_rfl
theorem YFd (s0:List UInt8) (s1:Int) (s2:Int) (s3:Int) (s4:Int) (s5:Int) (s6:Int) (s7:Int) (s8:Int) (r9:List Int) (r10:List Int):Zu5 s0 s1 s2 s3 s4 s5 s6 s7 s8 r9 r10=
 bif (decide (s8 < s7)) then
 bif (Ya s8 (length r9)) then
 bif (decide ((getD r9 (Int.toNat s8) (Ty.zero (.int .i32)))>=s3)) then
 bif (decide ((getD r9 (Int.toNat s8) (Ty.zero (.int .i32))) < s6)) then
 Zu5 s0 s1 s2 s3 s4 s5 (getD r9 (Int.toNat s8) (Ty.zero (.int .i32))) s7 (wrap i64 (s8+1)) r9 r10
 else
 Zu5 s0 s1 s2 s3 s4 s5 s6 s7 (wrap i64 (s8+1)) r9 r10
 else
 Zu5 s0 s1 s2 s3 s4 s5 s6 s7 (wrap i64 (s8+1)) r9 r10
 else
 none
 else
 Zv5 s0 s1 s2 s6 s4 (wrap i64 (s5+(wrap i64 ((wrap i64 (wrap i32 (s6 - s3)))*(wrap i64 (s1+1)))))) (((length r9):Nat):Int) (0:Int) r9 r10:=by unfold Zu5; rewrite [Y9]; kernel_rfl
theorem YJd (s0:List UInt8) (s1:Int) (s2:Int) (s3:Int) (s4:Int) (s5:Int) (s6:Int) (s7:Int) (r8:List Int) (r9:List Int):Zv5 s0 s1 s2 s3 s4 s5 s6 s7 r8 r9=
 bif (decide (s7 < s6)) then
 bif (Ya s7 (length r8)) then
 bif (decide ((getD r8 (Int.toNat s7) (Ty.zero (.int .i32))) < s3)) then
 Zw5 s0 s1 s2 s3 s4 (wrap i64 (s5+1)) (getD r8 (Int.toNat s7) (Ty.zero (.int .i32))) s6 s7 r8 r9
 else
 Zw5 s0 s1 s2 s3 s4 s5 (getD r8 (Int.toNat s7) (Ty.zero (.int .i32))) s6 s7 r8 r9
 else
 none
 else
 Zt5 s0 s1 s2 (wrap i32 (s3+1)) s4 (wrap i64 (s5+1)) r8 r9:=by unfold Zv5; rewrite [Y9]; kernel_rfl
theorem YMd (s0:List UInt8) (s1:Int) (s2:Int) (s3:Int) (s4:Int) (s5:Int) (s6:Int) (s7:Int) (s8:Int) (r9:List Int) (r10:List Int):Zw5 s0 s1 s2 s3 s4 s5 s6 s7 s8 r9 r10=
 bif (s6==s3) then
 (YB9 (r10,(s5,s4))).bind fun y0=>
 (YC5 (s5,((wrap i64 (s1+1)),(s1==s2)))).bind fun y1=>
 Zv5 s0 (wrap i64 (s1+1)) s2 s3 y1 (0:Int) s7 (wrap i64 (s8+1)) r9 y0
 else
 Zv5 s0 s1 s2 s3 s4 s5 s7 (wrap i64 (s8+1)) r9 r10:=by unfold Zw5; rewrite [Y9]; kernel_rfl
theorem Ykp (x:(List UInt8×(Unit×Bool))):Yyf x=
 Zx5 x.1 x.2.1 x.2.2:=by kernel_rfl
theorem YQl (s0:List UInt8) (s1:Unit) (s2:Bool):Zx5 s0 s1 s2=
 Zy5 s0 s1 s2 s0 0:=by unfold Zx5; rewrite [Y9]; kernel_rfl
theorem YTd (s0:List UInt8) (s1:Unit) (s2:Bool) (t3:List UInt8) (n4:Nat):Zy5 s0 s1 s2 t3 n4=
 bif (decide (n4 < (length t3))) then
 (Yse (((Yx t3 n4).1:Nat):Int)).bind fun y0=>
 bif (y0==s2) then
 some ((n4:Nat):Int)
 else
 Zy5 s0 s1 s2 t3 (n4+(Yx t3 n4).2)
 else
 some (-(1:Int)):=by unfold Zy5; rewrite [Y9]; kernel_rfl
theorem Yjp (x:(List UInt8×(Unit×Bool))):YAf x=
 Zz5 x.1 x.2.1 x.2.2:=by kernel_rfl
theorem Y0m (s0:List UInt8) (s1:Unit) (s2:Bool):Zz5 s0 s1 s2=
 Z06 s0 s1 s2 s0 0:=by unfold Zz5; rewrite [Y9]; kernel_rfl
theorem Yqc (s0:List UInt8) (s1:Unit) (s2:Bool) (t3:List UInt8) (n4:Nat):Z06 s0 s1 s2 t3 n4=
 bif (decide (n4 < (length t3))) then
 (YUe (((Yx t3 n4).1:Nat):Int)).bind fun y0=>
 bif (y0==s2) then
 some ((n4:Nat):Int)
 else
 Z06 s0 s1 s2 t3 (n4+(Yx t3 n4).2)
 else
 some (-(1:Int)):=by unfold Z06; rewrite [Y9]; kernel_rfl
theorem Yip (x:(List UInt8×(Unit×Bool))):Yzf x=
 Z16 x.1 x.2.1 x.2.2:=by kernel_rfl
theorem Ylj (s0:List UInt8) (s1:Unit) (s2:Bool):Z16 s0 s1 s2=
 Z26 s0 s1 s2 s0 0:=by unfold Z16; rewrite [Y9]; kernel_rfl
theorem Ytc (s0:List UInt8) (s1:Unit) (s2:Bool) (t3:List UInt8) (n4:Nat):Z26 s0 s1 s2 t3 n4=
 bif (decide (n4 < (length t3))) then
 (YI6 (((Yx t3 n4).1:Nat):Int)).bind fun y0=>
 bif (y0==s2) then
 some ((n4:Nat):Int)
 else
 Z26 s0 s1 s2 t3 (n4+(Yx t3 n4).2)
 else
 some (-(1:Int)):=by unfold Z26; rewrite [Y9]; kernel_rfl
theorem Y8n (x:(List UInt8×List UInt8)):YHe x=
 Z36 x.1 x.2:=by kernel_rfl
theorem Yxj (s0:List UInt8) (s1:List UInt8):Z36 s0 s1=
 bif (decide ((((length s0):Nat):Int)>=(((length s1):Nat):Int))) then
 bif (Yi (some (wrap i64 ((((length s0):Nat):Int) - (((length s1):Nat):Int)))) none (length s0)) then
 some ((Yl (some (wrap i64 ((((length s0):Nat):Int) - (((length s1):Nat):Int)))) none s0)==s1)
 else
 none
 else
 some false:=by unfold Z36; rewrite [Y9]; kernel_rfl
theorem YGn (x:List UInt8):YQ6 x=
 Z46 x:=by kernel_rfl
theorem YFj (s0:List UInt8):Z46 s0=
 Z56 s0 (((length s0):Nat):Int) (0:Int):=by unfold Z46; rewrite [Y9]; kernel_rfl
theorem Yzc (s0:List UInt8) (s1:Int) (s2:Int):Z56 s0 s1 s2=
 bif (decide (s2 < s1)) then
 bif (Ya s2 (length s0)) then
 bif (decide ((((UInt8.toNat (getD s0 (Int.toNat s2) (0:UInt8))):Nat):Int) > 127)) then
 some (([]:List UInt8),((31:Int),s2))
 else
 Z56 s0 s1 (wrap i64 (s2+1))
 else
 none
 else
 (Y7a (s0,(45:Int))).bind fun y0=>
 bif (decide ((wrap i64 (y0+1)) > 0)) then
 bif (Yi none (some (wrap i64 ((wrap i64 (y0+1)) - 1))) (length s0)) then
 bif (decide ((length (Yl none (some (wrap i64 ((wrap i64 (y0+1)) - 1))) s0))<=(lim))) then
 Z66 s0 (wrap i64 (y0+1)) (YD (Yl none (some (wrap i64 ((wrap i64 (y0+1)) - 1))) s0))
 else
 none
 else
 none
 else
 Z76 s0 (wrap i64 (y0+1)):=by unfold Z56; rewrite [Y9]; kernel_rfl
theorem YOj (s0:List UInt8) (s1:Int) (r2:List Int):Z66 s0 s1 r2=
 Z86 s0 s1 (((length r2):Nat):Int) (0:Int) (128:Int) (72:Int) r2:=by unfold Z66; rewrite [Y9]; kernel_rfl
theorem YVj (s0:List UInt8) (s1:Int):Z76 s0 s1=
 Z96 s0 s1 ((0:Nat):Int) (0:Int) (128:Int) (72:Int):=by unfold Z76; rewrite [Y9]; kernel_rfl
theorem Yt6 (s0:List UInt8) (s1:Int) (s2:Int) (s3:Int) (s4:Int) (s5:Int) (r6:List Int):Z86 s0 s1 s2 s3 s4 s5 r6=
 bif (decide (s1 < (((length s0):Nat):Int))) then
 (YR6 (s0,(s1,(s3,s5)))).bind fun y0=>
 bif (y0.2.2.1 !=0) then
 some (([]:List UInt8),(y0.2.2.1,y0.2.2.2))
 else
 (YC5 ((wrap i64 (y0.1 - s3)),((wrap i64 ((((length r6):Nat):Int)+1)),((((length r6):Nat):Int)==s2)))).bind fun y1=>
 bif ((wrap i64 ((((length r6):Nat):Int)+1)) !=0) then
 bif (decide ((wrap i64 (s4+(wrap i64 (Int.tdiv y0.1 (wrap i64 ((((length r6):Nat):Int)+1)))))) > 1114111)) then
 some (([]:List UInt8),((32:Int),s1))
 else
 bif (decide ((wrap i64 (s4+(wrap i64 (Int.tdiv y0.1 (wrap i64 ((((length r6):Nat):Int)+1))))))>=55296)) then
 bif (decide ((wrap i64 (s4+(wrap i64 (Int.tdiv y0.1 (wrap i64 ((((length r6):Nat):Int)+1))))))<=57343)) then
 some (([]:List UInt8),((32:Int),s1))
 else
 bif ((wrap i64 ((((length r6):Nat):Int)+1)) !=0) then
 (Y54 (r6,((Int.tmod y0.1 (wrap i64 ((((length r6):Nat):Int)+1))),([(wrap i32 (wrap i64 (s4+(wrap i64 (Int.tdiv y0.1 (wrap i64 ((((length r6):Nat):Int)+1)))))))]:List Int)))).bind fun y2=>
 Z86 s0 y0.2.1 s2 (wrap i64 ((Int.tmod y0.1 (wrap i64 ((((length r6):Nat):Int)+1)))+1)) (wrap i64 (s4+(wrap i64 (Int.tdiv y0.1 (wrap i64 ((((length r6):Nat):Int)+1)))))) y1 y2
 else
 none
 else
 bif ((wrap i64 ((((length r6):Nat):Int)+1)) !=0) then
 (Y54 (r6,((Int.tmod y0.1 (wrap i64 ((((length r6):Nat):Int)+1))),([(wrap i32 (wrap i64 (s4+(wrap i64 (Int.tdiv y0.1 (wrap i64 ((((length r6):Nat):Int)+1)))))))]:List Int)))).bind fun y2=>
 Z86 s0 y0.2.1 s2 (wrap i64 ((Int.tmod y0.1 (wrap i64 ((((length r6):Nat):Int)+1)))+1)) (wrap i64 (s4+(wrap i64 (Int.tdiv y0.1 (wrap i64 ((((length r6):Nat):Int)+1)))))) y1 y2
 else
 none
 else
 none
 else
 some ((YQ2 r6),((0:Int),(0:Int))):=by unfold Z86; rewrite [Y9]; kernel_rfl
theorem Y5k (s0:List UInt8) (s1:Int) (s2:Int) (s3:Int) (s4:Int) (s5:Int):Z96 s0 s1 s2 s3 s4 s5=
 bif (decide (s1 < (((length s0):Nat):Int))) then
 (YR6 (s0,(s1,(s3,s5)))).bind fun y0=>
 bif (y0.2.2.1 !=0) then
 some (([]:List UInt8),(y0.2.2.1,y0.2.2.2))
 else
 (YC5 ((wrap i64 (y0.1 - s3)),((wrap i64 (((0:Nat):Int)+1)),(((0:Nat):Int)==s2)))).bind fun y1=>
 bif (decide ((wrap i64 (s4+(wrap i64 (Int.tdiv y0.1 (wrap i64 (((0:Nat):Int)+1)))))) > 1114111)) then
 some (([]:List UInt8),((32:Int),s1))
 else
 bif (decide ((wrap i64 (s4+(wrap i64 (Int.tdiv y0.1 (wrap i64 (((0:Nat):Int)+1))))))>=55296)) then
 bif (decide ((wrap i64 (s4+(wrap i64 (Int.tdiv y0.1 (wrap i64 (((0:Nat):Int)+1))))))<=57343)) then
 some (([]:List UInt8),((32:Int),s1))
 else
 (Y54 (([]:List Int),((Int.tmod y0.1 (wrap i64 (((0:Nat):Int)+1))),([(wrap i32 (wrap i64 (s4+(wrap i64 (Int.tdiv y0.1 (wrap i64 (((0:Nat):Int)+1)))))))]:List Int)))).bind fun y2=>
 Z86 s0 y0.2.1 s2 (wrap i64 ((Int.tmod y0.1 (wrap i64 (((0:Nat):Int)+1)))+1)) (wrap i64 (s4+(wrap i64 (Int.tdiv y0.1 (wrap i64 (((0:Nat):Int)+1)))))) y1 y2
 else
 (Y54 (([]:List Int),((Int.tmod y0.1 (wrap i64 (((0:Nat):Int)+1))),([(wrap i32 (wrap i64 (s4+(wrap i64 (Int.tdiv y0.1 (wrap i64 (((0:Nat):Int)+1)))))))]:List Int)))).bind fun y2=>
 Z86 s0 y0.2.1 s2 (wrap i64 ((Int.tmod y0.1 (wrap i64 (((0:Nat):Int)+1)))+1)) (wrap i64 (s4+(wrap i64 (Int.tdiv y0.1 (wrap i64 (((0:Nat):Int)+1)))))) y1 y2
 else
 some ((YQ2 ([]:List Int)),((0:Int),(0:Int))):=by unfold Z96; rewrite [Y9]; kernel_rfl
theorem YEn (x:Int):YUe x=
 Za6 x:=by kernel_rfl
theorem Yak (s0:Int):Za6 s0=
 some (decide (s0 > 127)):=by unfold Za6; rewrite [Y9]; kernel_rfl
theorem Ypp (x:Int):Yj7 x=
 Zb6 x:=by kernel_rfl
theorem Yek (s0:Int):Zb6 s0=
 bif (decide ((0:Int)<=s0)) then
 bif (decide (s0 < 55296)) then
 some true
 else
 bif (decide ((57343:Int) < s0)) then
 bif (decide (s0<=1114111)) then
 some true
 else
 some false
 else
 some false
 else
 bif (decide ((57343:Int) < s0)) then
 bif (decide (s0<=1114111)) then
 some true
 else
 some false
 else
 some false:=by unfold Zb6; rewrite [Y9]; kernel_rfl
theorem Ymp (x:((List Int)×Int)):Yi7 x=
 Zc6 x.2 x.1:=by kernel_rfl
theorem Yik (s0:Int) (r1:List Int):Zc6 s0 r1=
 bif (decide ((wrap u32 s0)<=127)) then
 bif (decide (((length r1)+(length ([(wrap u8 s0)]:List Int)))<=(lim))) then
 some (r1++([(wrap u8 s0)]:List Int))
 else
 none
 else
 (YFf (r1,s0)).bind fun y0=>
 some y0:=by unfold Zc6; rewrite [Y9]; kernel_rfl
theorem YAp (x:List UInt8):Yca x=
 Zd6 x:=by kernel_rfl
theorem Ykk (s0:List UInt8):Zd6 s0=
 bif (Ya (0:Int) (length s0)) then
 (Yaa (((UInt8.toNat (getD s0 (Int.toNat (0:Int)) (0:UInt8))):Nat):Int)).bind fun y0=>
 Ze6 s0 y0.1 y0.2.1 y0.2.2 (1:Int)
 else
 none:=by unfold Zd6; rewrite [Y9]; kernel_rfl
theorem Y1d (s0:List UInt8) (s1:Int) (s2:Int) (s3:Int) (s4:Int):Ze6 s0 s1 s2 s3 s4=
 bif (decide (s4 < (wrap i64 (s3 - 1)))) then
 bif (decide (s4 < (((length s0):Nat):Int))) then
 bif (Ya s4 (length s0)) then
 bif (decide ((((UInt8.toNat (getD s0 (Int.toNat s4) (0:UInt8))):Nat):Int)>=s1)) then
 bif (Ya s4 (length s0)) then
 bif (decide ((((UInt8.toNat (getD s0 (Int.toNat s4) (0:UInt8))):Nat):Int)<=s2)) then
 Ze6 s0 (128:Int) (191:Int) s3 (wrap i64 (s4+1))
 else
 some s4
 else
 none
 else
 some s4
 else
 none
 else
 some s4
 else
 some s4:=by unfold Ze6; rewrite [Y9]; kernel_rfl
theorem Ysn (x:Int):YN6 x=
 Zf6 x:=by kernel_rfl
theorem Ysk (s0:Int):Zf6 s0=
 (Y74 (([48,49,50,51,52,53,54,55,56,57,65,66,67,68,69,70]:List UInt8),s0)).bind fun y0=>
 bif (decide (y0>=0)) then
 some y0
 else
 bif (decide (s0>=97)) then
 bif (decide (s0<=102)) then
 some (wrap i64 ((wrap i64 (wrap u8 (s0 - 97)))+10))
 else
 some (-(1:Int))
 else
 some (-(1:Int)):=by unfold Zf6; rewrite [Y9]; kernel_rfl
theorem YHn (x:((List Int)×(Int×Int))):YB9 x=
 Zg6 x.2.1 x.2.2 x.1:=by kernel_rfl
theorem YAk (s0:Int) (s1:Int) (r2:List Int):Zg6 s0 s1 r2=
 Zh6 s0 s1 (36:Int) r2:=by unfold Zg6; rewrite [Y9]; kernel_rfl
theorem Y8d (s0:Int) (s1:Int) (s2:Int) (r3:List Int):Zh6 s0 s1 s2 r3=
 (YS6 (s2,s1)).bind fun y0=>
 bif (decide (s0 < y0)) then
 bif (Ya s0 (length ([97,98,99,100,101,102,103,104,105,106,107,108,109,110,111,112,113,114,115,116,117,118,119,120,121,122,48,49,50,51,52,53,54,55,56,57]:List UInt8))) then
 bif (decide (((length r3)+(length ([(((UInt8.toNat (getD ([97,98,99,100,101,102,103,104,105,106,107,108,109,110,111,112,113,114,115,116,117,118,119,120,121,122,48,49,50,51,52,53,54,55,56,57]:List UInt8) (Int.toNat s0) (0:UInt8))):Nat):Int)]:List Int)))<=(lim))) then
 some (r3++([(((UInt8.toNat (getD ([97,98,99,100,101,102,103,104,105,106,107,108,109,110,111,112,113,114,115,116,117,118,119,120,121,122,48,49,50,51,52,53,54,55,56,57]:List UInt8) (Int.toNat s0) (0:UInt8))):Nat):Int)]:List Int))
 else
 none
 else
 none
 else
 bif ((wrap i64 ((36:Int) - y0)) !=0) then
 bif (Ya (wrap i64 (y0+(Int.tmod (wrap i64 (s0 - y0)) (wrap i64 ((36:Int) - y0))))) (length ([97,98,99,100,101,102,103,104,105,106,107,108,109,110,111,112,113,114,115,116,117,118,119,120,121,122,48,49,50,51,52,53,54,55,56,57]:List UInt8))) then
 bif (decide (((length r3)+(length ([(((UInt8.toNat (getD ([97,98,99,100,101,102,103,104,105,106,107,108,109,110,111,112,113,114,115,116,117,118,119,120,121,122,48,49,50,51,52,53,54,55,56,57]:List UInt8) (Int.toNat (wrap i64 (y0+(Int.tmod (wrap i64 (s0 - y0)) (wrap i64 ((36:Int) - y0)))))) (0:UInt8))):Nat):Int)]:List Int)))<=(lim))) then
 bif ((wrap i64 ((36:Int) - y0)) !=0) then
 Zh6 (wrap i64 (Int.tdiv (wrap i64 (s0 - y0)) (wrap i64 ((36:Int) - y0)))) s1 (wrap i64 (s2+36)) (r3++([(((UInt8.toNat (getD ([97,98,99,100,101,102,103,104,105,106,107,108,109,110,111,112,113,114,115,116,117,118,119,120,121,122,48,49,50,51,52,53,54,55,56,57]:List UInt8) (Int.toNat (wrap i64 (y0+(Int.tmod (wrap i64 (s0 - y0)) (wrap i64 ((36:Int) - y0)))))) (0:UInt8))):Nat):Int)]:List Int))
 else
 none
 else
 none
 else
 none
 else
 none:=by unfold Zh6; rewrite [Y9]; kernel_rfl
theorem YDn (x:(Int×(Int×Bool))):YC5 x=
 Zi6 x.1 x.2.1 x.2.2:=by kernel_rfl
theorem YLk (s0:Int) (s1:Int) (s2:Bool):Zi6 s0 s1 s2=
 bif s2 then
 Zj6 (wrap i64 (Int.tdiv s0 (700:Int))) s1 s2
 else
 Zj6 (wrap i64 (Int.tdiv s0 (2:Int))) s1 s2:=by unfold Zi6; rewrite [Y9]; kernel_rfl
theorem YPk (s0:Int) (s1:Int) (s2:Bool):Zj6 s0 s1 s2=
 bif (s1 !=0) then
 Zk6 (wrap i64 (s0+(wrap i64 (Int.tdiv s0 s1)))) s1 s2 (0:Int)
 else
 none:=by unfold Zj6; rewrite [Y9]; kernel_rfl
theorem Ygd (s0:Int) (s1:Int) (s2:Bool) (s3:Int):Zk6 s0 s1 s2 s3=
 bif (decide (s0 > 455)) then
 Zk6 (wrap i64 (Int.tdiv s0 (35:Int))) s1 s2 (wrap i64 (s3+36))
 else
 bif ((wrap i64 (s0+38)) !=0) then
 some (wrap i64 (s3+(wrap i64 (Int.tdiv (wrap i64 ((36:Int)*s0)) (wrap i64 (s0+38))))))
 else
 none:=by unfold Zk6; rewrite [Y9]; kernel_rfl
theorem Yfp (x:(List UInt8×Int)):Y7a x=
 Zl6 x.1 x.2:=by kernel_rfl
theorem YXk (s0:List UInt8) (s1:Int):Zl6 s0 s1=
 (YAe (s0,s1)).bind fun y0=>
 some y0:=by unfold Zl6; rewrite [Y9]; kernel_rfl
theorem YJn (x:(List UInt8×(Int×(Int×Int)))):YR6 x=
 Zm6 x.1 x.2.1 x.2.2.1 x.2.2.2:=by kernel_rfl
theorem Y2l (s0:List UInt8) (s1:Int) (s2:Int) (s3:Int):Zm6 s0 s1 s2 s3=
 Zn6 s0 s1 s2 s3 s1 (1:Int) (36:Int):=by unfold Zm6; rewrite [Y9]; kernel_rfl
theorem Ynd (s0:List UInt8) (s1:Int) (s2:Int) (s3:Int) (s4:Int) (s5:Int) (s6:Int):Zn6 s0 s1 s2 s3 s4 s5 s6=
 bif (s1==(((length s0):Nat):Int)) then
 some ((0:Int),((0:Int),((31:Int),s1)))
 else
 bif (Ya s1 (length s0)) then
 (Y74 (([97,98,99,100,101,102,103,104,105,106,107,108,109,110,111,112,113,114,115,116,117,118,119,120,121,122,48,49,50,51,52,53,54,55,56,57]:List UInt8),(((UInt8.toNat (getD s0 (Int.toNat s1) (0:UInt8))):Nat):Int))).bind fun y0=>
 bif (Ya s1 (length s0)) then
 bif (decide (y0 < 0)) then
 bif (decide ((bits Go.BinOp.or u8 (((UInt8.toNat (getD s0 (Int.toNat s1) (0:UInt8))):Nat):Int) (32:Int))>=97)) then
 bif (decide ((bits Go.BinOp.or u8 (((UInt8.toNat (getD s0 (Int.toNat s1) (0:UInt8))):Nat):Int) (32:Int))<=122)) then
 Zo6 s0 s1 s2 s3 s4 s5 s6 (wrap i64 (wrap u8 ((bits Go.BinOp.or u8 (((UInt8.toNat (getD s0 (Int.toNat s1) (0:UInt8))):Nat):Int) (32:Int)) - 97)))
 else
 Zo6 s0 s1 s2 s3 s4 s5 s6 y0
 else
 Zo6 s0 s1 s2 s3 s4 s5 s6 y0
 else
 Zo6 s0 s1 s2 s3 s4 s5 s6 y0
 else
 none
 else
 none:=by unfold Zn6; rewrite [Y9]; kernel_rfl
theorem Ydl (s0:List UInt8) (s1:Int) (s2:Int) (s3:Int) (s4:Int) (s5:Int) (s6:Int) (s7:Int):Zo6 s0 s1 s2 s3 s4 s5 s6 s7=
 bif (decide (s7 < 0)) then
 some ((0:Int),((0:Int),((31:Int),s1)))
 else
 bif (decide ((wrap i64 (s2+(wrap i64 (s7*s5)))) > 2147483647)) then
 some ((0:Int),((0:Int),((32:Int),s4)))
 else
 (YS6 (s6,s3)).bind fun y0=>
 bif (decide (s7 < y0)) then
 some ((wrap i64 (s2+(wrap i64 (s7*s5)))),((wrap i64 (s1+1)),((0:Int),(0:Int))))
 else
 bif (decide ((wrap i64 (s5*(wrap i64 ((36:Int) - y0)))) > 2147483647)) then
 some ((0:Int),((0:Int),((32:Int),s4)))
 else
 Zn6 s0 (wrap i64 (s1+1)) (wrap i64 (s2+(wrap i64 (s7*s5)))) s3 s4 (wrap i64 (s5*(wrap i64 ((36:Int) - y0)))) (wrap i64 (s6+36)):=by unfold Zo6; rewrite [Y9]; kernel_rfl
theorem Y1p (x:((List Int)×(Int×(List Int)))):Y54 x=Yq4 x:=by kernel_rfl
theorem Yqp (x:((List Int)×Int)):YFf x=
 Zp6 x.2 x.1:=by kernel_rfl
theorem Ygl (s0:Int) (r1:List Int):Zp6 s0 r1=
 bif (decide ((wrap u32 s0)<=2047)) then
 bif (decide (((length r1)+(length ([(bits Go.BinOp.or u8 (192:Int) (wrap u8 (shr i32 s0 (6:Int)))),(bits Go.BinOp.or u8 (128:Int) (bits Go.BinOp.and u8 (wrap u8 s0) (63:Int)))]:List Int)))<=(lim))) then
 some (r1++([(bits Go.BinOp.or u8 (192:Int) (wrap u8 (shr i32 s0 (6:Int)))),(bits Go.BinOp.or u8 (128:Int) (bits Go.BinOp.and u8 (wrap u8 s0) (63:Int)))]:List Int))
 else
 none
 else
 bif (decide ((wrap u32 s0) < 55296)) then
 Zq6 s0 (wrap u32 s0) (decide ((wrap u32 s0) < 55296)) r1
 else
 bif (decide ((57343:Int) < (wrap u32 s0))) then
 Zq6 s0 (wrap u32 s0) (decide ((wrap u32 s0)<=65535)) r1
 else
 Zq6 s0 (wrap u32 s0) false r1:=by unfold Zp6; rewrite [Y9]; kernel_rfl
theorem Yvd (s0:Int) (s1:Int) (s2:Bool) (r3:List Int):Zq6 s0 s1 s2 r3=
 bif s2 then
 bif (decide (((length r3)+(length ([(bits Go.BinOp.or u8 (224:Int) (wrap u8 (shr i32 s0 (12:Int)))),(bits Go.BinOp.or u8 (128:Int) (bits Go.BinOp.and u8 (wrap u8 (shr i32 s0 (6:Int))) (63:Int))),(bits Go.BinOp.or u8 (128:Int) (bits Go.BinOp.and u8 (wrap u8 s0) (63:Int)))]:List Int)))<=(lim))) then
 some (r3++([(bits Go.BinOp.or u8 (224:Int) (wrap u8 (shr i32 s0 (12:Int)))),(bits Go.BinOp.or u8 (128:Int) (bits Go.BinOp.and u8 (wrap u8 (shr i32 s0 (6:Int))) (63:Int))),(bits Go.BinOp.or u8 (128:Int) (bits Go.BinOp.and u8 (wrap u8 s0) (63:Int)))]:List Int))
 else
 none
 else
 bif (decide (s1 > 65535)) then
 bif (decide (s1<=1114111)) then
 bif (decide (((length r3)+(length ([(bits Go.BinOp.or u8 (240:Int) (wrap u8 (shr i32 s0 (18:Int)))),(bits Go.BinOp.or u8 (128:Int) (bits Go.BinOp.and u8 (wrap u8 (shr i32 s0 (12:Int))) (63:Int))),(bits Go.BinOp.or u8 (128:Int) (bits Go.BinOp.and u8 (wrap u8 (shr i32 s0 (6:Int))) (63:Int))),(bits Go.BinOp.or u8 (128:Int) (bits Go.BinOp.and u8 (wrap u8 s0) (63:Int)))]:List Int)))<=(lim))) then
 some (r3++([(bits Go.BinOp.or u8 (240:Int) (wrap u8 (shr i32 s0 (18:Int)))),(bits Go.BinOp.or u8 (128:Int) (bits Go.BinOp.and u8 (wrap u8 (shr i32 s0 (12:Int))) (63:Int))),(bits Go.BinOp.or u8 (128:Int) (bits Go.BinOp.and u8 (wrap u8 (shr i32 s0 (6:Int))) (63:Int))),(bits Go.BinOp.or u8 (128:Int) (bits Go.BinOp.and u8 (wrap u8 s0) (63:Int)))]:List Int))
 else
 none
 else
 bif (decide (((length r3)+(length ([239,191,189]:List Int)))<=(lim))) then
 some (r3++([239,191,189]:List Int))
 else
 none
 else
 bif (decide (((length r3)+(length ([239,191,189]:List Int)))<=(lim))) then
 some (r3++([239,191,189]:List Int))
 else
 none:=by unfold Zq6; rewrite [Y9]; kernel_rfl
theorem Ywp (x:Int):Yaa x=
 Zr6 x:=by kernel_rfl
theorem Yrl (s0:Int):Zr6 s0=
 bif (decide (s0>=194)) then
 bif (decide (s0<=223)) then
 some ((128:Int),((191:Int),(2:Int)))
 else
 bif (s0==224) then
 some ((160:Int),((191:Int),(3:Int)))
 else
 bif (s0==237) then
 some ((128:Int),((159:Int),(3:Int)))
 else
 bif (decide (s0>=225)) then
 bif (decide (s0<=239)) then
 some ((128:Int),((191:Int),(3:Int)))
 else
 bif (s0==240) then
 some ((144:Int),((191:Int),(4:Int)))
 else
 bif (decide (s0>=241)) then
 bif (decide (s0<=243)) then
 some ((128:Int),((191:Int),(4:Int)))
 else
 bif (s0==244) then
 some ((128:Int),((143:Int),(4:Int)))
 else
 some ((0:Int),((0:Int),(0:Int)))
 else
 bif (s0==244) then
 some ((128:Int),((143:Int),(4:Int)))
 else
 some ((0:Int),((0:Int),(0:Int)))
 else
 bif (s0==240) then
 some ((144:Int),((191:Int),(4:Int)))
 else
 bif (decide (s0>=241)) then
 bif (decide (s0<=243)) then
 some ((128:Int),((191:Int),(4:Int)))
 else
 bif (s0==244) then
 some ((128:Int),((143:Int),(4:Int)))
 else
 some ((0:Int),((0:Int),(0:Int)))
 else
 bif (s0==244) then
 some ((128:Int),((143:Int),(4:Int)))
 else
 some ((0:Int),((0:Int),(0:Int)))
 else
 bif (s0==224) then
 some ((160:Int),((191:Int),(3:Int)))
 else
 bif (s0==237) then
 some ((128:Int),((159:Int),(3:Int)))
 else
 bif (decide (s0>=225)) then
 bif (decide (s0<=239)) then
 some ((128:Int),((191:Int),(3:Int)))
 else
 bif (s0==240) then
 some ((144:Int),((191:Int),(4:Int)))
 else
 bif (decide (s0>=241)) then
 bif (decide (s0<=243)) then
 some ((128:Int),((191:Int),(4:Int)))
 else
 bif (s0==244) then
 some ((128:Int),((143:Int),(4:Int)))
 else
 some ((0:Int),((0:Int),(0:Int)))
 else
 bif (s0==244) then
 some ((128:Int),((143:Int),(4:Int)))
 else
 some ((0:Int),((0:Int),(0:Int)))
 else
 bif (s0==240) then
 some ((144:Int),((191:Int),(4:Int)))
 else
 bif (decide (s0>=241)) then
 bif (decide (s0<=243)) then
 some ((128:Int),((191:Int),(4:Int)))
 else
 bif (s0==244) then
 some ((128:Int),((143:Int),(4:Int)))
 else
 some ((0:Int),((0:Int),(0:Int)))
 else
 bif (s0==244) then
 some ((128:Int),((143:Int),(4:Int)))
 else
 some ((0:Int),((0:Int),(0:Int))):=by unfold Zr6; rewrite [Y9]; kernel_rfl
theorem YLn (x:(Int×Int)):YS6 x=
 Zs6 x.1 x.2:=by kernel_rfl
theorem Yxl (s0:Int) (s1:Int):Zs6 s0 s1=
 bif (decide (s0<=s1)) then
 some (1:Int)
 else
 bif (decide (s0>=(wrap i64 (s1+26)))) then
 some (26:Int)
 else
 some (wrap i64 (s0 - s1)):=by unfold Zs6; rewrite [Y9]; kernel_rfl
theorem YYm (x:(List UInt8×Int)):YAe x=
 Zt6 x.1 x.2:=by kernel_rfl
theorem YCl (s0:List UInt8) (s1:Int):Zt6 s0 s1=
 Zu6 s0 s1 (wrap i64 ((((length s0):Nat):Int) - 1)):=by unfold Zt6; rewrite [Y9]; kernel_rfl
theorem YGd (s0:List UInt8) (s1:Int) (s2:Int):Zu6 s0 s1 s2=
 bif (decide (s2>=0)) then
 bif (Ya s2 (length s0)) then
 bif ((((UInt8.toNat (getD s0 (Int.toNat s2) (0:UInt8))):Nat):Int)==s1) then
 some s2
 else
 Zu6 s0 s1 (wrap i64 (s2 - 1))
 else
 none
 else
 some (-(1:Int)):=by unfold Zu6; rewrite [Y9]; kernel_rfl
end
end Go.Abs
namespace Go.Abs
noncomputable section
open IntKind List
def Y5n (x:Int):Option (List UInt8):=Abs.Call E 262 x
def Y4n (x:Int):Option Int:=Abs.Call E 263 x
def Y1n (x:((List Int)×Int)):Option Unit:=Abs.Call E 264 x
def Yx5 (x:D35):Option (List UInt8×Int):=Abs.Call E 49 x
def Zv6 (s0:D35):Option (List UInt8×Int):=(Abs.Run E 49 (E.at 49 []) ⟨Y7 [(0,(.val T35 s0))],Ye [],Yf []⟩)
def YG6 (x:D35):Option Int:=Abs.Call E 50 x
def Zw6 (s0:D35):Option Int:=(Abs.Run E 50 (E.at 50 []) ⟨Y7 [(0,(.val T35 s0))],Ye [],Yf []⟩)
def Zx6 (s0:D35) (s1:Int) (s2:Bool) (b3:D35) (b4:D35):Option Int:=(Abs.Run E 50 (E.at 50 [1,1,0,1,0,0,1,9]) ⟨Y7 [(0,(.val T35 s0)),(1,(.addr (.box 0) [])),(3,(.addr (.box 1) [])),(8,(.val (.int .i64) s1)),(9,(.val .bool s2))],Yc [.cells T35 .live (.val T35 b3),.cells T35 .live (.val T35 b4)],Yd []⟩)
def Zy6 (s0:D35) (s1:Int) (s2:Bool) (b3:D35) (b4:D35):Option Int:=(Abs.Run E 50 (E.at 50 [1,1,0,1,0,1,9]) ⟨Y7 [(0,(.val T35 s0)),(1,(.addr (.box 0) [])),(3,(.addr (.box 1) [])),(8,(.val (.int .i64) s1)),(9,(.val .bool s2))],Yc [.cells T35 .live (.val T35 b3),.cells T35 .live (.val T35 b4)],Yd []⟩)
def Zz6 (s0:D35) (b1:D35) (b2:D35):Option Int:=(Abs.Run E 50 (E.at 50 [1,1,0,1,0,1,1,1,9]) ⟨Y7 [(0,(.val T35 s0)),(1,(.addr (.box 0) [])),(3,(.addr (.box 1) []))],Yc [.cells T35 .live (.val T35 b1),.cells T35 .live (.val T35 b2)],Yd []⟩)
def Z07 (s0:D35) (b1:D35) (b2:D35):Option Int:=(Abs.Run E 50 (E.at 50 [1,1,0,1,0,1,1,1,1,1,9]) ⟨Y7 [(0,(.val T35 s0)),(1,(.addr (.box 0) [])),(3,(.addr (.box 1) []))],Yc [.cells T35 .live (.val T35 b1),.cells T35 .live (.val T35 b2)],Yd []⟩)
def Z17 (s0:D35) (s1:Bool) (b2:D35) (b3:D35):Option Int:=(Abs.Run E 50 (E.at 50 [1,1,0,1,0,1,1,1,1,1,1,0,1,9]) ⟨Y7 [(0,(.val T35 s0)),(1,(.addr (.box 0) [])),(3,(.addr (.box 1) [])),(22,(.val .bool s1))],Yc [.cells T35 .live (.val T35 b2),.cells T35 .live (.val T35 b3)],Yd []⟩)
def Z27 (s0:D35) (b1:D35) (b2:D35):Option Int:=(Abs.Run E 50 (E.at 50 [1,1,0,1,0,1,9]) ⟨Y7 [(0,(.val T35 s0)),(1,(.addr (.box 0) [])),(3,(.addr (.box 1) [])),(8,.undef),(9,.undef)],Yc [.cells T35 .live (.val T35 b1),.cells T35 .live (.val T35 b2)],Yd []⟩)
def Z37 (s0:D35) (s1:Bool) (b2:D35) (b3:D35):Option Int:=(Abs.Run E 50 (E.at 50 [1,1,0,1,0,1,1,1,1,1,1,1,9]) ⟨Y7 [(0,(.val T35 s0)),(1,(.addr (.box 0) [])),(3,(.addr (.box 1) [])),(22,(.val .bool s1))],Yc [.cells T35 .live (.val T35 b2),.cells T35 .live (.val T35 b3)],Yd []⟩)
def Ys9 (x:Int):Option (List UInt8):=Abs.Call E 127 x
def Z47 (s0:Int):Option (List UInt8):=(Abs.Run E 127 (E.at 127 []) ⟨Y7 [(0,(.val (.int .u32) s0))],Ye [],Yf []⟩)
def Z57 (s0:Int) (s1:Int) (r2:List (List UInt8)):Option (List UInt8):=(Abs.Run E 127 (E.at 127 [1,1,0,1,0,7]) ⟨Y7 [(0,(.val (.int .u32) s0)),(3,(.row 0)),(4,(.val (.int .i64) s1))],Yc [],Yd [.mk .str .live r2]⟩)
def Yz5 (x:(List Int)):Option (List UInt8):=Abs.Call E 128 x
def Z67 (s0:(List Int)):Option (List UInt8):=(Abs.Run E 128 (E.at 128 []) ⟨Y7 [(0,(.val (.arr 8 (.int .u16)) s0))],Ye [],Yf []⟩)
def Y2a (x:Int):Option (List UInt8):=Abs.Call E 182 x
def Z77 (s0:Int):Option (List UInt8):=(Abs.Run E 182 (E.at 182 []) ⟨Y7 [(0,(.val (.int .i64) s0))],Ye [],Yf []⟩)
def YE4 (x:(List Int)):Option (Int×Int):=Abs.Call E 183 x
def Z87 (s0:(List Int)):Option (Int×Int):=(Abs.Run E 183 (E.at 183 []) ⟨Y7 [(0,(.val (.arr 8 (.int .u16)) s0))],Ye [],Yf []⟩)
def Z97 (s0:(List Int)) (s1:Int) (s2:Int) (s3:Int) (b4:(List Int)):Option (Int×Int):=(Abs.Run E 183 (E.at 183 [1,1,0,1,0,7]) ⟨Y7 [(0,(.val (.arr 8 (.int .u16)) s0)),(1,(.addr (.box 0) [])),(4,(.val (.int .i64) s1)),(5,(.val (.int .i64) s2)),(8,(.val (.int .i64) s3))],Yc [.cells (.arr 8 (.int .u16)) .live (.val (.arr 8 (.int .u16)) b4)],Yd []⟩)
def Za7 (s0:(List Int)) (s1:Int) (s2:Int) (s3:Int) (s4:Int) (s5:Int) (b6:(List Int)):Option (Int×Int):=(Abs.Run E 183 (E.at 183 [1,1,0,1,0,0,1,1,0,0,1,1,0,0,7]) ⟨Y7 [(0,(.val (.arr 8 (.int .u16)) s0)),(1,(.addr (.box 0) [])),(4,(.val (.int .i64) s1)),(5,(.val (.int .i64) s2)),(6,(.val (.int .i64) s3)),(7,(.val (.int .i64) s4)),(8,(.val (.int .i64) s5))],Yc [.cells (.arr 8 (.int .u16)) .live (.val (.arr 8 (.int .u16)) b6)],Yd []⟩)
def YA5 (x:(List Int)):Option (List UInt8):=Abs.Call E 184 x
def Zb7 (s0:(List Int)):Option (List UInt8):=(Abs.Run E 184 (E.at 184 []) ⟨Y7 [(0,(.val (.sl false (.int .u16)) s0))],Ye [],Yf []⟩)
def Zc7 (s0:(List Int)) (s1:(List Int)) (s2:Int) (s3:Int) (r4:List (List UInt8)):Option (List UInt8):=(Abs.Run E 184 (E.at 184 [1,1,0,1,0,7]) ⟨Y7 [(0,(.val (.sl false (.int .u16)) s0)),(3,(.row 0)),(6,(.val (.sl false (.int .u16)) s1)),(7,(.val (.int .i64) s2)),(8,(.val (.int .i64) s3))],Yc [],Yd [.mk .str .live r4]⟩)
def Y1a (x:(Int×Int)):Option (List UInt8):=Abs.Call E 185 x
def Zd7 (s0:Int) (s1:Int):Option (List UInt8):=(Abs.Run E 185 (E.at 185 []) ⟨Y7 [(1,(.val (.int .i64) s1)),(0,(.val (.int .u64) s0))],Ye [],Yf []⟩)
def YBe (x:(Int×Int)):Option (List UInt8):=Abs.Call E 228 x
def Ze7 (s0:Int) (s1:Int):Option (List UInt8):=(Abs.Run E 228 (E.at 228 []) ⟨Y7 [(1,(.val (.int .i64) s1)),(0,(.val (.int .u64) s0))],Ye [],Yf []⟩)
def YDe (x:((List Int)×(Int×(Int×(Bool×Bool))))):Option ((List Int)×List UInt8):=Abs.Call E 265 x
def Zf7 (s0:(List Int)) (s1:Int) (s2:Int) (s3:Bool) (s4:Bool):Option ((List Int)×List UInt8):=(Abs.Run E 265 (E.at 265 []) ⟨Y7 [(4,(.val .bool s4)),(3,(.val .bool s3)),(2,(.val (.int .i64) s2)),(1,(.val (.int .u64) s1)),(0,(.val (.sl false (.int .u8)) s0))],Ye [],Yf []⟩)
def Zg7 (s0:(List Int)) (s1:Int) (s2:Int) (s3:Bool) (s4:Bool) (s5:List UInt8) (r6:List Int):Option ((List Int)×List UInt8):=(Abs.Run E 265 (E.at 265 [1,0,1,9]) ⟨Y7 [(0,(.val (.sl false (.int .u8)) s0)),(1,(.val (.int .u64) s1)),(2,(.val (.int .i64) s2)),(3,(.val .bool s3)),(4,(.val .bool s4)),(10,(.row 0)),(11,(.val .str s5))],Yc [],Yd [.mk (.int .u8) .live r6]⟩)
def Zh7 (s0:(List Int)) (s1:Int) (s2:Int) (s3:Bool) (s4:Bool) (s5:List UInt8) (s6:Int) (b7:(List Int)) (r8:List Int):Option ((List Int)×List UInt8):=(Abs.Run E 265 (E.at 265 [1,1,1,1,0,1,9]) ⟨Y7 [(0,(.val (.sl false (.int .u8)) s0)),(1,(.val (.int .u64) s1)),(2,(.val (.int .i64) s2)),(3,(.val .bool s3)),(4,(.val .bool s4)),(10,(.row 0)),(11,(.val .str s5)),(12,(.addr (.box 0) [])),(13,(.val (.int .i64) s6))],Yc [.cells (.arr 65 (.int .u8)) .live (.val (.arr 65 (.int .u8)) b7)],Yd [.mk (.int .u8) .live r8]⟩)
def Zi7 (s0:(List Int)) (s1:Int) (s2:Int) (s3:Bool) (s4:Bool) (s5:List UInt8) (s6:Int) (s7:Int) (s8:Int) (s9:Int) (b10:(List Int)) (r11:List Int):Option ((List Int)×List UInt8):=(Abs.Run E 265 (E.at 265 [1,1,1,1,1,0,1,0,1,1,1,0,0,7]) ⟨Y7 [(0,(.val (.sl false (.int .u8)) s0)),(1,(.val (.int .u64) s1)),(2,(.val (.int .i64) s2)),(3,(.val .bool s3)),(4,(.val .bool s4)),(10,(.row 0)),(11,(.val .str s5)),(12,(.addr (.box 0) [])),(13,(.val (.int .i64) s6)),(14,(.val (.int .u64) s7)),(15,(.val (.int .u64) s8)),(16,(.val (.int .u64) s9))],Yc [.cells (.arr 65 (.int .u8)) .live (.val (.arr 65 (.int .u8)) b10)],Yd [.mk (.int .u8) .live r11]⟩)
def Zj7 (s0:(List Int)) (s1:Int) (s2:Int) (s3:Bool) (s4:Bool) (s5:List UInt8) (s6:Int) (s7:Int) (b8:(List Int)) (r9:List Int):Option ((List Int)×List UInt8):=(Abs.Run E 265 (E.at 265 [1,1,1,1,1,0,1,1,1,0,0,7]) ⟨Y7 [(0,(.val (.sl false (.int .u8)) s0)),(1,(.val (.int .u64) s1)),(2,(.val (.int .i64) s2)),(3,(.val .bool s3)),(4,(.val .bool s4)),(10,(.row 0)),(11,(.val .str s5)),(12,(.addr (.box 0) [])),(13,(.val (.int .i64) s6)),(17,(.val (.int .u64) s7))],Yc [.cells (.arr 65 (.int .u8)) .live (.val (.arr 65 (.int .u8)) b8)],Yd [.mk (.int .u8) .live r9]⟩)
def Zk7 (s0:(List Int)) (s1:Int) (s2:Int) (s3:Bool) (s4:Bool) (s5:List UInt8) (s6:Int) (b7:(List Int)) (r8:List Int):Option ((List Int)×List UInt8):=(Abs.Run E 265 (E.at 265 [1,1,1,1,1,0,1,9]) ⟨Y7 [(0,(.val (.sl false (.int .u8)) s0)),(1,(.val (.int .u64) s1)),(2,(.val (.int .i64) s2)),(3,(.val .bool s3)),(4,(.val .bool s4)),(10,(.row 0)),(11,(.val .str s5)),(12,(.addr (.box 0) [])),(13,(.val (.int .i64) s6))],Yc [.cells (.arr 65 (.int .u8)) .live (.val (.arr 65 (.int .u8)) b7)],Yd [.mk (.int .u8) .live r8]⟩)
def Zl7 (s0:(List Int)) (s1:Int) (s2:Int) (s3:Bool) (s4:Bool) (s5:List UInt8) (s6:Int) (b7:(List Int)) (r8:List Int):Option ((List Int)×List UInt8):=(Abs.Run E 265 (E.at 265 [1,1,1,1,1,1,0,1,9]) ⟨Y7 [(0,(.val (.sl false (.int .u8)) s0)),(1,(.val (.int .u64) s1)),(2,(.val (.int .i64) s2)),(3,(.val .bool s3)),(4,(.val .bool s4)),(10,(.row 0)),(11,(.val .str s5)),(12,(.addr (.box 0) [])),(13,(.val (.int .i64) s6))],Yc [.cells (.arr 65 (.int .u8)) .live (.val (.arr 65 (.int .u8)) b7)],Yd [.mk (.int .u8) .live r8]⟩)
def YEe (x:Int):Option Bool:=Abs.Call E 287 x
def Zm7 (s0:Int):Option Bool:=(Abs.Run E 287 (E.at 287 []) ⟨Y7 [(0,(.val (.int .i64) s0))],Ye [],Yf []⟩)
def Yqe (x:Int):Option Int:=Abs.Call E 288 x
theorem Yre (x:D35):Yx5 x=
 Zv6 x:=by kernel_rfl
theorem YKd (s0:D35):Zv6 s0=
 (YG6 s0).bind fun y0=>
 bif (y0 !=0) then
 some (([]:List UInt8),y0)
 else
 bif (s0.1==2) then
 (Ys9 s0.2.2.1).bind fun y1=>
 some (y1,(0:Int))
 else
 bif (s0.1==3) then
 (Yz5 s0.2.2.2).bind fun y1=>
 bif (decide (((length ([91]:List UInt8))+(length y1))<=(2 ^ 62))) then
 bif (decide (((length (([91]:List UInt8)++y1))+(length ([93]:List UInt8)))<=(2 ^ 62))) then
 some (((([91]:List UInt8)++y1)++([93]:List UInt8)),(0:Int))
 else
 none
 else
 none
 else
 some (s0.2.1,(0:Int)):=by unfold Zv6; rewrite [Y9]; kernel_rfl
theorem Ytm (x:D35):YG6 x=
 Zw6 x:=by kernel_rfl
theorem YOl (s0:D35):Zw6 s0=
 bif (s0.1==0) then
 Zx6 s0 s0.1 (s0.1==0) s0 (s0.1,((Ty.zero .str),((Ty.zero (.int .u32)),(Ty.zero (.arr 8 (.int .u16))))))
 else
 Zx6 s0 s0.1 (s0.1==5) s0 (s0.1,((Ty.zero .str),((Ty.zero (.int .u32)),(Ty.zero (.arr 8 (.int .u16)))))):=by unfold Zw6; rewrite [Y9]; kernel_rfl
theorem YRl (s0:D35) (s1:Int) (s2:Bool) (b3:D35) (b4:D35):Zx6 s0 s1 s2 b3 b4=
 bif s2 then
 Zy6 s0 s1 s2 b3 b4
 else
 bif (s1==2) then
 Zz6 s0 b3 (b4.1,(b4.2.1,(b3.2.2.1,b4.2.2.2)))
 else
 bif (s1==3) then
 Z07 s0 b3 (b4.1,(b4.2.1,(b4.2.2.1,b3.2.2.2)))
 else
 bif (s1==1) then
 Z17 s0 (s1==1) b3 b4
 else
 Z17 s0 (s1==4) b3 b4:=by unfold Zx6; rewrite [Y9]; kernel_rfl
theorem YVl (s0:D35) (s1:Int) (s2:Bool) (b3:D35) (b4:D35):Zy6 s0 s1 s2 b3 b4=
 bif (!(Ty.beq T35 b3 b4)) then
 some (51:Int)
 else
 some (0:Int):=by unfold Zy6; rewrite [Y9]; kernel_rfl
theorem Y1m (s0:D35) (b1:D35) (b2:D35):Zz6 s0 b1 b2=
 Z27 s0 b1 b2:=by unfold Zz6; rewrite [Y9]; kernel_rfl
theorem Yfj (s0:D35) (b1:D35) (b2:D35):Z07 s0 b1 b2=
 Zz6 s0 b1 b2:=by unfold Z07; rewrite [Y9]; kernel_rfl
theorem Ymj (s0:D35) (s1:Bool) (b2:D35) (b3:D35):Z17 s0 s1 b2 b3=
 bif s1 then
 (Yp9 (b2.2.1,(b2.1==1))).bind fun y0=>
 Z37 s0 s1 b2 y0.1
 else
 some (51:Int):=by unfold Z17; rewrite [Y9]; kernel_rfl
theorem Ysj (s0:D35) (b1:D35) (b2:D35):Z27 s0 b1 b2=
 bif (!(Ty.beq T35 b1 b2)) then
 some (51:Int)
 else
 some (0:Int):=by unfold Z27; rewrite [Y9]; kernel_rfl
theorem Yyj (s0:D35) (s1:Bool) (b2:D35) (b3:D35):Z37 s0 s1 b2 b3=
 Z07 s0 b2 b3:=by unfold Z37; rewrite [Y9]; kernel_rfl
theorem YOm (x:Int):Ys9 x=
 Z47 x:=by kernel_rfl
theorem YGj (s0:Int):Z47 s0=
 Z57 s0 (3:Int) ([]:List (List UInt8)):=by unfold Z47; rewrite [Y9]; kernel_rfl
theorem YAc (s0:Int) (s1:Int) (r2:List (List UInt8)):Z57 s0 s1 r2=
 bif (decide (s1>=0)) then
 bif (decide ((0:Int)<=(wrap i64 ((8:Int)*s1)))) then
 (Y2a (wrap i64 (bits Go.BinOp.and u32 (shr u32 s0 (wrap i64 ((8:Int)*s1))) (255:Int)))).bind fun y0=>
 bif (decide (((length r2)+(length ([y0]:List (List UInt8))))<=(lim))) then
 Z57 s0 (wrap i64 (s1 - 1)) (r2++([y0]:List (List UInt8)))
 else
 none
 else
 none
 else
 (Yh7 (r2,([46]:List UInt8))).bind fun y0=>
 some y0:=by unfold Z57; rewrite [Y9]; kernel_rfl
theorem Yze (x:(List Int)):Yz5 x=
 Z67 x:=by kernel_rfl
theorem YEc (s0:(List Int)):Z67 s0=
 (YE4 s0).bind fun y0=>
 bif (y0.2==0) then
 (YA5 (List.drop (Option.getD (Option.map (Int.toNat) none) 0) (List.take (Option.getD (Option.map (Int.toNat) none) 8) s0))).bind fun y1=>
 some y1
 else
 bif (Yi none (some y0.1) 8) then
 bif (Yi (some (wrap i64 (y0.1+y0.2))) none 8) then
 (YA5 (List.drop (Option.getD (Option.map (Int.toNat) none) 0) (List.take (Option.getD (Option.map (Int.toNat) (some y0.1)) 8) s0))).bind fun y1=>
 bif (decide (((length y1)+(length ([58,58]:List UInt8)))<=(2 ^ 62))) then
 (YA5 (List.drop (Option.getD (Option.map (Int.toNat) (some (wrap i64 (y0.1+y0.2)))) 0) (List.take (Option.getD (Option.map (Int.toNat) none) 8) s0))).bind fun y2=>
 bif (decide (((length (y1++([58,58]:List UInt8)))+(length y2))<=(2 ^ 62))) then
 some ((y1++([58,58]:List UInt8))++y2)
 else
 none
 else
 none
 else
 none
 else
 none:=by unfold Z67; rewrite [Y9]; kernel_rfl
theorem Y3p (x:Int):Y2a x=
 Z77 x:=by kernel_rfl
theorem YWj (s0:Int):Z77 s0=
 (YCe s0).bind fun y0=>
 some y0:=by unfold Z77; rewrite [Y9]; kernel_rfl
theorem Yye (x:(List Int)):YE4 x=
 Z87 x:=by kernel_rfl
theorem YJc (s0:(List Int)):Z87 s0=
 Z97 s0 (0:Int) (1:Int) (0:Int) s0:=by unfold Z87; rewrite [Y9]; kernel_rfl
theorem Yu6 (s0:(List Int)) (s1:Int) (s2:Int) (s3:Int) (b4:(List Int)):Z97 s0 s1 s2 s3 b4=
 bif (decide (s3 < 8)) then
 Za7 s0 s1 s2 s3 (0:Int) s3 b4
 else
 bif (s2==1) then
 some ((0:Int),(0:Int))
 else
 some (s1,s2):=by unfold Z97; rewrite [Y9]; kernel_rfl
theorem Yv6 (s0:(List Int)) (s1:Int) (s2:Int) (s3:Int) (s4:Int) (s5:Int) (b6:(List Int)):Za7 s0 s1 s2 s3 s4 s5 b6=
 bif (decide ((wrap i64 (s3+s4)) < 8)) then
 bif (Ya (wrap i64 (s3+s4)) 8) then
 bif ((getD b6 (Int.toNat (wrap i64 (s3+s4))) (Ty.zero (.int .u16)))==0) then
 Za7 s0 s1 s2 s3 (wrap i64 (s4+1)) s5 b6
 else
 bif (decide (s4 > s2)) then
 Z97 s0 s3 s4 (wrap i64 (s5+1)) b6
 else
 Z97 s0 s1 s2 (wrap i64 (s5+1)) b6
 else
 none
 else
 bif (decide (s4 > s2)) then
 Z97 s0 s3 s4 (wrap i64 (s5+1)) b6
 else
 Z97 s0 s1 s2 (wrap i64 (s5+1)) b6:=by unfold Za7; rewrite [Y9]; kernel_rfl
theorem YVm (x:(List Int)):YA5 x=
 Zb7 x:=by kernel_rfl
theorem Yfk (s0:(List Int)):Zb7 s0=
 Zc7 s0 s0 (((length s0):Nat):Int) (0:Int) ([]:List (List UInt8)):=by unfold Zb7; rewrite [Y9]; kernel_rfl
theorem YTc (s0:(List Int)) (s1:(List Int)) (s2:Int) (s3:Int) (r4:List (List UInt8)):Zc7 s0 s1 s2 s3 r4=
 bif (decide (s3 < s2)) then
 bif (Ya s3 (length s1)) then
 (Y1a ((wrap u64 (getD s1 (Int.toNat s3) (Ty.zero (.int .u16)))),(16:Int))).bind fun y0=>
 bif (decide (((length r4)+(length ([y0]:List (List UInt8))))<=(lim))) then
 Zc7 s0 s1 s2 (wrap i64 (s3+1)) (r4++([y0]:List (List UInt8)))
 else
 none
 else
 none
 else
 (Yh7 (r4,([58]:List UInt8))).bind fun y0=>
 some y0:=by unfold Zc7; rewrite [Y9]; kernel_rfl
theorem Y2p (x:(Int×Int)):Y1a x=
 Zd7 x.1 x.2:=by kernel_rfl
theorem Ylk (s0:Int) (s1:Int):Zd7 s0 s1=
 (YBe (s0,s1)).bind fun y0=>
 some y0:=by unfold Zd7; rewrite [Y9]; kernel_rfl
theorem YZm (x:(Int×Int)):YBe x=
 Ze7 x.1 x.2:=by kernel_rfl
theorem Ypk (s0:Int) (s1:Int):Ze7 s0 s1=
 bif (s1==10) then
 bif (decide (s0 < 100)) then
 (Y5n (wrap i64 s0)).bind fun y0=>
 some y0
 else
 (Y4n s0).bind fun y0=>
 bif (Yi none (some y0) 24) then
 (Y1n ((List.drop (Option.getD (Option.map (Int.toNat) none) 0) (List.take (Option.getD (Option.map (Int.toNat) (some y0)) 24) (Ty.zero (.arr 24 (.int .u8))))),s0)).bind fun y1=>
 bif (Yi none (some y0) 24) then
 some (Ym (List.drop (Option.getD (Option.map (Int.toNat) none) 0) (List.take (Option.getD (Option.map (Int.toNat) (some y0)) 24) (Ty.zero (.arr 24 (.int .u8))))))
 else
 none
 else
 none
 else
 (YDe (([]:List Int),(s0,(s1,(false,false))))).bind fun y0=>
 some y0.2:=by unfold Ze7; rewrite [Y9]; kernel_rfl
theorem Y2n (x:((List Int)×(Int×(Int×(Bool×Bool))))):YDe x=
 Zf7 x.1 x.2.1 x.2.2.1 x.2.2.2.1 x.2.2.2.2:=by kernel_rfl
theorem Ytk (s0:(List Int)) (s1:Int) (s2:Int) (s3:Bool) (s4:Bool):Zf7 s0 s1 s2 s3 s4=
 bif (decide (s2 < 2)) then
 none
 else
 bif (s2==10) then
 none
 else
 bif (decide (s2 > 36)) then
 none
 else
 Zg7 s0 s1 s2 s3 s4 ([]:List UInt8) ([]:List Int):=by unfold Zf7; rewrite [Y9]; kernel_rfl
theorem YBk (s0:(List Int)) (s1:Int) (s2:Int) (s3:Bool) (s4:Bool) (s5:List UInt8) (r6:List Int):Zg7 s0 s1 s2 s3 s4 s5 r6=
 bif s3 then
 Zh7 s0 (wrap u64 ((0:Int) - s1)) s2 s3 s4 s5 (65:Int) (Ty.zero (.arr 65 (.int .u8))) r6
 else
 Zh7 s0 s1 s2 s3 s4 s5 (65:Int) (Ty.zero (.arr 65 (.int .u8))) r6:=by unfold Zg7; rewrite [Y9]; kernel_rfl
theorem YFk (s0:(List Int)) (s1:Int) (s2:Int) (s3:Bool) (s4:Bool) (s5:List UInt8) (s6:Int) (b7:(List Int)) (r8:List Int):Zh7 s0 s1 s2 s3 s4 s5 s6 b7 r8=
 (YEe s2).bind fun y0=>
 bif y0 then
 (Yqe (wrap u64 s2)).bind fun y1=>
 Zi7 s0 s1 s2 s3 s4 s5 s6 (wrap u64 y1) (wrap u64 s2) (wrap u64 ((wrap u64 s2) - 1)) b7 r8
 else
 Zj7 s0 s1 s2 s3 s4 s5 s6 (wrap u64 s2) b7 r8:=by unfold Zh7; rewrite [Y9]; kernel_rfl
theorem Yad (s0:(List Int)) (s1:Int) (s2:Int) (s3:Bool) (s4:Bool) (s5:List UInt8) (s6:Int) (s7:Int) (s8:Int) (s9:Int) (b10:(List Int)) (r11:List Int):Zi7 s0 s1 s2 s3 s4 s5 s6 s7 s8 s9 b10 r11=
 bif (decide (s1>=s8)) then
 bif (Ya (bits Go.BinOp.and u64 s1 s9) (length ([48,49,50,51,52,53,54,55,56,57,97,98,99,100,101,102,103,104,105,106,107,108,109,110,111,112,113,114,115,116,117,118,119,120,121,122]:List UInt8))) then
 bif (Ya (wrap i64 (s6 - 1)) 65) then
 bif (decide ((0:Int)<=s7)) then
 Zi7 s0 (shr u64 s1 s7) s2 s3 s4 s5 (wrap i64 (s6 - 1)) s7 s8 s9 (List.set b10 (Int.toNat (wrap i64 (s6 - 1))) (((UInt8.toNat (getD ([48,49,50,51,52,53,54,55,56,57,97,98,99,100,101,102,103,104,105,106,107,108,109,110,111,112,113,114,115,116,117,118,119,120,121,122]:List UInt8) (Int.toNat (bits Go.BinOp.and u64 s1 s9)) (0:UInt8))):Nat):Int)) r11
 else
 none
 else
 none
 else
 none
 else
 bif (Ya s1 (length ([48,49,50,51,52,53,54,55,56,57,97,98,99,100,101,102,103,104,105,106,107,108,109,110,111,112,113,114,115,116,117,118,119,120,121,122]:List UInt8))) then
 bif (Ya (wrap i64 (s6 - 1)) 65) then
 Zk7 s0 s1 s2 s3 s4 s5 (wrap i64 (s6 - 1)) (List.set b10 (Int.toNat (wrap i64 (s6 - 1))) (((UInt8.toNat (getD ([48,49,50,51,52,53,54,55,56,57,97,98,99,100,101,102,103,104,105,106,107,108,109,110,111,112,113,114,115,116,117,118,119,120,121,122]:List UInt8) (Int.toNat s1) (0:UInt8))):Nat):Int)) r11
 else
 none
 else
 none:=by unfold Zi7; rewrite [Y9]; kernel_rfl
theorem YTk (s0:(List Int)) (s1:Int) (s2:Int) (s3:Bool) (s4:Bool) (s5:List UInt8) (s6:Int) (b7:(List Int)) (r8:List Int):Zk7 s0 s1 s2 s3 s4 s5 s6 b7 r8=
 bif s3 then
 bif (Ya (wrap i64 (s6 - 1)) 65) then
 Zl7 s0 s1 s2 s3 s4 s5 (wrap i64 (s6 - 1)) (List.set b7 (Int.toNat (wrap i64 (s6 - 1))) (45:Int)) r8
 else
 none
 else
 Zl7 s0 s1 s2 s3 s4 s5 s6 b7 r8:=by unfold Zk7; rewrite [Y9]; kernel_rfl
theorem YYk (s0:(List Int)) (s1:Int) (s2:Int) (s3:Bool) (s4:Bool) (s5:List UInt8) (s6:Int) (b7:(List Int)) (r8:List Int):Zl7 s0 s1 s2 s3 s4 s5 s6 b7 r8=
 bif s4 then
 bif (Yi (some s6) none 65) then
 none
 else
 none
 else
 bif (Yi (some s6) none 65) then
 some (r8,(Ym (List.drop (Option.getD (Option.map (Int.toNat) (some s6)) 0) (List.take (Option.getD (Option.map (Int.toNat) none) 65) b7))))
 else
 none:=by unfold Zl7; rewrite [Y9]; kernel_rfl
theorem Y3n (x:Int):YEe x=
 Zm7 x:=by kernel_rfl
theorem Y3l (s0:Int):Zm7 s0=
 some ((bits Go.BinOp.and i64 s0 (wrap i64 (s0 - 1)))==0):=by unfold Zm7; rewrite [Y9]; kernel_rfl
end
end Go.Abs
namespace Go.Abs
end Go.Abs
namespace Go.Abs
end Go.Abs
namespace Go.Abs
noncomputable section
open IntKind List
def YKe (x:(D35×List UInt8)):Option Bool:=Abs.Call E 13 x
def Zn7 (s0:D35) (s1:List UInt8):Option Bool:=(Abs.Run E 13 (E.at 13 []) ⟨Y7 [(1,(.val .str s1)),(0,(.val T35 s0))],Ye [],Yf []⟩)
def Yc7 (x:D35):Option (List UInt8×Int):=Abs.Call E 60 x
def Zo7 (s0:D35):Option (List UInt8×Int):=(Abs.Run E 60 (E.at 60 []) ⟨Y7 [(0,(.val T35 s0))],Ye [],Yf []⟩)
def Zp7 (s0:D35) (s1:Int) (s2:Bool) (b3:D35):Option (List UInt8×Int):=(Abs.Run E 60 (E.at 60 [1,1,1,0,1,0,0,1,9]) ⟨Y7 [(0,(.val T35 s0)),(1,(.addr (.box 0) [])),(11,(.val (.int .i64) s1)),(12,(.val .bool s2))],Yc [.cells T35 .live (.val T35 b3)],Yd []⟩)
def Zq7 (s0:D35) (s1:Int) (s2:Bool) (b3:D35):Option (List UInt8×Int):=(Abs.Run E 60 (E.at 60 [1,1,1,0,1,0,1,9]) ⟨Y7 [(0,(.val T35 s0)),(1,(.addr (.box 0) [])),(11,(.val (.int .i64) s1)),(12,(.val .bool s2))],Yc [.cells T35 .live (.val T35 b3)],Yd []⟩)
def Ya7 (x:D35):Option Int:=Abs.Call E 61 x
def Zr7 (s0:D35):Option Int:=(Abs.Run E 61 (E.at 61 []) ⟨Y7 [(0,(.val T35 s0))],Ye [],Yf []⟩)
def Zs7 (s0:D35) (s1:Int) (s2:Bool) (b3:D35) (b4:D35):Option Int:=(Abs.Run E 61 (E.at 61 [1,1,0,1,0,0,1,9]) ⟨Y7 [(0,(.val T35 s0)),(1,(.addr (.box 0) [])),(3,(.addr (.box 1) [])),(12,(.val (.int .i64) s1)),(13,(.val .bool s2))],Yc [.cells T35 .live (.val T35 b3),.cells T35 .live (.val T35 b4)],Yd []⟩)
def Zt7 (s0:D35) (s1:Int) (s2:Bool) (b3:D35) (b4:D35):Option Int:=(Abs.Run E 61 (E.at 61 [1,1,0,1,0,1,9]) ⟨Y7 [(0,(.val T35 s0)),(1,(.addr (.box 0) [])),(3,(.addr (.box 1) [])),(12,(.val (.int .i64) s1)),(13,(.val .bool s2))],Yc [.cells T35 .live (.val T35 b3),.cells T35 .live (.val T35 b4)],Yd []⟩)
def Zu7 (s0:D35) (b1:D35) (b2:D35):Option Int:=(Abs.Run E 61 (E.at 61 [1,1,0,1,0,1,1,1,9]) ⟨Y7 [(0,(.val T35 s0)),(1,(.addr (.box 0) [])),(3,(.addr (.box 1) []))],Yc [.cells T35 .live (.val T35 b1),.cells T35 .live (.val T35 b2)],Yd []⟩)
def Zv7 (s0:D35) (b1:D35) (b2:D35):Option Int:=(Abs.Run E 61 (E.at 61 [1,1,0,1,0,1,1,1,1,1,9]) ⟨Y7 [(0,(.val T35 s0)),(1,(.addr (.box 0) [])),(3,(.addr (.box 1) []))],Yc [.cells T35 .live (.val T35 b1),.cells T35 .live (.val T35 b2)],Yd []⟩)
def Zw7 (s0:D35) (b1:D35) (b2:D35):Option Int:=(Abs.Run E 61 (E.at 61 [1,1,0,1,0,1,1,1,1,1,1,1,9]) ⟨Y7 [(0,(.val T35 s0)),(1,(.addr (.box 0) [])),(3,(.addr (.box 1) []))],Yc [.cells T35 .live (.val T35 b1),.cells T35 .live (.val T35 b2)],Yd []⟩)
def Zx7 (s0:D35) (b1:D35) (b2:D35):Option Int:=(Abs.Run E 61 (E.at 61 [1,1,0,1,0,1,9]) ⟨Y7 [(0,(.val T35 s0)),(1,(.addr (.box 0) [])),(3,(.addr (.box 1) [])),(12,.undef),(13,.undef)],Yc [.cells T35 .live (.val T35 b1),.cells T35 .live (.val T35 b2)],Yd []⟩)
def Yy9 (x:((List (List UInt8))×(List (List UInt8)))):Option Bool:=Abs.Call E 62 x
def Zy7 (s0:(List (List UInt8))) (s1:(List (List UInt8))):Option Bool:=(Abs.Run E 62 (E.at 62 []) ⟨Y7 [(1,(.val (.sl false .str) s1)),(0,(.val (.sl false .str) s0))],Ye [],Yf []⟩)
def Zz7 (s0:(List (List UInt8))) (s1:(List (List UInt8))) (s2:Int):Option Bool:=(Abs.Run E 62 (E.at 62 [1,1,0,1,0,7]) ⟨Y7 [(0,(.val (.sl false .str) s0)),(1,(.val (.sl false .str) s1)),(5,(.val (.int .i64) s2))],Yc [],Yd []⟩)
def YT9 (x:List UInt8):Option (List (List UInt8)):=Abs.Call E 64 x
def Z08 (s0:List UInt8):Option (List (List UInt8)):=(Abs.Run E 64 (E.at 64 []) ⟨Y7 [(0,(.val .str s0))],Ye [],Yf []⟩)
def YJ1 (x:Int):Option (List UInt8):=Abs.Call E 146 x
def Z18 (s0:Int):Option (List UInt8):=(Abs.Run E 146 (E.at 146 []) ⟨Y7 [(0,(.val (.int .u32) s0))],Ye [],Yf []⟩)
def YZ9 (x:(List Int)):Option (List UInt8):=Abs.Call E 147 x
def Z28 (s0:(List Int)):Option (List UInt8):=(Abs.Run E 147 (E.at 147 []) ⟨Y7 [(0,(.val (.arr 8 (.int .u16)) s0))],Ye [],Yf []⟩)
def Z38 (s0:(List Int)) (s1:Int) (s2:Int) (s3:Int) (b4:(List Int)):Option (List UInt8):=(Abs.Run E 147 (E.at 147 [1,1,0,1,0,7]) ⟨Y7 [(0,(.val (.arr 8 (.int .u16)) s0)),(1,(.addr (.box 0) [])),(3,(.val (.int .i64) s1)),(4,(.val (.int .i64) s2)),(5,(.val (.int .i64) s3))],Yc [.cells (.arr 8 (.int .u16)) .live (.val (.arr 8 (.int .u16)) b4)],Yd []⟩)
def Z48 (s0:(List Int)) (s1:Int) (s2:Int) (s3:Int) (s4:Int) (b5:(List Int)):Option (List UInt8):=(Abs.Run E 147 (E.at 147 [1,1,0,1,0,0,1,0,0,1,0,0,7]) ⟨Y7 [(0,(.val (.arr 8 (.int .u16)) s0)),(1,(.addr (.box 0) [])),(3,(.val (.int .i64) s1)),(4,(.val (.int .i64) s2)),(5,(.val (.int .i64) s3)),(6,(.val (.int .i64) s4))],Yc [.cells (.arr 8 (.int .u16)) .live (.val (.arr 8 (.int .u16)) b5)],Yd []⟩)
def Z58 (s0:(List Int)) (s1:Int) (s2:Int) (s3:List UInt8) (s4:Int) (b5:(List Int)):Option (List UInt8):=(Abs.Run E 147 (E.at 147 [1,1,1,1,0,1,0,7]) ⟨Y7 [(0,(.val (.arr 8 (.int .u16)) s0)),(1,(.addr (.box 0) [])),(3,(.val (.int .i64) s1)),(4,(.val (.int .i64) s2)),(7,(.val .str s3)),(8,(.val (.int .i64) s4))],Yc [.cells (.arr 8 (.int .u16)) .live (.val (.arr 8 (.int .u16)) b5)],Yd []⟩)
def Z68 (s0:(List Int)) (s1:Int) (s2:Int) (s3:List UInt8) (s4:Int) (b5:(List Int)):Option (List UInt8):=(Abs.Run E 147 (E.at 147 [1,1,1,1,0,1,0,0,1,0,0,1,0,1,9]) ⟨Y7 [(0,(.val (.arr 8 (.int .u16)) s0)),(1,(.addr (.box 0) [])),(3,(.val (.int .i64) s1)),(4,(.val (.int .i64) s2)),(7,(.val .str s3)),(8,(.val (.int .i64) s4))],Yc [.cells (.arr 8 (.int .u16)) .live (.val (.arr 8 (.int .u16)) b5)],Yd []⟩)
def Yo3 (x:Int):Option (List UInt8):=Abs.Call E 210 x
def Z78 (s0:Int):Option (List UInt8):=(Abs.Run E 210 (E.at 210 []) ⟨Y7 [(0,(.val (.int .u16) s0))],Ye [],Yf []⟩)
theorem Ycn (x:(D35×List UInt8)):YKe x=
 Zn7 x.1 x.2:=by kernel_rfl
theorem Y7l (s0:D35) (s1:List UInt8):Zn7 s0 s1=
 (Yx5 s0).bind fun y0=>
 (Yc7 s0).bind fun y1=>
 (YG6 s0).bind fun y2=>
 (YL6 y2).bind fun y3=>
 (Ya7 s0).bind fun y4=>
 bif (y3==y4) then
 bif (y0.1==y1.1) then
 (YL6 y0.2).bind fun y5=>
 bif (y5==y1.2) then
 (Yo9 s1).bind fun y6=>
 (YT9 s1).bind fun y7=>
 (Yy9 (y6,y7)).bind fun y8=>
 bif y8 then
 (Yu9 ()).bind fun y9=>
 some y9
 else
 some false
 else
 some false
 else
 some false
 else
 some false:=by unfold Zn7; rewrite [Y9]; kernel_rfl
theorem Ykf (x:D35):Yc7 x=
 Zo7 x:=by kernel_rfl
theorem Ypd (s0:D35):Zo7 s0=
 (Ya7 s0).bind fun y0=>
 bif (y0 !=0) then
 some (([]:List UInt8),y0)
 else
 bif (s0.1==1) then
 Zp7 s0 s0.1 (s0.1==1) s0
 else
 Zp7 s0 s0.1 (s0.1==4) s0:=by unfold Zo7; rewrite [Y9]; kernel_rfl
theorem Yu5 (s0:D35) (s1:Int) (s2:Bool) (b3:D35):Zp7 s0 s1 s2 b3=
 bif s2 then
 some (b3.2.1,(0:Int))
 else
 bif (s1==2) then
 (YJ1 (shr u32 b3.2.2.1 (24:Int))).bind fun y0=>
 bif (decide (((length y0)+(length ([46]:List UInt8)))<=(2 ^ 62))) then
 (YJ1 (bits Go.BinOp.and u32 (shr u32 b3.2.2.1 (16:Int)) (255:Int))).bind fun y1=>
 bif (decide (((length (y0++([46]:List UInt8)))+(length y1))<=(2 ^ 62))) then
 bif (decide (((length ((y0++([46]:List UInt8))++y1))+(length ([46]:List UInt8)))<=(2 ^ 62))) then
 (YJ1 (bits Go.BinOp.and u32 (shr u32 b3.2.2.1 (8:Int)) (255:Int))).bind fun y2=>
 bif (decide (((length (((y0++([46]:List UInt8))++y1)++([46]:List UInt8)))+(length y2))<=(2 ^ 62))) then
 bif (decide (((length ((((y0++([46]:List UInt8))++y1)++([46]:List UInt8))++y2))+(length ([46]:List UInt8)))<=(2 ^ 62))) then
 (YJ1 (bits Go.BinOp.and u32 b3.2.2.1 (255:Int))).bind fun y3=>
 bif (decide (((length (((((y0++([46]:List UInt8))++y1)++([46]:List UInt8))++y2)++([46]:List UInt8)))+(length y3))<=(2 ^ 62))) then
 some (((((((y0++([46]:List UInt8))++y1)++([46]:List UInt8))++y2)++([46]:List UInt8))++y3),(0:Int))
 else
 none
 else
 none
 else
 none
 else
 none
 else
 none
 else
 none
 else
 bif (s1==3) then
 (YZ9 b3.2.2.2).bind fun y0=>
 some (y0,(0:Int))
 else
 Zq7 s0 s1 s2 b3:=by unfold Zp7; rewrite [Y9]; kernel_rfl
theorem Yll (s0:D35) (s1:Int) (s2:Bool) (b3:D35):Zq7 s0 s1 s2 b3=
 some (([]:List UInt8),(0:Int)):=by unfold Zq7; rewrite [Y9]; kernel_rfl
theorem YCo (x:D35):Ya7 x=
 Zr7 x:=by kernel_rfl
theorem Ysl (s0:D35):Zr7 s0=
 bif (s0.1==0) then
 Zs7 s0 s0.1 (s0.1==0) s0 (s0.1,((Ty.zero .str),((Ty.zero (.int .u32)),(Ty.zero (.arr 8 (.int .u16))))))
 else
 Zs7 s0 s0.1 (s0.1==5) s0 (s0.1,((Ty.zero .str),((Ty.zero (.int .u32)),(Ty.zero (.arr 8 (.int .u16)))))):=by unfold Zr7; rewrite [Y9]; kernel_rfl
theorem Yyl (s0:D35) (s1:Int) (s2:Bool) (b3:D35) (b4:D35):Zs7 s0 s1 s2 b3 b4=
 bif s2 then
 Zt7 s0 s1 s2 b3 b4
 else
 bif (s1==1) then
 (Yb7 (b3.2.1,true)).bind fun y0=>
 bif (y0.2 !=0) then
 some (51:Int)
 else
 Zu7 s0 b3 y0.1
 else
 bif (s1==4) then
 (Yb7 (b3.2.1,false)).bind fun y0=>
 bif (y0.2 !=0) then
 some (51:Int)
 else
 Zv7 s0 b3 y0.1
 else
 bif (s1==2) then
 Zw7 s0 b3 (b4.1,(b4.2.1,(b3.2.2.1,b4.2.2.2)))
 else
 bif (s1==3) then
 Zw7 s0 b3 (b4.1,(b4.2.1,(b4.2.2.1,b3.2.2.2)))
 else
 some (51:Int):=by unfold Zs7; rewrite [Y9]; kernel_rfl
theorem YDl (s0:D35) (s1:Int) (s2:Bool) (b3:D35) (b4:D35):Zt7 s0 s1 s2 b3 b4=
 bif (!(Ty.beq T35 b4 b3)) then
 some (51:Int)
 else
 some (0:Int):=by unfold Zt7; rewrite [Y9]; kernel_rfl
theorem YFl (s0:D35) (b1:D35) (b2:D35):Zu7 s0 b1 b2=
 Zx7 s0 b1 b2:=by unfold Zu7; rewrite [Y9]; kernel_rfl
theorem YJl (s0:D35) (b1:D35) (b2:D35):Zv7 s0 b1 b2=
 Zu7 s0 b1 b2:=by unfold Zv7; rewrite [Y9]; kernel_rfl
theorem YPl (s0:D35) (b1:D35) (b2:D35):Zw7 s0 b1 b2=
 Zv7 s0 b1 b2:=by unfold Zw7; rewrite [Y9]; kernel_rfl
theorem YSl (s0:D35) (b1:D35) (b2:D35):Zx7 s0 b1 b2=
 bif (!(Ty.beq T35 b2 b1)) then
 some (51:Int)
 else
 some (0:Int):=by unfold Zx7; rewrite [Y9]; kernel_rfl
theorem Yvn (x:((List (List UInt8))×(List (List UInt8)))):Yy9 x=
 Zy7 x.1 x.2:=by kernel_rfl
theorem YWl (s0:(List (List UInt8))) (s1:(List (List UInt8))):Zy7 s0 s1=
 bif ((((length s0):Nat):Int) !=(((length s1):Nat):Int)) then
 some false
 else
 Zz7 s0 s1 (0:Int):=by unfold Zy7; rewrite [Y9]; kernel_rfl
theorem YVd (s0:(List (List UInt8))) (s1:(List (List UInt8))) (s2:Int):Zz7 s0 s1 s2=
 bif (decide (s2 < (((length s0):Nat):Int))) then
 bif (Ya s2 (length s0)) then
 bif (Ya s2 (length s1)) then
 bif (!((getD s0 (Int.toNat s2) (Ty.zero .str))==(getD s1 (Int.toNat s2) (Ty.zero .str)))) then
 some false
 else
 Zz7 s0 s1 (wrap i64 (s2+1))
 else
 none
 else
 none
 else
 some true:=by unfold Zz7; rewrite [Y9]; kernel_rfl
theorem YJo (x:List UInt8):YT9 x=
 Z08 x:=by kernel_rfl
theorem Ygj (s0:List UInt8):Z08 s0=
 bif (s0==([]:List UInt8)) then
 some ([]:List (List UInt8))
 else
 (Y44 (s0,(46:Int))).bind fun y0=>
 bif (Ya (wrap i64 ((((length y0):Nat):Int) - 1)) (length y0)) then
 bif ((getD y0 (Int.toNat (wrap i64 ((((length y0):Nat):Int) - 1))) (Ty.zero .str))==([]:List UInt8)) then
 bif (Yi none (some (wrap i64 ((((length y0):Nat):Int) - 1))) (length y0)) then
 some (List.take (Option.getD (Option.map (Int.toNat) (some (wrap i64 ((((length y0):Nat):Int) - 1)))) (length y0)) y0)
 else
 none
 else
 some y0
 else
 none:=by unfold Z08; rewrite [Y9]; kernel_rfl
theorem Ylf (x:Int):YJ1 x=
 Z18 x:=by kernel_rfl
theorem Ysc (s0:Int):Z18 s0=
 bif (decide (s0 < 10)) then
 some (Ym ([(wrap u8 (wrap u32 ((48:Int)+s0)))]:List Int))
 else
 (YJ1 (wrap u32 (Int.tdiv s0 (10:Int)))).bind fun y0=>
 bif (decide (((length y0)+(length (Ym ([(wrap u8 (wrap u32 ((48:Int)+(Int.tmod s0 (10:Int)))))]:List Int))))<=(2 ^ 62))) then
 some (y0++(Ym ([(wrap u8 (wrap u32 ((48:Int)+(Int.tmod s0 (10:Int)))))]:List Int)))
 else
 none:=by unfold Z18; rewrite [Y9]; kernel_rfl
theorem YXo (x:(List Int)):YZ9 x=
 Z28 x:=by kernel_rfl
theorem Ytj (s0:(List Int)):Z28 s0=
 Z38 s0 (-(1:Int)) (1:Int) (0:Int) s0:=by unfold Z28; rewrite [Y9]; kernel_rfl
theorem Ywc (s0:(List Int)) (s1:Int) (s2:Int) (s3:Int) (b4:(List Int)):Z38 s0 s1 s2 s3 b4=
 bif (decide (s3 < 8)) then
 Z48 s0 s1 s2 s3 (0:Int) b4
 else
 Z58 s0 s1 s2 ([]:List UInt8) (0:Int) b4:=by unfold Z38; rewrite [Y9]; kernel_rfl
theorem Yxc (s0:(List Int)) (s1:Int) (s2:Int) (s3:Int) (s4:Int) (b5:(List Int)):Z48 s0 s1 s2 s3 s4 b5=
 bif (decide ((wrap i64 (s3+s4)) < 8)) then
 bif (Ya (wrap i64 (s3+s4)) 8) then
 bif ((getD b5 (Int.toNat (wrap i64 (s3+s4))) (Ty.zero (.int .u16)))==0) then
 Z48 s0 s1 s2 s3 (wrap i64 (s4+1)) b5
 else
 bif (decide (s4 > s2)) then
 Z38 s0 s3 s4 (wrap i64 (s3+1)) b5
 else
 Z38 s0 s1 s2 (wrap i64 (s3+1)) b5
 else
 none
 else
 bif (decide (s4 > s2)) then
 Z38 s0 s3 s4 (wrap i64 (s3+1)) b5
 else
 Z38 s0 s1 s2 (wrap i64 (s3+1)) b5:=by unfold Z48; rewrite [Y9]; kernel_rfl
theorem YZ8 (s0:(List Int)) (s1:Int) (s2:Int) (s3:List UInt8) (s4:Int) (b5:(List Int)):Z58 s0 s1 s2 s3 s4 b5=
 bif (decide (s4 < 8)) then
 bif (s4==s1) then
 bif (decide (((length s3)+(length ([58,58]:List UInt8)))<=(2 ^ 62))) then
 Z58 s0 s1 s2 (s3++([58,58]:List UInt8)) (wrap i64 ((wrap i64 ((wrap i64 (s4+s2)) - 1))+1)) b5
 else
 none
 else
 bif (decide ((((length s3):Nat):Int) > 0)) then
 bif (Ya (wrap i64 ((((length s3):Nat):Int) - 1)) (length s3)) then
 bif ((((UInt8.toNat (getD s3 (Int.toNat (wrap i64 ((((length s3):Nat):Int) - 1))) (0:UInt8))):Nat):Int) !=58) then
 bif (decide (((length s3)+(length ([58]:List UInt8)))<=(2 ^ 62))) then
 Z68 s0 s1 s2 (s3++([58]:List UInt8)) s4 b5
 else
 none
 else
 Z68 s0 s1 s2 s3 s4 b5
 else
 none
 else
 Z68 s0 s1 s2 s3 s4 b5
 else
 bif (decide (((length ([91]:List UInt8))+(length s3))<=(2 ^ 62))) then
 bif (decide (((length (([91]:List UInt8)++s3))+(length ([93]:List UInt8)))<=(2 ^ 62))) then
 some ((([91]:List UInt8)++s3)++([93]:List UInt8))
 else
 none
 else
 none:=by unfold Z58; rewrite [Y9]; kernel_rfl
theorem YPj (s0:(List Int)) (s1:Int) (s2:Int) (s3:List UInt8) (s4:Int) (b5:(List Int)):Z68 s0 s1 s2 s3 s4 b5=
 bif (Ya s4 8) then
 (Yo3 (getD b5 (Int.toNat s4) (Ty.zero (.int .u16)))).bind fun y0=>
 bif (decide (((length s3)+(length y0))<=(2 ^ 62))) then
 Z58 s0 s1 s2 (s3++y0) (wrap i64 (s4+1)) b5
 else
 none
 else
 none:=by unfold Z68; rewrite [Y9]; kernel_rfl
theorem Ynf (x:Int):Yo3 x=
 Z78 x:=by kernel_rfl
theorem YGc (s0:Int):Z78 s0=
 bif (decide (s0 < 16)) then
 bif (Yi (some s0) (some (wrap u16 (s0+1))) (length ([48,49,50,51,52,53,54,55,56,57,97,98,99,100,101,102]:List UInt8))) then
 some (Yl (some s0) (some (wrap u16 (s0+1))) ([48,49,50,51,52,53,54,55,56,57,97,98,99,100,101,102]:List UInt8))
 else
 none
 else
 bif (Yi (some (Int.tmod s0 (16:Int))) (some (wrap u16 ((Int.tmod s0 (16:Int))+1))) (length ([48,49,50,51,52,53,54,55,56,57,97,98,99,100,101,102]:List UInt8))) then
 (Yo3 (wrap u16 (Int.tdiv s0 (16:Int)))).bind fun y0=>
 bif (decide (((length y0)+(length (Yl (some (Int.tmod s0 (16:Int))) (some (wrap u16 ((Int.tmod s0 (16:Int))+1))) ([48,49,50,51,52,53,54,55,56,57,97,98,99,100,101,102]:List UInt8))))<=(2 ^ 62))) then
 some (y0++(Yl (some (Int.tmod s0 (16:Int))) (some (wrap u16 ((Int.tmod s0 (16:Int))+1))) ([48,49,50,51,52,53,54,55,56,57,97,98,99,100,101,102]:List UInt8)))
 else
 none
 else
 none:=by unfold Z78; rewrite [Y9]; kernel_rfl
end
end Go.Abs
