/- Part Q3 of the proof: see the last text of the claim. No condition of its own. -/
import Derived.Test.YtddagflhafkbnaaGreatDoorQ1
import Derived.Test.YtddagflhafkbnaaGreatDoorQ2
set_option linter.all false
namespace Go.Abs
noncomputable section
open IntKind List
set_option autoImplicit false
set_option linter.all false
def YG8 (x:(List UInt8×Bool)):Option (D35×Int):=Abs.Call E 48 x
def Za4 (s0:List UInt8) (s1:Bool):Option (D35×Int):=(Abs.Run E 48 (E.at 48 []) ⟨Y8 [(1,(.val .bool s1)),(0,(.val .str s0))],Yd [],Ye []⟩)
def Zb4 (s0:List UInt8) (s1:Bool) (s2:List UInt8) (s3:Int) (s4:Int) (b5:D35):Option (D35×Int):=(Abs.Run E 48 (E.at 48 [1,1,1,1,1,0,1,0,7]) ⟨Y8 [(0,(.val .str s0)),(1,(.val .bool s1)),(4,(.addr (.box 0) [])),(10,(.val .str s2)),(95,(.val (.int .i64) s3)),(96,(.val (.int .i64) s4))],Yf [.cells T35 .live (.val T35 b5)],Yg []⟩)
def Y53 (x:List UInt8):Option (List UInt8×Int):=Abs.Call E 56 x
def Zc4 (s0:List UInt8):Option (List UInt8×Int):=(Abs.Run E 56 (E.at 56 []) ⟨Y8 [(0,(.val .str s0))],Yd [],Ye []⟩)
def Zd4 (s0:List UInt8) (s1:Int) (t2:List UInt8) (n3:Nat) (r4:List (List UInt8)):Option (List UInt8×Int):=(Abs.Run E 56 (E.at 56 [1,1,1,1,1,1,0,1,0,7]) ⟨Y8 [(0,(.val .str s0)),(6,(.row 0)),(7,(.val (.int .i64) s1)),(27,(.addr (.box 0) []))],Yf [.iter t2 n3],Yg [.mk .str .live r4]⟩)
def Ze4 (s0:List UInt8) (s1:Int) (s2:Int) (r3:List (List UInt8)):Option (List UInt8×Int):=(Abs.Run E 56 (E.at 56 [1,1,1,1,1,1,1,1,0,1,0,7]) ⟨Y8 [(0,(.val .str s0)),(6,(.row 0)),(53,(.val (.int .i64) s1)),(54,(.val (.int .i64) s2))],Yf [],Yg [.mk .str .live r3]⟩)
def YH8 (x:List UInt8):Option (List UInt8):=Abs.Call E 58 x
def Zf4 (s0:List UInt8):Option (List UInt8):=(Abs.Run E 58 (E.at 58 []) ⟨Y8 [(0,(.val .str s0))],Yd [],Ye []⟩)
def Zg4 (s0:List UInt8) (s1:Int) (s2:Int) (r3:List (List UInt8)):Option (List UInt8):=(Abs.Run E 58 (E.at 58 [1,1,0,1,0,7]) ⟨Y8 [(0,(.val .str s0)),(3,(.row 0)),(10,(.row 0)),(11,(.val (.int .i64) s1)),(12,(.val (.int .i64) s2))],Yf [],Yg [.mk .str .live r3]⟩)
def YL3 (x:(List UInt8×List UInt8)):Option Bool:=Abs.Call E 123 x
def Zh4 (s0:List UInt8) (s1:List UInt8):Option Bool:=(Abs.Run E 123 (E.at 123 []) ⟨Y8 [(1,(.val .str s1)),(0,(.val .str s0))],Yd [],Ye []⟩)
def YI3 (x:(Int×List UInt8)):Option (List UInt8×Int):=Abs.Call E 124 x
def Zi4 (s0:Int) (s1:List UInt8):Option (List UInt8×Int):=(Abs.Run E 124 (E.at 124 []) ⟨Y8 [(1,(.val .str s1)),(0,(.val (.int .i64) s0))],Yd [],Ye []⟩)
def YH3 (x:List UInt8):Option (List UInt8):=Abs.Call E 125 x
def Zj4 (s0:List UInt8):Option (List UInt8):=(Abs.Run E 125 (E.at 125 []) ⟨Y8 [(0,(.val .str s0))],Yd [],Ye []⟩)
def YL6 (x:List UInt8):Option (Bool×Int):=Abs.Call E 134 x
def Zk4 (s0:List UInt8):Option (Bool×Int):=(Abs.Run E 134 (E.at 134 []) ⟨Y8 [(0,(.val .str s0))],Yd [],Ye []⟩)
def Zl4 (s0:List UInt8) (t1:List UInt8) (n2:Nat):Option (Bool×Int):=(Abs.Run E 134 (E.at 134 [1,0,1,0,7]) ⟨Y8 [(0,(.val .str s0)),(6,(.addr (.box 0) []))],Yf [.iter t1 n2],Yg []⟩)
def Yb6 (x:Int):Option Bool:=Abs.Call E 135 x
def Zm4 (s0:Int):Option Bool:=(Abs.Run E 135 (E.at 135 []) ⟨Y8 [(0,(.val (.int .i32) s0))],Yd [],Ye []⟩)
def Y85 (x:(List UInt8×Bool)):Option (List UInt8×Int):=Abs.Call E 136 x
def Zn4 (s0:List UInt8) (s1:Bool):Option (List UInt8×Int):=(Abs.Run E 136 (E.at 136 []) ⟨Y8 [(1,(.val .bool s1)),(0,(.val .str s0))],Yd [],Ye []⟩)
def Zo4 (s0:List UInt8) (s1:Bool) (s2:Bool):Option (List UInt8×Int):=(Abs.Run E 136 (E.at 136 [1,1,1,0,1,9]) ⟨Y8 [(0,(.val .str s0)),(1,(.val .bool s1)),(6,(.val .bool s2))],Yf [],Yg []⟩)
def Yi9 (x:((List (List UInt8))×List UInt8)):Option (List UInt8):=Abs.Call E 137 x
def Yk9 (x:(List UInt8×List UInt8)):Option (List UInt8):=Abs.Call E 138 x
def Zp4 (s0:List UInt8) (s1:List UInt8):Option (List UInt8):=(Abs.Run E 138 (E.at 138 []) ⟨Y8 [(1,(.val .str s1)),(0,(.val .str s0))],Yd [],Ye []⟩)
def Yg4 (x:List UInt8):Option (List UInt8×Int):=Abs.Call E 143 x
def Zq4 (s0:List UInt8):Option (List UInt8×Int):=(Abs.Run E 143 (E.at 143 []) ⟨Y8 [(0,(.val .str s0))],Yd [],Ye []⟩)
def Yh9 (x:(List UInt8×List UInt8)):Option Int:=Abs.Call E 177 x
def Zr4 (s0:List UInt8) (s1:List UInt8):Option Int:=(Abs.Run E 177 (E.at 177 []) ⟨Y8 [(1,(.val .str s1)),(0,(.val .str s0))],Yd [],Ye []⟩)
def Zs4 (s0:List UInt8) (s1:List UInt8) (s2:Int):Option Int:=(Abs.Run E 177 (E.at 177 [1,1,0,1,0,1,0,1,9]) ⟨Y8 [(0,(.val .str s0)),(1,(.val .str s1)),(5,(.val (.int .i32) s2))],Yf [],Yg []⟩)
def Zt4 (s0:List UInt8) (s1:List UInt8) (s2:Int) (b3:(List Bool)):Option Int:=(Abs.Run E 177 (E.at 177 [1,1,1,0,1,0,1,1,0,0,1,0,7]) ⟨Y8 [(0,(.val .str s0)),(1,(.val .str s1)),(6,(.addr (.box 0) [])),(8,(.val (.int .i64) s2))],Yf [.cells (.arr 256 .bool) .live (.val (.arr 256 .bool) b3)],Yg []⟩)
def Zu4 (s0:List UInt8) (s1:List UInt8):Option Int:=(Abs.Run E 177 (E.at 177 [1,1,1,0,1,9]) ⟨Y8 [(0,(.val .str s0)),(1,(.val .str s1))],Yf [],Yg []⟩)
def Zv4 (s0:List UInt8) (s1:List UInt8) (t2:List UInt8) (n3:Nat):Option Int:=(Abs.Run E 177 (E.at 177 [1,1,1,1,0,1,0,7]) ⟨Y8 [(0,(.val .str s0)),(1,(.val .str s1)),(45,(.addr (.box 0) []))],Yf [.iter t2 n3],Yg []⟩)
def YBd (x:(Int×(List Int))):Option (List UInt8×Int):=Abs.Call E 178 x
def Zw4 (s0:Int) (s1:(List Int)):Option (List UInt8×Int):=(Abs.Run E 178 (E.at 178 []) ⟨Y8 [(1,(.val (.sl false (.int .u8)) s1)),(0,(.val (.int .i64) s0))],Yd [],Ye []⟩)
def Zx4 (s0:Int) (s1:(List Int)) (s2:(List Int)) (s3:Int) (s4:Int) (b5:(List Bool)) (r6:List Int):Option (List UInt8×Int):=(Abs.Run E 178 (E.at 178 [1,1,1,1,0,1,0,7]) ⟨Y8 [(0,(.val (.int .i64) s0)),(1,(.val (.sl false (.int .u8)) s1)),(6,(.addr (.box 0) [])),(7,(.row 0)),(16,(.val (.sl false (.int .u8)) s2)),(17,(.val (.int .i64) s3)),(18,(.val (.int .i64) s4))],Yf [.cells (.arr 256 .bool) .live (.val (.arr 256 .bool) b5)],Yg [.mk (.int .u8) .live r6]⟩)
def YM6 (x:List UInt8):Option (List UInt8):=Abs.Call E 179 x
def Zy4 (s0:List UInt8):Option (List UInt8):=(Abs.Run E 179 (E.at 179 []) ⟨Y8 [(0,(.val .str s0))],Yd [],Ye []⟩)
def YAd (x:List UInt8):Option (List Int):=Abs.Call E 180 x
def Zz4 (s0:List UInt8):Option (List Int):=(Abs.Run E 180 (E.at 180 []) ⟨Y8 [(0,(.val .str s0))],Yd [],Ye []⟩)
def Z05 (s0:List UInt8) (s1:Int) (r2:List Int):Option (List Int):=(Abs.Run E 180 (E.at 180 [1,1,0,1,0,7]) ⟨Y8 [(0,(.val .str s0)),(3,(.row 0)),(4,(.val (.int .i64) s1))],Yf [],Yg [.mk (.int .u8) .live r2]⟩)
def YN6 (x:(List UInt8×Int)):Option D181:=Abs.Call E 190 x
def Z15 (s0:List UInt8) (s1:Int):Option D181:=(Abs.Run E 190 (E.at 190 []) ⟨Y8 [(1,(.val (.int .i64) s1)),(0,(.val .str s0))],Yd [],Ye []⟩)
def Yd4 (x:(List UInt8×Int)):Option Bool:=Abs.Call E 191 x
def Z25 (s0:List UInt8) (s1:Int):Option Bool:=(Abs.Run E 191 (E.at 191 []) ⟨Y8 [(1,(.val (.int .i32) s1)),(0,(.val .str s0))],Yd [],Ye []⟩)
def Z35 (s0:List UInt8) (s1:Int) (t2:List UInt8) (n3:Nat):Option Bool:=(Abs.Run E 191 (E.at 191 [1,0,1,0,7]) ⟨Y8 [(0,(.val .str s0)),(1,(.val (.int .i32) s1)),(8,(.addr (.box 0) []))],Yf [.iter t2 n3],Yg []⟩)
def YI8 (x:List UInt8):Option Bool:=Abs.Call E 192 x
def Z45 (s0:List UInt8):Option Bool:=(Abs.Run E 192 (E.at 192 []) ⟨Y8 [(0,(.val .str s0))],Yd [],Ye []⟩)
def Yh6 (x:List UInt8):Option (List UInt8×Int):=Abs.Call E 193 x
def Z55 (s0:List UInt8):Option (List UInt8×Int):=(Abs.Run E 193 (E.at 193 []) ⟨Y8 [(0,(.val .str s0))],Yd [],Ye []⟩)
def Yfe (x:(List UInt8×Unit)):Option Int:=Abs.Call E 194 x
def Z65 (s0:List UInt8) (s1:Unit):Option Int:=(Abs.Run E 194 (E.at 194 []) ⟨Y8 [(1,(.cl 239 0 (.val .unit s1))),(0,(.val .str s0))],Yd [],Ye []⟩)
def Yge (x:(List UInt8×Unit)):Option Int:=Abs.Call E 1194 x
def Z75 (s0:List UInt8) (s1:Unit):Option Int:=(Abs.Run E 1194 (E.at 1194 []) ⟨Y8 [(1,(.cl 248 0 (.val .unit s1))),(0,(.val .str s0))],Yd [],Ye []⟩)
def Yj5 (x:(List UInt8×Unit)):Option Int:=Abs.Call E 2194 x
def Z85 (s0:List UInt8) (s1:Unit):Option Int:=(Abs.Run E 2194 (E.at 2194 []) ⟨Y8 [(1,(.cl 135 0 (.val .unit s1))),(0,(.val .str s0))],Yd [],Ye []⟩)
def Ywd (x:(List UInt8×List UInt8)):Option (List UInt8):=Abs.Call E 198 x
def Z95 (s0:List UInt8) (s1:List UInt8):Option (List UInt8):=(Abs.Run E 198 (E.at 198 []) ⟨Y8 [(1,(.val .str s1)),(0,(.val .str s0))],Yd [],Ye []⟩)
def YP8 (x:List UInt8):Option (List UInt8×(Int×Int)):=Abs.Call E 204 x
def Za5 (s0:List UInt8):Option (List UInt8×(Int×Int)):=(Abs.Run E 204 (E.at 204 []) ⟨Y8 [(0,(.val .str s0))],Yd [],Ye []⟩)
def Yi6 (x:List UInt8):Option Bool:=Abs.Call E 205 x
def Zb5 (s0:List UInt8):Option Bool:=(Abs.Run E 205 (E.at 205 []) ⟨Y8 [(0,(.val .str s0))],Yd [],Ye []⟩)
def YM8 (x:(List UInt8×List UInt8)):Option Bool:=Abs.Call E 206 x
def Zc5 (s0:List UInt8) (s1:List UInt8):Option Bool:=(Abs.Run E 206 (E.at 206 []) ⟨Y8 [(1,(.val .str s1)),(0,(.val .str s0))],Yd [],Ye []⟩)
def YI6 (x:(List UInt8×Int)):Option Int:=Abs.Call E 216 x
def Zd5 (s0:List UInt8) (s1:Int):Option Int:=(Abs.Run E 216 (E.at 216 []) ⟨Y8 [(1,(.val (.int .i32) s1)),(0,(.val .str s0))],Yd [],Ye []⟩)
def Ze5 (s0:List UInt8) (s1:Int) (t2:List UInt8) (n3:Nat):Option Int:=(Abs.Run E 216 (E.at 216 [1,0,1,1,1,0,0,1,0,7]) ⟨Y8 [(0,(.val .str s0)),(1,(.val (.int .i32) s1)),(175,(.addr (.box 0) []))],Yf [.iter t2 n3],Yg []⟩)
def Zf5 (s0:List UInt8) (s1:Int) (s2:List UInt8) (s3:Int) (s4:Int):Option Int:=(Abs.Run E 216 (E.at 216 [1,0,1,1,1,1,1,1,0,1,1,1,1,0,0,7]) ⟨Y8 [(0,(.val .str s0)),(1,(.val (.int .i32) s1)),(7,(.val .str s2)),(8,(.val (.int .i64) s3)),(9,(.val (.int .i64) s4))],Yf [],Yg []⟩)
def Zg5 (s0:List UInt8) (s1:Int) (s2:List UInt8) (s3:Int) (s4:Int):Option Int:=(Abs.Run E 216 (E.at 216 [1,0,1,1,1,1,1,1,0,1,1,1,1,0,0,0,1,0,0,0,1,9]) ⟨Y8 [(0,(.val .str s0)),(1,(.val (.int .i32) s1)),(7,(.val .str s2)),(8,(.val (.int .i64) s3)),(9,(.val (.int .i64) s4))],Yf [],Yg []⟩)
def Yoe (x:Int):Option Bool:=Abs.Call E 217 x
def Zh5 (s0:Int):Option Bool:=(Abs.Run E 217 (E.at 217 []) ⟨Y8 [(0,(.val (.int .i64) s0))],Yd [],Ye []⟩)
def Yne (x:List UInt8):Option ((List Bool)×Bool):=Abs.Call E 218 x
def Yje (x:((List Bool)×Int)):Option (Bool×(List Bool)):=Abs.Call E 219 x
def Zi5 (s0:Int) (b1:(List Bool)):Option (Bool×(List Bool)):=(Abs.Run E 219 (E.at 219 []) ⟨Y8 [(1,(.val (.int .u8) s0)),(0,(.addr (.box 1073741824) []))],Yd [(1073741824,.cells (.arr 256 .bool) .live (.val (.arr 256 .bool) b1))],Ye []⟩)
def YDd (x:Int):Option Bool:=Abs.Call E 220 x
def Zj5 (s0:Int):Option Bool:=(Abs.Run E 220 (E.at 220 []) ⟨Y8 [(0,(.val (.int .i64) s0))],Yd [],Ye []⟩)
def YCd (x:Unit):Option (List (List Bool)):=Abs.Call E 221 x
def YN8 (x:((List Int)×Int)):Option (List Int):=Abs.Call E 222 x
def Zk5 (s0:Int) (r1:List Int):Option (List Int):=(Abs.Run E 222 (E.at 222 []) ⟨Y8 [(1,(.val (.int .u8) s0)),(0,(.row 1073741824))],Yd [],Ye [(1073741824,.mk (.int .u8) .live r1)]⟩)
def Yn9 (x:(List D181)):Option (List UInt8):=Abs.Call E 223 x
def Zl5 (s0:(List D181)):Option (List UInt8):=(Abs.Run E 223 (E.at 223 []) ⟨Y8 [(0,(.val (.sl false T181) s0))],Yd [],Ye []⟩)
def Zm5 (s0:(List D181)) (s1:(List D181)) (s2:Int) (s3:Int):Option (List UInt8):=(Abs.Run E 223 (E.at 223 [1,1,0,1,0,7]) ⟨Y8 [(0,(.val (.sl false T181) s0)),(3,.nils),(6,(.val (.sl false T181) s1)),(7,(.val (.int .i64) s2)),(8,(.val (.int .i64) s3))],Yf [],Yg []⟩)
def Zn5 (s0:(List D181)) (s1:(List D181)) (s2:Int) (s3:Int) (r4:List Int):Option (List UInt8):=(Abs.Run E 223 (E.at 223 [1,1,0,1,0,7]) ⟨Y8 [(0,(.val (.sl false T181) s0)),(3,(.row 0)),(6,(.val (.sl false T181) s1)),(7,(.val (.int .i64) s2)),(8,(.val (.int .i64) s3))],Yf [],Yg [.mk (.int .u8) .live r4]⟩)
def Yl9 (x:List UInt8):Option (List D181):=Abs.Call E 224 x
def Zo5 (s0:List UInt8):Option (List D181):=(Abs.Run E 224 (E.at 224 []) ⟨Y8 [(0,(.val .str s0))],Yd [],Ye []⟩)
def Zp5 (s0:List UInt8) (s1:Int) (r2:List D181):Option (List D181):=(Abs.Run E 224 (E.at 224 [1,1,0,1,0,7]) ⟨Y8 [(0,(.val .str s0)),(3,(.row 0)),(4,(.val (.int .i64) s1))],Yf [],Yg [.mk T181 .live r2]⟩)
def Zq5 (s0:List UInt8) (s1:Int) (b2:D181) (r3:List D181):Option (List D181):=(Abs.Run E 224 (E.at 224 [1,1,0,1,0,0,1,0,1,0,1,9]) ⟨Y8 [(0,(.val .str s0)),(3,(.row 0)),(4,(.val (.int .i64) s1)),(5,(.addr (.box 0) []))],Yf [.cells T181 .live (.val T181 b2)],Yg [.mk T181 .live r3]⟩)
def YO8 (x:(List UInt8×Int)):Option Int:=Abs.Call E 225 x
def Zr5 (s0:List UInt8) (s1:Int):Option Int:=(Abs.Run E 225 (E.at 225 []) ⟨Y8 [(1,(.val (.int .i64) s1)),(0,(.val .str s0))],Yd [],Ye []⟩)
def Yqe (x:List UInt8):Option (Int×Int):=Abs.Call E 238 x
def Yld (x:Int):Option Bool:=Abs.Call E 239 x
def Zs5 (s0:Int):Option Bool:=(Abs.Run E 239 (E.at 239 []) ⟨Y8 [(0,(.val (.int .i32) s0))],Yd [],Ye []⟩)
def YQ8 (x:List UInt8):Option (List UInt8×Int):=Abs.Call E 240 x
def Zt5 (s0:List UInt8):Option (List UInt8×Int):=(Abs.Run E 240 (E.at 240 []) ⟨Y8 [(0,(.val .str s0))],Yd [],Ye []⟩)
def Zu5 (s0:List UInt8) (s1:Int) (s2:Int) (r3:List Int) (r4:List Int):Option (List UInt8×Int):=(Abs.Run E 240 (E.at 240 [1,1,1,1,1,0,1,0,7]) ⟨Y8 [(0,(.val .str s0)),(6,(.row 0)),(7,(.row 1)),(35,(.row 0)),(36,(.val (.int .i64) s1)),(37,(.val (.int .i64) s2))],Yf [],Yg [.mk (.int .i32) .live r3,.mk (.int .u8) .live r4]⟩)
def Zv5 (s0:List UInt8) (s1:Int) (s2:Int) (r3:List Int) (r4:List Int):Option (List UInt8×Int):=(Abs.Run E 240 (E.at 240 [1,1,1,1,1,1,1,1,0,1,9]) ⟨Y8 [(0,(.val .str s0)),(6,(.row 0)),(7,(.row 1)),(10,(.val (.int .i64) s1)),(11,(.val (.int .i64) s2))],Yf [],Yg [.mk (.int .i32) .live r3,.mk (.int .u8) .live r4]⟩)
def Zw5 (s0:List UInt8) (s1:Int) (s2:Int) (s3:Int) (s4:Int) (s5:Int) (r6:List Int) (r7:List Int):Option (List UInt8×Int):=(Abs.Run E 240 (E.at 240 [1,1,1,1,1,1,1,1,1,1,0,0,7]) ⟨Y8 [(0,(.val .str s0)),(6,(.row 0)),(7,(.row 1)),(10,(.val (.int .i64) s1)),(11,(.val (.int .i64) s2)),(12,(.val (.int .i32) s3)),(13,(.val (.int .i64) s4)),(14,(.val (.int .i64) s5))],Yf [],Yg [.mk (.int .i32) .live r6,.mk (.int .u8) .live r7]⟩)
def Zx5 (s0:List UInt8) (s1:Int) (s2:Int) (s3:Int) (s4:Int) (s5:Int) (s6:Int) (s7:Int) (s8:Int) (r9:List Int) (r10:List Int):Option (List UInt8×Int):=(Abs.Run E 240 (E.at 240 [1,1,1,1,1,1,1,1,1,1,0,0,0,1,0,1,0,1,0,7]) ⟨Y8 [(0,(.val .str s0)),(6,(.row 0)),(7,(.row 1)),(10,(.val (.int .i64) s1)),(11,(.val (.int .i64) s2)),(12,(.val (.int .i32) s3)),(13,(.val (.int .i64) s4)),(14,(.val (.int .i64) s5)),(15,(.val (.int .i32) s6)),(61,(.row 0)),(62,(.val (.int .i64) s7)),(63,(.val (.int .i64) s8))],Yf [],Yg [.mk (.int .i32) .live r9,.mk (.int .u8) .live r10]⟩)
def Zy5 (s0:List UInt8) (s1:Int) (s2:Int) (s3:Int) (s4:Int) (s5:Int) (s6:Int) (s7:Int) (r8:List Int) (r9:List Int):Option (List UInt8×Int):=(Abs.Run E 240 (E.at 240 [1,1,1,1,1,1,1,1,1,1,0,0,0,1,0,1,1,1,1,0,1,0,7]) ⟨Y8 [(0,(.val .str s0)),(6,(.row 0)),(7,(.row 1)),(10,(.val (.int .i64) s1)),(11,(.val (.int .i64) s2)),(12,(.val (.int .i32) s3)),(13,(.val (.int .i64) s4)),(14,(.val (.int .i64) s5)),(87,(.row 0)),(88,(.val (.int .i64) s6)),(89,(.val (.int .i64) s7))],Yf [],Yg [.mk (.int .i32) .live r8,.mk (.int .u8) .live r9]⟩)
def Zz5 (s0:List UInt8) (s1:Int) (s2:Int) (s3:Int) (s4:Int) (s5:Int) (s6:Int) (s7:Int) (s8:Int) (r9:List Int) (r10:List Int):Option (List UInt8×Int):=(Abs.Run E 240 (E.at 240 [1,1,1,1,1,1,1,1,1,1,0,0,0,1,0,1,1,1,1,0,1,0,0,1,1,0,0,1,0,1,9]) ⟨Y8 [(0,(.val .str s0)),(6,(.row 0)),(7,(.row 1)),(10,(.val (.int .i64) s1)),(11,(.val (.int .i64) s2)),(12,(.val (.int .i32) s3)),(13,(.val (.int .i64) s4)),(14,(.val (.int .i64) s5)),(19,(.val (.int .i32) s6)),(87,(.row 0)),(88,(.val (.int .i64) s7)),(89,(.val (.int .i64) s8))],Yf [],Yg [.mk (.int .i32) .live r9,.mk (.int .u8) .live r10]⟩)
def Yke (x:(List UInt8×(Unit×Bool))):Option Int:=Abs.Call E 241 x
def Z06 (s0:List UInt8) (s1:Unit) (s2:Bool):Option Int:=(Abs.Run E 241 (E.at 241 []) ⟨Y8 [(2,(.val .bool s2)),(1,(.cl 239 0 (.val .unit s1))),(0,(.val .str s0))],Yd [],Ye []⟩)
def Z16 (s0:List UInt8) (s1:Unit) (s2:Bool) (t3:List UInt8) (n4:Nat):Option Int:=(Abs.Run E 241 (E.at 241 [1,0,1,0,7]) ⟨Y8 [(0,(.val .str s0)),(1,(.cl 239 0 (.val .unit s1))),(2,(.val .bool s2)),(10,(.addr (.box 0) []))],Yf [.iter t3 n4],Yg []⟩)
def Yme (x:(List UInt8×(Unit×Bool))):Option Int:=Abs.Call E 1241 x
def Z26 (s0:List UInt8) (s1:Unit) (s2:Bool):Option Int:=(Abs.Run E 1241 (E.at 1241 []) ⟨Y8 [(2,(.val .bool s2)),(1,(.cl 248 0 (.val .unit s1))),(0,(.val .str s0))],Yd [],Ye []⟩)
def Z36 (s0:List UInt8) (s1:Unit) (s2:Bool) (t3:List UInt8) (n4:Nat):Option Int:=(Abs.Run E 1241 (E.at 1241 [1,0,1,0,7]) ⟨Y8 [(0,(.val .str s0)),(1,(.cl 248 0 (.val .unit s1))),(2,(.val .bool s2)),(10,(.addr (.box 0) []))],Yf [.iter t3 n4],Yg []⟩)
def Yle (x:(List UInt8×(Unit×Bool))):Option Int:=Abs.Call E 2241 x
def Z46 (s0:List UInt8) (s1:Unit) (s2:Bool):Option Int:=(Abs.Run E 2241 (E.at 2241 []) ⟨Y8 [(2,(.val .bool s2)),(1,(.cl 135 0 (.val .unit s1))),(0,(.val .str s0))],Yd [],Ye []⟩)
def Z56 (s0:List UInt8) (s1:Unit) (s2:Bool) (t3:List UInt8) (n4:Nat):Option Int:=(Abs.Run E 2241 (E.at 2241 [1,0,1,0,7]) ⟨Y8 [(0,(.val .str s0)),(1,(.cl 135 0 (.val .unit s1))),(2,(.val .bool s2)),(10,(.addr (.box 0) []))],Yf [.iter t3 n4],Yg []⟩)
def Yud (x:(List UInt8×List UInt8)):Option Bool:=Abs.Call E 244 x
def Z66 (s0:List UInt8) (s1:List UInt8):Option Bool:=(Abs.Run E 244 (E.at 244 []) ⟨Y8 [(1,(.val .str s1)),(0,(.val .str s0))],Yd [],Ye []⟩)
def Yj6 (x:List UInt8):Option (List UInt8×(Int×Int)):=Abs.Call E 247 x
def Z76 (s0:List UInt8):Option (List UInt8×(Int×Int)):=(Abs.Run E 247 (E.at 247 []) ⟨Y8 [(0,(.val .str s0))],Yd [],Ye []⟩)
def Z86 (s0:List UInt8) (s1:Int) (s2:Int):Option (List UInt8×(Int×Int)):=(Abs.Run E 247 (E.at 247 [1,0,1,0,7]) ⟨Y8 [(0,(.val .str s0)),(19,(.val (.int .i64) s1)),(20,(.val (.int .i64) s2))],Yf [],Yg []⟩)
def Z96 (s0:List UInt8) (s1:Int) (r2:List Int):Option (List UInt8×(Int×Int)):=(Abs.Run E 247 (E.at 247 [1,1,1,1,0,1,9]) ⟨Y8 [(0,(.val .str s0)),(6,(.row 0)),(7,(.val (.int .i64) s1))],Yf [],Yg [.mk (.int .i32) .live r2]⟩)
def Za6 (s0:List UInt8) (s1:Int):Option (List UInt8×(Int×Int)):=(Abs.Run E 247 (E.at 247 [1,1,1,1,0,1,9]) ⟨Y8 [(0,(.val .str s0)),(6,.nils),(7,(.val (.int .i64) s1))],Yf [],Yg []⟩)
def Zb6 (s0:List UInt8) (s1:Int) (s2:Int) (s3:Int) (s4:Int) (s5:Int) (r6:List Int):Option (List UInt8×(Int×Int)):=(Abs.Run E 247 (E.at 247 [1,1,1,1,1,1,1,0,0,7]) ⟨Y8 [(0,(.val .str s0)),(6,(.row 0)),(7,(.val (.int .i64) s1)),(8,(.val (.int .i64) s2)),(9,(.val (.int .i64) s3)),(10,(.val (.int .i64) s4)),(11,(.val (.int .i64) s5))],Yf [],Yg [.mk (.int .i32) .live r6]⟩)
def Zc6 (s0:List UInt8) (s1:Int) (s2:Int) (s3:Int) (s4:Int) (s5:Int):Option (List UInt8×(Int×Int)):=(Abs.Run E 247 (E.at 247 [1,1,1,1,1,1,1,0,0,7]) ⟨Y8 [(0,(.val .str s0)),(6,.nils),(7,(.val (.int .i64) s1)),(8,(.val (.int .i64) s2)),(9,(.val (.int .i64) s3)),(10,(.val (.int .i64) s4)),(11,(.val (.int .i64) s5))],Yf [],Yg []⟩)
def YId (x:Int):Option Bool:=Abs.Call E 248 x
def Zd6 (s0:Int):Option Bool:=(Abs.Run E 248 (E.at 248 []) ⟨Y8 [(0,(.val (.int .i32) s0))],Yd [],Ye []⟩)
def YK6 (x:Int):Option Bool:=Abs.Call E 256 x
def Ze6 (s0:Int):Option Bool:=(Abs.Run E 256 (E.at 256 []) ⟨Y8 [(0,(.val (.int .i32) s0))],Yd [],Ye []⟩)
def YJ6 (x:((List Int)×Int)):Option (List Int):=Abs.Call E 258 x
def Zf6 (s0:Int) (r1:List Int):Option (List Int):=(Abs.Run E 258 (E.at 258 []) ⟨Y8 [(1,(.val (.int .i32) s0)),(0,(.row 1073741824))],Yd [],Ye [(1073741824,.mk (.int .u8) .live r1)]⟩)
def Yo9 (x:List UInt8):Option Int:=Abs.Call E 259 x
def Zg6 (s0:List UInt8):Option Int:=(Abs.Run E 259 (E.at 259 []) ⟨Y8 [(0,(.val .str s0))],Yd [],Ye []⟩)
def Zh6 (s0:List UInt8) (s1:Int) (s2:Int) (s3:Int) (s4:Int):Option Int:=(Abs.Run E 259 (E.at 259 [1,1,1,0,0,7]) ⟨Y8 [(0,(.val .str s0)),(3,(.val (.int .u8) s1)),(4,(.val (.int .u8) s2)),(5,(.val (.int .i64) s3)),(6,(.val (.int .i64) s4))],Yf [],Yg []⟩)
def Yg6 (x:Int):Option Int:=Abs.Call E 260 x
def Zi6 (s0:Int):Option Int:=(Abs.Run E 260 (E.at 260 []) ⟨Y8 [(0,(.val (.int .u8) s0))],Yd [],Ye []⟩)
def YR8 (x:((List Int)×(Int×Int))):Option (List Int):=Abs.Call E 270 x
def Zj6 (s0:Int) (s1:Int) (r2:List Int):Option (List Int):=(Abs.Run E 270 (E.at 270 []) ⟨Y8 [(2,(.val (.int .i64) s1)),(1,(.val (.int .i64) s0)),(0,(.row 1073741824))],Yd [],Ye [(1073741824,.mk (.int .u8) .live r2)]⟩)
def Zk6 (s0:Int) (s1:Int) (s2:Int) (r3:List Int):Option (List Int):=(Abs.Run E 270 (E.at 270 [1,1,0,7]) ⟨Y8 [(0,(.row 0)),(1,(.val (.int .i64) s0)),(2,(.val (.int .i64) s1)),(7,(.val (.int .i64) s2))],Yf [],Yg [.mk (.int .u8) .live r3]⟩)
def Y95 (x:(Int×(Int×Bool))):Option Int:=Abs.Call E 271 x
def Zl6 (s0:Int) (s1:Int) (s2:Bool):Option Int:=(Abs.Run E 271 (E.at 271 []) ⟨Y8 [(2,(.val .bool s2)),(1,(.val (.int .i64) s1)),(0,(.val (.int .i64) s0))],Yd [],Ye []⟩)
def Zm6 (s0:Int) (s1:Int) (s2:Bool):Option Int:=(Abs.Run E 271 (E.at 271 [1,0,1,9]) ⟨Y8 [(0,(.val (.int .i64) s0)),(1,(.val (.int .i64) s1)),(2,(.val .bool s2))],Yf [],Yg []⟩)
def Zn6 (s0:Int) (s1:Int) (s2:Bool) (s3:Int):Option Int:=(Abs.Run E 271 (E.at 271 [1,1,1,1,0,0,7]) ⟨Y8 [(0,(.val (.int .i64) s0)),(1,(.val (.int .i64) s1)),(2,(.val .bool s2)),(7,(.val (.int .i64) s3))],Yf [],Yg []⟩)
def Yj9 (x:(List UInt8×Int)):Option Int:=Abs.Call E 275 x
def Zo6 (s0:List UInt8) (s1:Int):Option Int:=(Abs.Run E 275 (E.at 275 []) ⟨Y8 [(1,(.val (.int .u8) s1)),(0,(.val .str s0))],Yd [],Ye []⟩)
def Yk6 (x:(List UInt8×(Int×(Int×Int)))):Option (Int×(Int×(Int×Int))):=Abs.Call E 276 x
def Zp6 (s0:List UInt8) (s1:Int) (s2:Int) (s3:Int):Option (Int×(Int×(Int×Int))):=(Abs.Run E 276 (E.at 276 []) ⟨Y8 [(3,(.val (.int .i64) s3)),(2,(.val (.int .i64) s2)),(1,(.val (.int .i64) s1)),(0,(.val .str s0))],Yd [],Ye []⟩)
def Zq6 (s0:List UInt8) (s1:Int) (s2:Int) (s3:Int) (s4:Int) (s5:Int) (s6:Int):Option (Int×(Int×(Int×Int))):=(Abs.Run E 276 (E.at 276 [1,1,1,1,0,7]) ⟨Y8 [(0,(.val .str s0)),(1,(.val (.int .i64) s1)),(2,(.val (.int .i64) s2)),(3,(.val (.int .i64) s3)),(12,(.val (.int .i64) s4)),(13,(.val (.int .i64) s5)),(14,(.val (.int .i64) s6))],Yf [],Yg []⟩)
def Zr6 (s0:List UInt8) (s1:Int) (s2:Int) (s3:Int) (s4:Int) (s5:Int) (s6:Int) (s7:Int):Option (Int×(Int×(Int×Int))):=(Abs.Run E 276 (E.at 276 [1,1,1,1,0,0,0,0,1,1,0,1,1,9]) ⟨Y8 [(0,(.val .str s0)),(1,(.val (.int .i64) s1)),(2,(.val (.int .i64) s2)),(3,(.val (.int .i64) s3)),(12,(.val (.int .i64) s4)),(13,(.val (.int .i64) s5)),(14,(.val (.int .i64) s6)),(15,(.val (.int .i64) s7))],Yf [],Yg []⟩)
def YK3 (x:((List Int)×(Int×(List Int)))):Option (List Int):=Abs.Call E 277 x
def Yre (x:((List Int)×Int)):Option (List Int):=Abs.Call E 282 x
def Zs6 (s0:Int) (r1:List Int):Option (List Int):=(Abs.Run E 282 (E.at 282 []) ⟨Y8 [(1,(.val (.int .i32) s0)),(0,(.row 1073741824))],Yd [],Ye [(1073741824,.mk (.int .u8) .live r1)]⟩)
def Zt6 (s0:Int) (s1:Int) (s2:Bool) (r3:List Int):Option (List Int):=(Abs.Run E 282 (E.at 282 [1,1,0,1,1,0,1,9]) ⟨Y8 [(0,(.row 0)),(1,(.val (.int .i32) s0)),(5,(.val (.int .u32) s1)),(25,(.val .bool s2))],Yf [],Yg [.mk (.int .u8) .live r3]⟩)
def Ym9 (x:Int):Option (Int×(Int×Int)):=Abs.Call E 283 x
def Zu6 (s0:Int):Option (Int×(Int×Int)):=(Abs.Run E 283 (E.at 283 []) ⟨Y8 [(0,(.val (.int .u8) s0))],Yd [],Ye []⟩)
def Yl6 (x:(Int×Int)):Option Int:=Abs.Call E 290 x
def Zv6 (s0:Int) (s1:Int):Option Int:=(Abs.Run E 290 (E.at 290 []) ⟨Y8 [(1,(.val (.int .i64) s1)),(0,(.val (.int .i64) s0))],Yd [],Ye []⟩)
def Yrd (x:(List UInt8×Int)):Option Int:=Abs.Call E 292 x
def Zw6 (s0:List UInt8) (s1:Int):Option Int:=(Abs.Run E 292 (E.at 292 []) ⟨Y8 [(1,(.val (.int .u8) s1)),(0,(.val .str s0))],Yd [],Ye []⟩)
def Zx6 (s0:List UInt8) (s1:Int) (s2:Int):Option Int:=(Abs.Run E 292 (E.at 292 [1,0,1,0,7]) ⟨Y8 [(0,(.val .str s0)),(1,(.val (.int .u8) s1)),(5,(.val (.int .i64) s2))],Yf [],Yg []⟩)
theorem Yyk (x:(List UInt8×Bool)):YG8 x=
 Za4 x.1 x.2:=by kernel_rfl
theorem Ysi (s0:List UInt8) (s1:Bool):Za4 s0 s1=
 bif (decide ((((length s0):Nat):Int) > 65536)) then
 some (((Ty.zero (.int .i64)),((Ty.zero .str),((Ty.zero (.int .u32)),(Ty.zero (.arr 8 (.int .u16)))))),(5:Int))
 else
 bif (!(s0==([]:List UInt8))) then
 bif (Ya (0:Int) (length s0)) then
 bif ((((UInt8.toNat (getD s0 (Int.toNat (0:Int)) (0:UInt8))):Nat):Int)==91) then
 bif (Ya (wrap i64 ((((length s0):Nat):Int) - 1)) (length s0)) then
 bif ((((UInt8.toNat (getD s0 (Int.toNat (wrap i64 ((((length s0):Nat):Int) - 1))) (0:UInt8))):Nat):Int) !=93) then
 some (((Ty.zero (.int .i64)),((Ty.zero .str),((Ty.zero (.int .u32)),(Ty.zero (.arr 8 (.int .u16)))))),(51:Int))
 else
 bif (decide ((((length s0):Nat):Int) < 2)) then
 some (((Ty.zero (.int .i64)),((Ty.zero .str),((Ty.zero (.int .u32)),(Ty.zero (.arr 8 (.int .u16)))))),(51:Int))
 else
 bif (Yi (some (1:Int)) (some (wrap i64 ((((length s0):Nat):Int) - 1))) (length s0)) then
 (YF8 (Yl (some (1:Int)) (some (wrap i64 ((((length s0):Nat):Int) - 1))) s0)).bind fun y0=>
 bif (y0.2 !=0) then
 some (((Ty.zero (.int .i64)),((Ty.zero .str),((Ty.zero (.int .u32)),(Ty.zero (.arr 8 (.int .u16)))))),y0.2)
 else
 some (((3:Int),((Ty.zero .str),((Ty.zero (.int .u32)),y0.1))),(0:Int))
 else
 none
 else
 none
 else
 bif (!s1) then
 bif (s0==([]:List UInt8)) then
 some (((5:Int),((Ty.zero .str),((Ty.zero (.int .u32)),(Ty.zero (.arr 8 (.int .u16)))))),(0:Int))
 else
 bif (!s1) then
 (YL3 (s0,([0,9,10,13,32,35,47,58,60,62,63,64,91,92,93,94,124]:List UInt8))).bind fun y0=>
 bif y0 then
 some (((Ty.zero (.int .i64)),((Ty.zero .str),((Ty.zero (.int .u32)),(Ty.zero (.arr 8 (.int .u16)))))),(52:Int))
 else
 (YI3 ((1:Int),s0)).bind fun y1=>
 bif (decide ((((length y1.1):Nat):Int) > 65536)) then
 some (((Ty.zero (.int .i64)),((Ty.zero .str),((Ty.zero (.int .u32)),(Ty.zero (.arr 8 (.int .u16)))))),(5:Int))
 else
 some (((4:Int),(y1.1,((Ty.zero (.int .u32)),(Ty.zero (.arr 8 (.int .u16)))))),(0:Int))
 else
 (YH3 s0).bind fun y0=>
 (Y53 y0).bind fun y1=>
 bif (y1.2 !=0) then
 some (((Ty.zero (.int .i64)),((Ty.zero .str),((Ty.zero (.int .u32)),(Ty.zero (.arr 8 (.int .u16)))))),y1.2)
 else
 bif (y1.1==([]:List UInt8)) then
 some (((Ty.zero (.int .i64)),((Ty.zero .str),((Ty.zero (.int .u32)),(Ty.zero (.arr 8 (.int .u16)))))),(51:Int))
 else
 Zb4 s0 s1 y1.1 (((length y1.1):Nat):Int) (0:Int) ((Ty.zero (.int .i64)),((Ty.zero .str),((Ty.zero (.int .u32)),(Ty.zero (.arr 8 (.int .u16))))))
 else
 bif (!s1) then
 (YL3 (s0,([0,9,10,13,32,35,47,58,60,62,63,64,91,92,93,94,124]:List UInt8))).bind fun y0=>
 bif y0 then
 some (((Ty.zero (.int .i64)),((Ty.zero .str),((Ty.zero (.int .u32)),(Ty.zero (.arr 8 (.int .u16)))))),(52:Int))
 else
 (YI3 ((1:Int),s0)).bind fun y1=>
 bif (decide ((((length y1.1):Nat):Int) > 65536)) then
 some (((Ty.zero (.int .i64)),((Ty.zero .str),((Ty.zero (.int .u32)),(Ty.zero (.arr 8 (.int .u16)))))),(5:Int))
 else
 some (((4:Int),(y1.1,((Ty.zero (.int .u32)),(Ty.zero (.arr 8 (.int .u16)))))),(0:Int))
 else
 (YH3 s0).bind fun y0=>
 (Y53 y0).bind fun y1=>
 bif (y1.2 !=0) then
 some (((Ty.zero (.int .i64)),((Ty.zero .str),((Ty.zero (.int .u32)),(Ty.zero (.arr 8 (.int .u16)))))),y1.2)
 else
 bif (y1.1==([]:List UInt8)) then
 some (((Ty.zero (.int .i64)),((Ty.zero .str),((Ty.zero (.int .u32)),(Ty.zero (.arr 8 (.int .u16)))))),(51:Int))
 else
 Zb4 s0 s1 y1.1 (((length y1.1):Nat):Int) (0:Int) ((Ty.zero (.int .i64)),((Ty.zero .str),((Ty.zero (.int .u32)),(Ty.zero (.arr 8 (.int .u16))))))
 else
 none
 else
 bif (!s1) then
 bif (s0==([]:List UInt8)) then
 some (((5:Int),((Ty.zero .str),((Ty.zero (.int .u32)),(Ty.zero (.arr 8 (.int .u16)))))),(0:Int))
 else
 bif (!s1) then
 (YL3 (s0,([0,9,10,13,32,35,47,58,60,62,63,64,91,92,93,94,124]:List UInt8))).bind fun y0=>
 bif y0 then
 some (((Ty.zero (.int .i64)),((Ty.zero .str),((Ty.zero (.int .u32)),(Ty.zero (.arr 8 (.int .u16)))))),(52:Int))
 else
 (YI3 ((1:Int),s0)).bind fun y1=>
 bif (decide ((((length y1.1):Nat):Int) > 65536)) then
 some (((Ty.zero (.int .i64)),((Ty.zero .str),((Ty.zero (.int .u32)),(Ty.zero (.arr 8 (.int .u16)))))),(5:Int))
 else
 some (((4:Int),(y1.1,((Ty.zero (.int .u32)),(Ty.zero (.arr 8 (.int .u16)))))),(0:Int))
 else
 (YH3 s0).bind fun y0=>
 (Y53 y0).bind fun y1=>
 bif (y1.2 !=0) then
 some (((Ty.zero (.int .i64)),((Ty.zero .str),((Ty.zero (.int .u32)),(Ty.zero (.arr 8 (.int .u16)))))),y1.2)
 else
 bif (y1.1==([]:List UInt8)) then
 some (((Ty.zero (.int .i64)),((Ty.zero .str),((Ty.zero (.int .u32)),(Ty.zero (.arr 8 (.int .u16)))))),(51:Int))
 else
 Zb4 s0 s1 y1.1 (((length y1.1):Nat):Int) (0:Int) ((Ty.zero (.int .i64)),((Ty.zero .str),((Ty.zero (.int .u32)),(Ty.zero (.arr 8 (.int .u16))))))
 else
 bif (!s1) then
 (YL3 (s0,([0,9,10,13,32,35,47,58,60,62,63,64,91,92,93,94,124]:List UInt8))).bind fun y0=>
 bif y0 then
 some (((Ty.zero (.int .i64)),((Ty.zero .str),((Ty.zero (.int .u32)),(Ty.zero (.arr 8 (.int .u16)))))),(52:Int))
 else
 (YI3 ((1:Int),s0)).bind fun y1=>
 bif (decide ((((length y1.1):Nat):Int) > 65536)) then
 some (((Ty.zero (.int .i64)),((Ty.zero .str),((Ty.zero (.int .u32)),(Ty.zero (.arr 8 (.int .u16)))))),(5:Int))
 else
 some (((4:Int),(y1.1,((Ty.zero (.int .u32)),(Ty.zero (.arr 8 (.int .u16)))))),(0:Int))
 else
 (YH3 s0).bind fun y0=>
 (Y53 y0).bind fun y1=>
 bif (y1.2 !=0) then
 some (((Ty.zero (.int .i64)),((Ty.zero .str),((Ty.zero (.int .u32)),(Ty.zero (.arr 8 (.int .u16)))))),y1.2)
 else
 bif (y1.1==([]:List UInt8)) then
 some (((Ty.zero (.int .i64)),((Ty.zero .str),((Ty.zero (.int .u32)),(Ty.zero (.arr 8 (.int .u16)))))),(51:Int))
 else
 Zb4 s0 s1 y1.1 (((length y1.1):Nat):Int) (0:Int) ((Ty.zero (.int .i64)),((Ty.zero .str),((Ty.zero (.int .u32)),(Ty.zero (.arr 8 (.int .u16)))))):=by unfold Za4; rewrite [Y9]; kernel_rfl
theorem YQb (s0:List UInt8) (s1:Bool) (s2:List UInt8) (s3:Int) (s4:Int) (b5:D35):Zb4 s0 s1 s2 s3 s4 b5=
 bif (decide (s4 < s3)) then
 bif (Ya s4 (length s2)) then
 bif (decide ((((UInt8.toNat (getD s2 (Int.toNat s4) (0:UInt8))):Nat):Int) < 32)) then
 some (((Ty.zero (.int .i64)),((Ty.zero .str),((Ty.zero (.int .u32)),(Ty.zero (.arr 8 (.int .u16)))))),(52:Int))
 else
 bif ((((UInt8.toNat (getD s2 (Int.toNat s4) (0:UInt8))):Nat):Int)==37) then
 some (((Ty.zero (.int .i64)),((Ty.zero .str),((Ty.zero (.int .u32)),(Ty.zero (.arr 8 (.int .u16)))))),(52:Int))
 else
 bif ((((UInt8.toNat (getD s2 (Int.toNat s4) (0:UInt8))):Nat):Int)==127) then
 some (((Ty.zero (.int .i64)),((Ty.zero .str),((Ty.zero (.int .u32)),(Ty.zero (.arr 8 (.int .u16)))))),(52:Int))
 else
 (YM3 (([0,9,10,13,32,35,47,58,60,62,63,64,91,92,93,94,124]:List UInt8),(((UInt8.toNat (getD s2 (Int.toNat s4) (0:UInt8))):Nat):Int))).bind fun y0=>
 bif (decide (y0≥0)) then
 some (((Ty.zero (.int .i64)),((Ty.zero .str),((Ty.zero (.int .u32)),(Ty.zero (.arr 8 (.int .u16)))))),(52:Int))
 else
 Zb4 s0 s1 s2 s3 (wrap i64 (s4+1)) b5
 else
 none
 else
 (YD8 s2).bind fun y0=>
 bif y0 then
 (YE8 s2).bind fun y1=>
 bif (y1.2 !=0) then
 some (((Ty.zero (.int .i64)),((Ty.zero .str),((Ty.zero (.int .u32)),(Ty.zero (.arr 8 (.int .u16)))))),y1.2)
 else
 some (((2:Int),((Ty.zero .str),(y1.1,(Ty.zero (.arr 8 (.int .u16)))))),(0:Int))
 else
 some (((1:Int),(s2,((Ty.zero (.int .u32)),(Ty.zero (.arr 8 (.int .u16)))))),(0:Int)):=by unfold Zb4; rewrite [Y9]; kernel_rfl
theorem YAk (x:List UInt8):Y53 x=
 Zc4 x:=by kernel_rfl
theorem YBi (s0:List UInt8):Zc4 s0=
 (YL6 s0).bind fun y0=>
 bif (!y0.1) then
 some (([]:List UInt8),(21:Int))
 else
 bif (decide ((((length s0):Nat):Int) > 65536)) then
 some (([]:List UInt8),(5:Int))
 else
 bif (s0==([]:List UInt8)) then
 some (([]:List UInt8),(0:Int))
 else
 Zd4 s0 (0:Int) s0 0 ([]:List (List UInt8)):=by unfold Zc4; rewrite [Y9]; kernel_rfl
theorem YWb (s0:List UInt8) (s1:Int) (t2:List UInt8) (n3:Nat) (r4:List (List UInt8)):Zd4 s0 s1 t2 n3 r4=
 bif (decide (n3 < (length t2))) then
 (Yb6 (((Yx t2 n3).1:Nat):Int)).bind fun y0=>
 bif y0 then
 bif (Yi (some s1) (some ((n3:Nat):Int)) (length s0)) then
 bif (decide (((length r4)+(length ([(Yl (some s1) (some ((n3:Nat):Int)) s0)]:List (List UInt8))))≤(lim))) then
 Zd4 s0 (wrap i64 (((n3:Nat):Int)+(((length (Yt1 (((Yx t2 n3).1:Nat):Int))):Nat):Int))) t2 (n3+(Yx t2 n3).2) (r4++([(Yl (some s1) (some ((n3:Nat):Int)) s0)]:List (List UInt8)))
 else
 none
 else
 none
 else
 Zd4 s0 s1 t2 (n3+(Yx t2 n3).2) r4
 else
 bif (Yi (some s1) none (length s0)) then
 bif (decide (((length r4)+(length ([(Yl (some s1) none s0)]:List (List UInt8))))≤(lim))) then
 Ze4 s0 (((length (r4++([(Yl (some s1) none s0)]:List (List UInt8)))):Nat):Int) (0:Int) (r4++([(Yl (some s1) none s0)]:List (List UInt8)))
 else
 none
 else
 none:=by unfold Zd4; rewrite [Y9]; kernel_rfl
theorem Y1c (s0:List UInt8) (s1:Int) (s2:Int) (r3:List (List UInt8)):Ze4 s0 s1 s2 r3=
 bif (decide (s2 < s1)) then
 bif (Ya s2 (length r3)) then
 bif (s2==(wrap i64 ((((length r3):Nat):Int) - 1))) then
 (Y85 ((getD r3 (Int.toNat s2) (Ty.zero .str)),(decide (s2 > 0)))).bind fun y0=>
 bif (y0.2 !=0) then
 some (([]:List UInt8),y0.2)
 else
 bif (Ya s2 (length r3)) then
 Ze4 s0 s1 (wrap i64 (s2+1)) (List.set r3 (Int.toNat s2) y0.1)
 else
 none
 else
 (Y85 ((getD r3 (Int.toNat s2) (Ty.zero .str)),false)).bind fun y0=>
 bif (y0.2 !=0) then
 some (([]:List UInt8),y0.2)
 else
 bif (Ya s2 (length r3)) then
 Ze4 s0 s1 (wrap i64 (s2+1)) (List.set r3 (Int.toNat s2) y0.1)
 else
 none
 else
 none
 else
 (Yi9 (r3,([46]:List UInt8))).bind fun y0=>
 (Yk9 (y0,([46]:List UInt8))).bind fun y1=>
 bif (decide ((((length y1):Nat):Int) > 253)) then
 some (([]:List UInt8),(5:Int))
 else
 some (y0,(0:Int)):=by unfold Ze4; rewrite [Y9]; kernel_rfl
theorem YBk (x:List UInt8):YH8 x=
 Zf4 x:=by kernel_rfl
theorem YIi (s0:List UInt8):Zf4 s0=
 (Yf4 (s0,(46:Int))).bind fun y0=>
 Zg4 s0 (((length y0):Nat):Int) (0:Int) y0:=by unfold Zf4; rewrite [Y9]; kernel_rfl
theorem Y6c (s0:List UInt8) (s1:Int) (s2:Int) (r3:List (List UInt8)):Zg4 s0 s1 s2 r3=
 bif (decide (s2 < s1)) then
 bif (Ya s2 (length r3)) then
 (Yg4 (getD r3 (Int.toNat s2) (Ty.zero .str))).bind fun y0=>
 bif (y0.2==0) then
 bif (Ya s2 (length r3)) then
 Zg4 s0 s1 (wrap i64 (s2+1)) (List.set r3 (Int.toNat s2) y0.1)
 else
 none
 else
 Zg4 s0 s1 (wrap i64 (s2+1)) r3
 else
 none
 else
 (Yi9 (r3,([46]:List UInt8))).bind fun y0=>
 some y0:=by unfold Zg4; rewrite [Y9]; kernel_rfl
theorem YLm (x:(List UInt8×List UInt8)):YL3 x=
 Zh4 x.1 x.2:=by kernel_rfl
theorem YQi (s0:List UInt8) (s1:List UInt8):Zh4 s0 s1=
 (Yh9 (s0,s1)).bind fun y0=>
 some (decide (y0≥0)):=by unfold Zh4; rewrite [Y9]; kernel_rfl
theorem Yal (x:(Int×List UInt8)):YI3 x=
 Zi4 x.1 x.2:=by kernel_rfl
theorem YWi (s0:Int) (s1:List UInt8):Zi4 s0 s1=
 (YM6 s1).bind fun y0=>
 (YBd (s0,(YK y0))).bind fun y1=>
 some (y1.1,y1.2):=by unfold Zi4; rewrite [Y9]; kernel_rfl
theorem Y7l (x:List UInt8):YH3 x=
 Zj4 x:=by kernel_rfl
theorem YZi (s0:List UInt8):Zj4 s0=
 (YAd s0).bind fun y0=>
 (YM6 (Ym y0)).bind fun y1=>
 some y1:=by unfold Zj4; rewrite [Y9]; kernel_rfl
theorem Y8n (x:List UInt8):YL6 x=
 Zk4 x:=by kernel_rfl
theorem Y5j (s0:List UInt8):Zk4 s0=
 Zl4 s0 s0 0:=by unfold Zk4; rewrite [Y9]; kernel_rfl
theorem Yhc (s0:List UInt8) (t1:List UInt8) (n2:Nat):Zl4 s0 t1 n2=
 bif (decide (n2 < (length t1))) then
 (YN6 (s0,((n2:Nat):Int))).bind fun y0=>
 bif y0.2.2.2 then
 some (false,((n2:Nat):Int))
 else
 Zl4 s0 t1 (n2+(Yx t1 n2).2)
 else
 some (true,(0:Int)):=by unfold Zl4; rewrite [Y9]; kernel_rfl
theorem YKk (x:Int):Yb6 x=
 Zm4 x:=by kernel_rfl
theorem Yej (s0:Int):Zm4 s0=
 bif (s0==46) then
 some true
 else
 bif (s0==12290) then
 some true
 else
 bif (s0==65294) then
 some true
 else
 some (s0==65377):=by unfold Zm4; rewrite [Y9]; kernel_rfl
theorem YMk (x:(List UInt8×Bool)):Y85 x=
 Zn4 x.1 x.2:=by kernel_rfl
theorem Yij (s0:List UInt8) (s1:Bool):Zn4 s0 s1=
 (Y63 s0).bind fun y0=>
 (Yd4 (y0,(65533:Int))).bind fun y1=>
 (YI8 y0).bind fun y2=>
 bif (!y2) then
 bif (!y1) then
 (Yh6 y0).bind fun y3=>
 bif (y3.2 !=0) then
 some (([]:List UInt8),(53:Int))
 else
 Zo4 y3.1 s1 y1
 else
 Zo4 y0 s1 y1
 else
 Zo4 y0 s1 y1:=by unfold Zn4; rewrite [Y9]; kernel_rfl
theorem Ym8 (s0:List UInt8) (s1:Bool) (s2:Bool):Zo4 s0 s1 s2=
 bif s2 then
 some (([]:List UInt8),(53:Int))
 else
 bif (decide ((((length s0):Nat):Int) > 63)) then
 some (([]:List UInt8),(53:Int))
 else
 bif (s0==([]:List UInt8)) then
 bif (!s1) then
 some (([]:List UInt8),(53:Int))
 else
 (Yk4 (s0,([120,110,45,45]:List UInt8))).bind fun y0=>
 bif y0 then
 (Yg4 s0).bind fun y1=>
 bif (y1.2 !=0) then
 some (([]:List UInt8),(53:Int))
 else
 (Yd4 (y1.1,(65533:Int))).bind fun y2=>
 bif y2 then
 some (([]:List UInt8),(53:Int))
 else
 (Yj5 (y1.1,())).bind fun y3=>
 bif (decide (y3≥0)) then
 some (([]:List UInt8),(53:Int))
 else
 some (s0,(0:Int))
 else
 some (s0,(0:Int))
 else
 (Yk4 (s0,([120,110,45,45]:List UInt8))).bind fun y0=>
 bif y0 then
 (Yg4 s0).bind fun y1=>
 bif (y1.2 !=0) then
 some (([]:List UInt8),(53:Int))
 else
 (Yd4 (y1.1,(65533:Int))).bind fun y2=>
 bif y2 then
 some (([]:List UInt8),(53:Int))
 else
 (Yj5 (y1.1,())).bind fun y3=>
 bif (decide (y3≥0)) then
 some (([]:List UInt8),(53:Int))
 else
 some (s0,(0:Int))
 else
 some (s0,(0:Int)):=by unfold Zo4; rewrite [Y9]; kernel_rfl
theorem Yie (x:((List (List UInt8))×List UInt8)):Yi9 x=Ym3 x:=by kernel_rfl
theorem YXm (x:(List UInt8×List UInt8)):Yk9 x=
 Zp4 x.1 x.2:=by kernel_rfl
theorem Ynj (s0:List UInt8) (s1:List UInt8):Zp4 s0 s1=
 (Ywd (s0,s1)).bind fun y0=>
 some y0:=by unfold Zp4; rewrite [Y9]; kernel_rfl
theorem Yol (x:List UInt8):Yg4 x=
 Zq4 x:=by kernel_rfl
theorem Ysj (s0:List UInt8):Zq4 s0=
 bif (decide ((((length s0):Nat):Int) < 4)) then
 some (s0,(0:Int))
 else
 bif (Yi none (some (4:Int)) (length s0)) then
 (Y63 (Yl none (some (4:Int)) s0)).bind fun y0=>
 bif (!(y0==([120,110,45,45]:List UInt8))) then
 some (s0,(0:Int))
 else
 bif (Yi (some (4:Int)) none (length s0)) then
 (YP8 (Yl (some (4:Int)) none s0)).bind fun y1=>
 bif (y1.2.1 !=0) then
 some (([]:List UInt8),y1.2.1)
 else
 (Yh6 y1.1).bind fun y2=>
 bif (y2.2 !=0) then
 some (([]:List UInt8),(31:Int))
 else
 (Yi6 y1.1).bind fun y3=>
 bif y3 then
 some (([]:List UInt8),(31:Int))
 else
 (YM8 (y2.1,s0)).bind fun y4=>
 bif (!y4) then
 some (([]:List UInt8),(31:Int))
 else
 some (y1.1,(0:Int))
 else
 none
 else
 none:=by unfold Zq4; rewrite [Y9]; kernel_rfl
theorem YRm (x:(List UInt8×List UInt8)):Yh9 x=
 Zr4 x.1 x.2:=by kernel_rfl
theorem Yxj (s0:List UInt8) (s1:List UInt8):Zr4 s0 s1=
 bif (s1==([]:List UInt8)) then
 some (-(1:Int))
 else
 bif ((((length s1):Nat):Int)==1) then
 bif (Ya (0:Int) (length s1)) then
 bif (decide ((wrap i32 (((UInt8.toNat (getD s1 (Int.toNat (0:Int)) (0:UInt8))):Nat):Int))≥128)) then
 Zs4 s0 s1 (65533:Int)
 else
 Zs4 s0 s1 (wrap i32 (((UInt8.toNat (getD s1 (Int.toNat (0:Int)) (0:UInt8))):Nat):Int))
 else
 none
 else
 (Yoe (((length s0):Nat):Int)).bind fun y0=>
 bif y0 then
 (Yne s1).bind fun y1=>
 bif y1.2 then
 Zt4 s0 s1 (0:Int) y1.1
 else
 Zu4 s0 s1
 else
 Zu4 s0 s1:=by unfold Zr4; rewrite [Y9]; kernel_rfl
theorem Yyc (s0:List UInt8) (s1:List UInt8) (s2:Int) (b3:(List Bool)):Zt4 s0 s1 s2 b3=
 bif (decide (s2 < (((length s0):Nat):Int))) then
 bif (Ya s2 (length s0)) then
 (Yje (b3,(((UInt8.toNat (getD s0 (Int.toNat s2) (0:UInt8))):Nat):Int))).bind fun y0=>
 bif y0.1 then
 some s2
 else
 Zt4 s0 s1 (wrap i64 (s2+1)) y0.2
 else
 none
 else
 some (-(1:Int)):=by unfold Zt4; rewrite [Y9]; kernel_rfl
theorem YLj (s0:List UInt8) (s1:List UInt8):Zu4 s0 s1=
 Zv4 s0 s1 s0 0:=by unfold Zu4; rewrite [Y9]; kernel_rfl
theorem YEc (s0:List UInt8) (s1:List UInt8) (t2:List UInt8) (n3:Nat):Zv4 s0 s1 t2 n3=
 bif (decide (n3 < (length t2))) then
 (YI6 (s1,(((Yx t2 n3).1:Nat):Int))).bind fun y0=>
 bif (decide (y0≥0)) then
 some ((n3:Nat):Int)
 else
 Zv4 s0 s1 t2 (n3+(Yx t2 n3).2)
 else
 some (-(1:Int)):=by unfold Zv4; rewrite [Y9]; kernel_rfl
theorem Ycl (x:(Int×(List Int))):YBd x=
 Zw4 x.1 x.2:=by kernel_rfl
theorem YVj (s0:Int) (s1:(List Int)):Zw4 s0 s1=
 (YDd s0).bind fun y0=>
 bif (!y0) then
 some (([]:List UInt8),(42:Int))
 else
 (YCd ()).bind fun y1=>
 bif (Ya s0 9) then
 Zx4 s0 s1 s1 (((length s1):Nat):Int) (0:Int) (getD y1 (Int.toNat s0) (Ty.zero (.arr 256 .bool))) ([]:List Int)
 else
 none:=by unfold Zw4; rewrite [Y9]; kernel_rfl
theorem YLc (s0:Int) (s1:(List Int)) (s2:(List Int)) (s3:Int) (s4:Int) (b5:(List Bool)) (r6:List Int):Zx4 s0 s1 s2 s3 s4 b5 r6=
 bif (decide (s4 < s3)) then
 bif (Ya s4 (length s2)) then
 bif (Ya (getD s2 (Int.toNat s4) (Ty.zero (.int .u8))) 256) then
 bif (getD b5 (Int.toNat (getD s2 (Int.toNat s4) (Ty.zero (.int .u8)))) (Ty.zero .bool)) then
 (YN8 (r6,(getD s2 (Int.toNat s4) (Ty.zero (.int .u8))))).bind fun y0=>
 Zx4 s0 s1 s2 s3 (wrap i64 (s4+1)) b5 y0
 else
 bif (decide (((length r6)+(length ([(getD s2 (Int.toNat s4) (Ty.zero (.int .u8)))]:List Int)))≤(lim))) then
 Zx4 s0 s1 s2 s3 (wrap i64 (s4+1)) b5 (r6++([(getD s2 (Int.toNat s4) (Ty.zero (.int .u8)))]:List Int))
 else
 none
 else
 none
 else
 none
 else
 some ((Ym r6),(0:Int)):=by unfold Zx4; rewrite [Y9]; kernel_rfl
theorem Y9n (x:List UInt8):YM6 x=
 Zy4 x:=by kernel_rfl
theorem Y0k (s0:List UInt8):Zy4 s0=
 (Yl9 s0).bind fun y0=>
 (Yn9 y0).bind fun y1=>
 some y1:=by unfold Zy4; rewrite [Y9]; kernel_rfl
theorem Y9l (x:List UInt8):YAd x=
 Zz4 x:=by kernel_rfl
theorem Y2k (s0:List UInt8):Zz4 s0=
 Z05 s0 (0:Int) ([]:List Int):=by unfold Zz4; rewrite [Y9]; kernel_rfl
theorem Yyb (s0:List UInt8) (s1:Int) (r2:List Int):Z05 s0 s1 r2=
 bif (decide (s1 < (((length s0):Nat):Int))) then
 (YO8 (s0,s1)).bind fun y0=>
 bif (decide (y0≥0)) then
 bif (decide (((length r2)+(length ([(wrap u8 y0)]:List Int)))≤(lim))) then
 Z05 s0 (wrap i64 ((wrap i64 (s1+2))+1)) (r2++([(wrap u8 y0)]:List Int))
 else
 none
 else
 bif (Ya s1 (length s0)) then
 bif (decide (((length r2)+(length ([(((UInt8.toNat (getD s0 (Int.toNat s1) (0:UInt8))):Nat):Int)]:List Int)))≤(lim))) then
 Z05 s0 (wrap i64 (s1+1)) (r2++([(((UInt8.toNat (getD s0 (Int.toNat s1) (0:UInt8))):Nat):Int)]:List Int))
 else
 none
 else
 none
 else
 some r2:=by unfold Z05; rewrite [Y9]; kernel_rfl
theorem Ycn (x:(List UInt8×Int)):YN6 x=
 Z15 x.1 x.2:=by kernel_rfl
theorem YLh (s0:List UInt8) (s1:Int):Z15 s0 s1=
 bif (Yi (some s1) none (length s0)) then
 (Yqe (Yl (some s1) none s0)).bind fun y0=>
 bif (y0.1==65533) then
 some (s1,(y0.2,(y0.1,(y0.2==1))))
 else
 some (s1,(y0.2,(y0.1,false)))
 else
 none:=by unfold Z15; rewrite [Y9]; kernel_rfl
theorem YLk (x:(List UInt8×Int)):Yd4 x=
 Z25 x.1 x.2:=by kernel_rfl
theorem YQh (s0:List UInt8) (s1:Int):Z25 s0 s1=
 Z35 s0 s1 s0 0:=by unfold Z25; rewrite [Y9]; kernel_rfl
theorem YCb (s0:List UInt8) (s1:Int) (t2:List UInt8) (n3:Nat):Z35 s0 s1 t2 n3=
 bif (decide (n3 < (length t2))) then
 bif ((((Yx t2 n3).1:Nat):Int)==s1) then
 some true
 else
 Z35 s0 s1 t2 (n3+(Yx t2 n3).2)
 else
 some false:=by unfold Z35; rewrite [Y9]; kernel_rfl
theorem YFk (x:List UInt8):YI8 x=
 Z45 x:=by kernel_rfl
theorem Y0i (s0:List UInt8):Z45 s0=
 (Yfe (s0,())).bind fun y0=>
 some (decide (y0 < 0)):=by unfold Z45; rewrite [Y9]; kernel_rfl
theorem Ynl (x:List UInt8):Yh6 x=
 Z55 x:=by kernel_rfl
theorem Y4i (s0:List UInt8):Z55 s0=
 (YQ8 s0).bind fun y0=>
 bif (y0.2 !=0) then
 some (([]:List UInt8),y0.2)
 else
 (Yi6 s0).bind fun y1=>
 bif y1 then
 some (s0,(0:Int))
 else
 bif (decide (((length ([120,110,45,45]:List UInt8))+(length y0.1))≤(2 ^ 62))) then
 some ((([120,110,45,45]:List UInt8)++y0.1),(0:Int))
 else
 none:=by unfold Z55; rewrite [Y9]; kernel_rfl
theorem YUm (x:(List UInt8×Unit)):Yfe x=
 Z65 x.1 x.2:=by kernel_rfl
theorem Y8i (s0:List UInt8) (s1:Unit):Z65 s0 s1=
 (Yke (s0,(s1,true))).bind fun y0=>
 some y0:=by unfold Z65; rewrite [Y9]; kernel_rfl
theorem YTm (x:(List UInt8×Unit)):Yge x=
 Z75 x.1 x.2:=by kernel_rfl
theorem Yei (s0:List UInt8) (s1:Unit):Z75 s0 s1=
 (Yme (s0,(s1,true))).bind fun y0=>
 some y0:=by unfold Z75; rewrite [Y9]; kernel_rfl
theorem YSm (x:(List UInt8×Unit)):Yj5 x=
 Z85 x.1 x.2:=by kernel_rfl
theorem Yii (s0:List UInt8) (s1:Unit):Z85 s0 s1=
 (Yle (s0,(s1,true))).bind fun y0=>
 some y0:=by unfold Z85; rewrite [Y9]; kernel_rfl
theorem YYk (x:(List UInt8×List UInt8)):Ywd x=
 Z95 x.1 x.2:=by kernel_rfl
theorem Ymi (s0:List UInt8) (s1:List UInt8):Z95 s0 s1=
 (Yud (s0,s1)).bind fun y0=>
 bif y0 then
 bif (Yi none (some (wrap i64 ((((length s0):Nat):Int) - (((length s1):Nat):Int)))) (length s0)) then
 some (Yl none (some (wrap i64 ((((length s0):Nat):Int) - (((length s1):Nat):Int)))) s0)
 else
 none
 else
 some s0:=by unfold Z95; rewrite [Y9]; kernel_rfl
theorem Yjl (x:List UInt8):YP8 x=
 Za5 x:=by kernel_rfl
theorem Yti (s0:List UInt8):Za5 s0=
 bif (decide ((((length s0):Nat):Int) > 65536)) then
 some (([]:List UInt8),((5:Int),(0:Int)))
 else
 (Yj6 s0).bind fun y0=>
 some (y0.1,(y0.2.1,y0.2.2)):=by unfold Za5; rewrite [Y9]; kernel_rfl
theorem Yrl (x:List UInt8):Yi6 x=
 Zb5 x:=by kernel_rfl
theorem Yzi (s0:List UInt8):Zb5 s0=
 (Yge (s0,())).bind fun y0=>
 some (decide (y0 < 0)):=by unfold Zb5; rewrite [Y9]; kernel_rfl
theorem Y3l (x:(List UInt8×List UInt8)):YM8 x=
 Zc5 x.1 x.2:=by kernel_rfl
theorem YCi (s0:List UInt8) (s1:List UInt8):Zc5 s0 s1=
 (Y63 s0).bind fun y0=>
 (Y63 s1).bind fun y1=>
 some (y0==y1):=by unfold Zc5; rewrite [Y9]; kernel_rfl
theorem Yhe (x:(List UInt8×Int)):YI6 x=
 Zd5 x.1 x.2:=by kernel_rfl
theorem YXb (s0:List UInt8) (s1:Int):Zd5 s0 s1=
 bif (decide ((0:Int)≤s1)) then
 bif (decide (s1 < 128)) then
 (YM3 (s0,(wrap u8 s1))).bind fun y0=>
 some y0
 else
 bif (s1==65533) then
 Ze5 s0 s1 s0 0
 else
 (YK6 s1).bind fun y0=>
 bif (!y0) then
 some (-(1:Int))
 else
 Zf5 s0 s1 (Yt1 s1) (wrap i64 ((((length (Yt1 s1)):Nat):Int) - 1)) (wrap i64 ((((length (Yt1 s1)):Nat):Int) - 1))
 else
 bif (s1==65533) then
 Ze5 s0 s1 s0 0
 else
 (YK6 s1).bind fun y0=>
 bif (!y0) then
 some (-(1:Int))
 else
 Zf5 s0 s1 (Yt1 s1) (wrap i64 ((((length (Yt1 s1)):Nat):Int) - 1)) (wrap i64 ((((length (Yt1 s1)):Nat):Int) - 1)):=by unfold Zd5; rewrite [Y9]; kernel_rfl
theorem YJi (s0:List UInt8) (s1:Int) (s2:List UInt8) (s3:Int) (s4:Int):Zf5 s0 s1 s2 s3 s4=
 bif (decide (s4 < (((length s0):Nat):Int))) then
 bif (Ya s4 (length s0)) then
 bif (Ya s3 (length s2)) then
 bif ((((UInt8.toNat (getD s0 (Int.toNat s4) (0:UInt8))):Nat):Int) !=(((UInt8.toNat (getD s2 (Int.toNat s3) (0:UInt8))):Nat):Int)) then
 bif (Yi (some (wrap i64 (s4+1))) none (length s0)) then
 bif (Ya s3 (length s2)) then
 (YM3 ((Yl (some (wrap i64 (s4+1))) none s0),(((UInt8.toNat (getD s2 (Int.toNat s3) (0:UInt8))):Nat):Int))).bind fun y0=>
 bif (decide (y0 < 0)) then
 some (-(1:Int))
 else
 Zg5 s0 s1 s2 s3 (wrap i64 (s4+(wrap i64 (y0+1))))
 else
 none
 else
 none
 else
 Zg5 s0 s1 s2 s3 s4
 else
 none
 else
 none
 else
 some (-(1:Int)):=by unfold Zf5; rewrite [Y9]; kernel_rfl
theorem Y2n (x:Int):Yoe x=
 Zh5 x:=by kernel_rfl
theorem YRi (s0:Int):Zh5 s0=
 some (decide (s0 > 8)):=by unfold Zh5; rewrite [Y9]; kernel_rfl
theorem YYm (x:((List Bool)×Int)):Yje x=
 Zi5 x.2 x.1:=by kernel_rfl
theorem YXi (s0:Int) (b1:(List Bool)):Zi5 s0 b1=
 bif (Ya s0 256) then
 some ((getD b1 (Int.toNat s0) (Ty.zero .bool)),b1)
 else
 none:=by unfold Zi5; rewrite [Y9]; kernel_rfl
theorem Yfl (x:Int):YDd x=
 Zj5 x:=by kernel_rfl
theorem Y0j (s0:Int):Zj5 s0=
 bif (decide (s0≥1)) then
 some (decide (s0≤8))
 else
 some false:=by unfold Zj5; rewrite [Y9]; kernel_rfl
theorem Ydl (x:((List Int)×Int)):YN8 x=
 Zk5 x.2 x.1:=by kernel_rfl
theorem Y6j (s0:Int) (r1:List Int):Zk5 s0 r1=
 bif (Ya (shr u8 s0 (4:Int)) (length ([48,49,50,51,52,53,54,55,56,57,65,66,67,68,69,70]:List UInt8))) then
 bif (Ya (bits Go.BinOp.and u8 s0 (15:Int)) (length ([48,49,50,51,52,53,54,55,56,57,65,66,67,68,69,70]:List UInt8))) then
 bif (decide (((length r1)+(length ([(37:Int),(((UInt8.toNat (getD ([48,49,50,51,52,53,54,55,56,57,65,66,67,68,69,70]:List UInt8) (Int.toNat (shr u8 s0 (4:Int))) (0:UInt8))):Nat):Int),(((UInt8.toNat (getD ([48,49,50,51,52,53,54,55,56,57,65,66,67,68,69,70]:List UInt8) (Int.toNat (bits Go.BinOp.and u8 s0 (15:Int))) (0:UInt8))):Nat):Int)]:List Int)))≤(lim))) then
 some (r1++([(37:Int),(((UInt8.toNat (getD ([48,49,50,51,52,53,54,55,56,57,65,66,67,68,69,70]:List UInt8) (Int.toNat (shr u8 s0 (4:Int))) (0:UInt8))):Nat):Int),(((UInt8.toNat (getD ([48,49,50,51,52,53,54,55,56,57,65,66,67,68,69,70]:List UInt8) (Int.toNat (bits Go.BinOp.and u8 s0 (15:Int))) (0:UInt8))):Nat):Int)]:List Int))
 else
 none
 else
 none
 else
 none:=by unfold Zk5; rewrite [Y9]; kernel_rfl
theorem Yfn (x:(List D181)):Yn9 x=
 Zl5 x:=by kernel_rfl
theorem Yaj (s0:(List D181)):Zl5 s0=
 Zm5 s0 s0 (((length s0):Nat):Int) (0:Int):=by unfold Zl5; rewrite [Y9]; kernel_rfl
theorem Yfj (s0:(List D181)) (s1:(List D181)) (s2:Int) (s3:Int):Zm5 s0 s1 s2 s3=
 bif (decide (s3 < s2)) then
 bif (Ya s3 (length s1)) then
 (YJ6 (([]:List Int),(getD s1 (Int.toNat s3) (Ty.zero T181)).2.2.1)).bind fun y0=>
 Zn5 s0 s1 s2 (wrap i64 (s3+1)) y0
 else
 none
 else
 some (Ym ([]:List Int)):=by unfold Zm5; rewrite [Y9]; kernel_rfl
theorem Ync (s0:(List D181)) (s1:(List D181)) (s2:Int) (s3:Int) (r4:List Int):Zn5 s0 s1 s2 s3 r4=
 bif (decide (s3 < s2)) then
 bif (Ya s3 (length s1)) then
 (YJ6 (r4,(getD s1 (Int.toNat s3) (Ty.zero T181)).2.2.1)).bind fun y0=>
 Zn5 s0 s1 s2 (wrap i64 (s3+1)) y0
 else
 none
 else
 some (Ym r4):=by unfold Zn5; rewrite [Y9]; kernel_rfl
theorem Yan (x:List UInt8):Yl9 x=
 Zo5 x:=by kernel_rfl
theorem Ylj (s0:List UInt8):Zo5 s0=
 Zp5 s0 (0:Int) ([]:List D181):=by unfold Zo5; rewrite [Y9]; kernel_rfl
theorem Ytc (s0:List UInt8) (s1:Int) (r2:List D181):Zp5 s0 s1 r2=
 bif (decide (s1 < (((length s0):Nat):Int))) then
 (YN6 (s0,s1)).bind fun y0=>
 bif y0.2.2.2 then
 bif (Yi (some s1) none (length s0)) then
 (Yo9 (Yl (some s1) none s0)).bind fun y1=>
 Zq5 s0 s1 (y0.1,(y1,y0.2.2)) r2
 else
 none
 else
 Zq5 s0 s1 y0 r2
 else
 some r2:=by unfold Zp5; rewrite [Y9]; kernel_rfl
theorem Ytj (s0:List UInt8) (s1:Int) (b2:D181) (r3:List D181):Zq5 s0 s1 b2 r3=
 bif (decide (((length r3)+(length ([b2]:List D181)))≤(lim))) then
 Zp5 s0 (wrap i64 (s1+b2.2.1)) (r3++([b2]:List D181))
 else
 none:=by unfold Zq5; rewrite [Y9]; kernel_rfl
theorem Yhl (x:(List UInt8×Int)):YO8 x=
 Zr5 x.1 x.2:=by kernel_rfl
theorem Yyj (s0:List UInt8) (s1:Int):Zr5 s0 s1=
 bif (decide ((wrap i64 (s1+2))≥(((length s0):Nat):Int))) then
 some (-(1:Int))
 else
 bif (Ya s1 (length s0)) then
 bif ((((UInt8.toNat (getD s0 (Int.toNat s1) (0:UInt8))):Nat):Int) !=37) then
 some (-(1:Int))
 else
 bif (Ya (wrap i64 (s1+1)) (length s0)) then
 bif (Ya (wrap i64 (s1+2)) (length s0)) then
 (Yg6 (((UInt8.toNat (getD s0 (Int.toNat (wrap i64 (s1+1))) (0:UInt8))):Nat):Int)).bind fun y0=>
 (Yg6 (((UInt8.toNat (getD s0 (Int.toNat (wrap i64 (s1+2))) (0:UInt8))):Nat):Int)).bind fun y1=>
 bif (decide (y0 < 0)) then
 some (-(1:Int))
 else
 bif (decide (y1 < 0)) then
 some (-(1:Int))
 else
 some (bits Go.BinOp.or i64 (shl i64 y0 (4:Int)) y1)
 else
 none
 else
 none
 else
 none:=by unfold Zr5; rewrite [Y9]; kernel_rfl
theorem Y5n (x:List UInt8):Yqe x=YV4 x:=by kernel_rfl
theorem YEk (x:Int):Yld x=
 Zs5 x:=by kernel_rfl
theorem YEj (s0:Int):Zs5 s0=
 some (decide (s0 > 127)):=by unfold Zs5; rewrite [Y9]; kernel_rfl
theorem Yll (x:List UInt8):YQ8 x=
 Zt5 x:=by kernel_rfl
theorem YJj (s0:List UInt8):Zt5 s0=
 (YL6 s0).bind fun y0=>
 bif (!y0.1) then
 some (([]:List UInt8),(21:Int))
 else
 bif (decide ((((length s0):Nat):Int) > 65536)) then
 some (([]:List UInt8),(5:Int))
 else
 bif (decide ((length s0)≤(lim))) then
 Zu5 s0 (((length (YE s0)):Nat):Int) (0:Int) (YE s0) ([]:List Int)
 else
 none:=by unfold Zt5; rewrite [Y9]; kernel_rfl
theorem YCc (s0:List UInt8) (s1:Int) (s2:Int) (r3:List Int) (r4:List Int):Zu5 s0 s1 s2 r3 r4=
 bif (decide (s2 < s1)) then
 bif (Ya s2 (length r3)) then
 bif (decide ((getD r3 (Int.toNat s2) (Ty.zero (.int .i32))) < 128)) then
 bif (decide (((length r4)+(length ([(wrap u8 (getD r3 (Int.toNat s2) (Ty.zero (.int .i32))))]:List Int)))≤(lim))) then
 Zu5 s0 s1 (wrap i64 (s2+1)) r3 (r4++([(wrap u8 (getD r3 (Int.toNat s2) (Ty.zero (.int .i32))))]:List Int))
 else
 none
 else
 Zu5 s0 s1 (wrap i64 (s2+1)) r3 r4
 else
 none
 else
 bif (decide ((((length r4):Nat):Int) > 0)) then
 bif (decide (((length r4)+(length ([45]:List Int)))≤(lim))) then
 Zv5 s0 (((length r4):Nat):Int) (((length r4):Nat):Int) r3 (r4++([45]:List Int))
 else
 none
 else
 Zv5 s0 (((length r4):Nat):Int) (((length r4):Nat):Int) r3 r4:=by unfold Zu5; rewrite [Y9]; kernel_rfl
theorem YQj (s0:List UInt8) (s1:Int) (s2:Int) (r3:List Int) (r4:List Int):Zv5 s0 s1 s2 r3 r4=
 Zw5 s0 s1 s2 (128:Int) (72:Int) (0:Int) r3 r4:=by unfold Zv5; rewrite [Y9]; kernel_rfl
theorem YGc (s0:List UInt8) (s1:Int) (s2:Int) (s3:Int) (s4:Int) (s5:Int) (r6:List Int) (r7:List Int):Zw5 s0 s1 s2 s3 s4 s5 r6 r7=
 bif (decide (s1 < (((length r6):Nat):Int))) then
 Zx5 s0 s1 s2 s3 s4 s5 (1114112:Int) (((length r6):Nat):Int) (0:Int) r6 r7
 else
 (Yj6 (Ym r7)).bind fun y0=>
 bif (y0.2.1==32) then
 some (([]:List UInt8),y0.2.1)
 else
 some ((Ym r7),(0:Int)):=by unfold Zw5; rewrite [Y9]; kernel_rfl
theorem YMc (s0:List UInt8) (s1:Int) (s2:Int) (s3:Int) (s4:Int) (s5:Int) (s6:Int) (s7:Int) (s8:Int) (r9:List Int) (r10:List Int):Zx5 s0 s1 s2 s3 s4 s5 s6 s7 s8 r9 r10=
 bif (decide (s8 < s7)) then
 bif (Ya s8 (length r9)) then
 bif (decide ((getD r9 (Int.toNat s8) (Ty.zero (.int .i32)))≥s3)) then
 bif (decide ((getD r9 (Int.toNat s8) (Ty.zero (.int .i32))) < s6)) then
 Zx5 s0 s1 s2 s3 s4 s5 (getD r9 (Int.toNat s8) (Ty.zero (.int .i32))) s7 (wrap i64 (s8+1)) r9 r10
 else
 Zx5 s0 s1 s2 s3 s4 s5 s6 s7 (wrap i64 (s8+1)) r9 r10
 else
 Zx5 s0 s1 s2 s3 s4 s5 s6 s7 (wrap i64 (s8+1)) r9 r10
 else
 none
 else
 Zy5 s0 s1 s2 s6 s4 (wrap i64 (s5+(wrap i64 ((wrap i64 (wrap i32 (s6 - s3)))*(wrap i64 (s1+1)))))) (((length r9):Nat):Int) (0:Int) r9 r10:=by unfold Zx5; rewrite [Y9]; kernel_rfl
theorem YPc (s0:List UInt8) (s1:Int) (s2:Int) (s3:Int) (s4:Int) (s5:Int) (s6:Int) (s7:Int) (r8:List Int) (r9:List Int):Zy5 s0 s1 s2 s3 s4 s5 s6 s7 r8 r9=
 bif (decide (s7 < s6)) then
 bif (Ya s7 (length r8)) then
 bif (decide ((getD r8 (Int.toNat s7) (Ty.zero (.int .i32))) < s3)) then
 Zz5 s0 s1 s2 s3 s4 (wrap i64 (s5+1)) (getD r8 (Int.toNat s7) (Ty.zero (.int .i32))) s6 s7 r8 r9
 else
 Zz5 s0 s1 s2 s3 s4 s5 (getD r8 (Int.toNat s7) (Ty.zero (.int .i32))) s6 s7 r8 r9
 else
 none
 else
 Zw5 s0 s1 s2 (wrap i32 (s3+1)) s4 (wrap i64 (s5+1)) r8 r9:=by unfold Zy5; rewrite [Y9]; kernel_rfl
theorem YSc (s0:List UInt8) (s1:Int) (s2:Int) (s3:Int) (s4:Int) (s5:Int) (s6:Int) (s7:Int) (s8:Int) (r9:List Int) (r10:List Int):Zz5 s0 s1 s2 s3 s4 s5 s6 s7 s8 r9 r10=
 bif (s6==s3) then
 (YR8 (r10,(s5,s4))).bind fun y0=>
 (Y95 (s5,((wrap i64 (s1+1)),(s1==s2)))).bind fun y1=>
 Zy5 s0 (wrap i64 (s1+1)) s2 s3 y1 (0:Int) s7 (wrap i64 (s8+1)) r9 y0
 else
 Zy5 s0 s1 s2 s3 s4 s5 s7 (wrap i64 (s8+1)) r9 r10:=by unfold Zz5; rewrite [Y9]; kernel_rfl
theorem Y1n (x:(List UInt8×(Unit×Bool))):Yke x=
 Z06 x.1 x.2.1 x.2.2:=by kernel_rfl
theorem YHh (s0:List UInt8) (s1:Unit) (s2:Bool):Z06 s0 s1 s2=
 Z16 s0 s1 s2 s0 0:=by unfold Z06; rewrite [Y9]; kernel_rfl
theorem YAb (s0:List UInt8) (s1:Unit) (s2:Bool) (t3:List UInt8) (n4:Nat):Z16 s0 s1 s2 t3 n4=
 bif (decide (n4 < (length t3))) then
 (Yld (((Yx t3 n4).1:Nat):Int)).bind fun y0=>
 bif (y0==s2) then
 some ((n4:Nat):Int)
 else
 Z16 s0 s1 s2 t3 (n4+(Yx t3 n4).2)
 else
 some (-(1:Int)):=by unfold Z16; rewrite [Y9]; kernel_rfl
theorem Y0n (x:(List UInt8×(Unit×Bool))):Yme x=
 Z26 x.1 x.2.1 x.2.2:=by kernel_rfl
theorem YRh (s0:List UInt8) (s1:Unit) (s2:Bool):Z26 s0 s1 s2=
 Z36 s0 s1 s2 s0 0:=by unfold Z26; rewrite [Y9]; kernel_rfl
theorem YDb (s0:List UInt8) (s1:Unit) (s2:Bool) (t3:List UInt8) (n4:Nat):Z36 s0 s1 s2 t3 n4=
 bif (decide (n4 < (length t3))) then
 (YId (((Yx t3 n4).1:Nat):Int)).bind fun y0=>
 bif (y0==s2) then
 some ((n4:Nat):Int)
 else
 Z36 s0 s1 s2 t3 (n4+(Yx t3 n4).2)
 else
 some (-(1:Int)):=by unfold Z36; rewrite [Y9]; kernel_rfl
theorem YZm (x:(List UInt8×(Unit×Bool))):Yle x=
 Z46 x.1 x.2.1 x.2.2:=by kernel_rfl
theorem Y1i (s0:List UInt8) (s1:Unit) (s2:Bool):Z46 s0 s1 s2=
 Z56 s0 s1 s2 s0 0:=by unfold Z46; rewrite [Y9]; kernel_rfl
theorem YHb (s0:List UInt8) (s1:Unit) (s2:Bool) (t3:List UInt8) (n4:Nat):Z56 s0 s1 s2 t3 n4=
 bif (decide (n4 < (length t3))) then
 (Yb6 (((Yx t3 n4).1:Nat):Int)).bind fun y0=>
 bif (y0==s2) then
 some ((n4:Nat):Int)
 else
 Z56 s0 s1 s2 t3 (n4+(Yx t3 n4).2)
 else
 some (-(1:Int)):=by unfold Z56; rewrite [Y9]; kernel_rfl
theorem YWk (x:(List UInt8×List UInt8)):Yud x=
 Z66 x.1 x.2:=by kernel_rfl
theorem Y9i (s0:List UInt8) (s1:List UInt8):Z66 s0 s1=
 bif (decide ((((length s0):Nat):Int)≥(((length s1):Nat):Int))) then
 bif (Yi (some (wrap i64 ((((length s0):Nat):Int) - (((length s1):Nat):Int)))) none (length s0)) then
 some ((Yl (some (wrap i64 ((((length s0):Nat):Int) - (((length s1):Nat):Int)))) none s0)==s1)
 else
 none
 else
 some false:=by unfold Z66; rewrite [Y9]; kernel_rfl
theorem Ysl (x:List UInt8):Yj6 x=
 Z76 x:=by kernel_rfl
theorem Yfi (s0:List UInt8):Z76 s0=
 Z86 s0 (((length s0):Nat):Int) (0:Int):=by unfold Z76; rewrite [Y9]; kernel_rfl
theorem YNb (s0:List UInt8) (s1:Int) (s2:Int):Z86 s0 s1 s2=
 bif (decide (s2 < s1)) then
 bif (Ya s2 (length s0)) then
 bif (decide ((((UInt8.toNat (getD s0 (Int.toNat s2) (0:UInt8))):Nat):Int) > 127)) then
 some (([]:List UInt8),((31:Int),s2))
 else
 Z86 s0 s1 (wrap i64 (s2+1))
 else
 none
 else
 (Yj9 (s0,(45:Int))).bind fun y0=>
 bif (decide ((wrap i64 (y0+1)) > 0)) then
 bif (Yi none (some (wrap i64 ((wrap i64 (y0+1)) - 1))) (length s0)) then
 bif (decide ((length (Yl none (some (wrap i64 ((wrap i64 (y0+1)) - 1))) s0))≤(lim))) then
 Z96 s0 (wrap i64 (y0+1)) (YE (Yl none (some (wrap i64 ((wrap i64 (y0+1)) - 1))) s0))
 else
 none
 else
 none
 else
 Za6 s0 (wrap i64 (y0+1)):=by unfold Z86; rewrite [Y9]; kernel_rfl
theorem Yni (s0:List UInt8) (s1:Int) (r2:List Int):Z96 s0 s1 r2=
 Zb6 s0 s1 (((length r2):Nat):Int) (0:Int) (128:Int) (72:Int) r2:=by unfold Z96; rewrite [Y9]; kernel_rfl
theorem Yui (s0:List UInt8) (s1:Int):Za6 s0 s1=
 Zc6 s0 s1 ((0:Nat):Int) (0:Int) (128:Int) (72:Int):=by unfold Za6; rewrite [Y9]; kernel_rfl
theorem Y16 (s0:List UInt8) (s1:Int) (s2:Int) (s3:Int) (s4:Int) (s5:Int) (r6:List Int):Zb6 s0 s1 s2 s3 s4 s5 r6=
 bif (decide (s1 < (((length s0):Nat):Int))) then
 (Yk6 (s0,(s1,(s3,s5)))).bind fun y0=>
 bif (y0.2.2.1 !=0) then
 some (([]:List UInt8),(y0.2.2.1,y0.2.2.2))
 else
 (Y95 ((wrap i64 (y0.1 - s3)),((wrap i64 ((((length r6):Nat):Int)+1)),((((length r6):Nat):Int)==s2)))).bind fun y1=>
 bif ((wrap i64 ((((length r6):Nat):Int)+1)) !=0) then
 bif (decide ((wrap i64 (s4+(wrap i64 (Int.tdiv y0.1 (wrap i64 ((((length r6):Nat):Int)+1)))))) > 1114111)) then
 some (([]:List UInt8),((32:Int),s1))
 else
 bif (decide ((wrap i64 (s4+(wrap i64 (Int.tdiv y0.1 (wrap i64 ((((length r6):Nat):Int)+1))))))≥55296)) then
 bif (decide ((wrap i64 (s4+(wrap i64 (Int.tdiv y0.1 (wrap i64 ((((length r6):Nat):Int)+1))))))≤57343)) then
 some (([]:List UInt8),((32:Int),s1))
 else
 bif ((wrap i64 ((((length r6):Nat):Int)+1)) !=0) then
 (YK3 (r6,((Int.tmod y0.1 (wrap i64 ((((length r6):Nat):Int)+1))),([(wrap i32 (wrap i64 (s4+(wrap i64 (Int.tdiv y0.1 (wrap i64 ((((length r6):Nat):Int)+1)))))))]:List Int)))).bind fun y2=>
 Zb6 s0 y0.2.1 s2 (wrap i64 ((Int.tmod y0.1 (wrap i64 ((((length r6):Nat):Int)+1)))+1)) (wrap i64 (s4+(wrap i64 (Int.tdiv y0.1 (wrap i64 ((((length r6):Nat):Int)+1)))))) y1 y2
 else
 none
 else
 bif ((wrap i64 ((((length r6):Nat):Int)+1)) !=0) then
 (YK3 (r6,((Int.tmod y0.1 (wrap i64 ((((length r6):Nat):Int)+1))),([(wrap i32 (wrap i64 (s4+(wrap i64 (Int.tdiv y0.1 (wrap i64 ((((length r6):Nat):Int)+1)))))))]:List Int)))).bind fun y2=>
 Zb6 s0 y0.2.1 s2 (wrap i64 ((Int.tmod y0.1 (wrap i64 ((((length r6):Nat):Int)+1)))+1)) (wrap i64 (s4+(wrap i64 (Int.tdiv y0.1 (wrap i64 ((((length r6):Nat):Int)+1)))))) y1 y2
 else
 none
 else
 none
 else
 some ((YD2 r6),((0:Int),(0:Int))):=by unfold Zb6; rewrite [Y9]; kernel_rfl
theorem YDi (s0:List UInt8) (s1:Int) (s2:Int) (s3:Int) (s4:Int) (s5:Int):Zc6 s0 s1 s2 s3 s4 s5=
 bif (decide (s1 < (((length s0):Nat):Int))) then
 (Yk6 (s0,(s1,(s3,s5)))).bind fun y0=>
 bif (y0.2.2.1 !=0) then
 some (([]:List UInt8),(y0.2.2.1,y0.2.2.2))
 else
 (Y95 ((wrap i64 (y0.1 - s3)),((wrap i64 (((0:Nat):Int)+1)),(((0:Nat):Int)==s2)))).bind fun y1=>
 bif (decide ((wrap i64 (s4+(wrap i64 (Int.tdiv y0.1 (wrap i64 (((0:Nat):Int)+1)))))) > 1114111)) then
 some (([]:List UInt8),((32:Int),s1))
 else
 bif (decide ((wrap i64 (s4+(wrap i64 (Int.tdiv y0.1 (wrap i64 (((0:Nat):Int)+1))))))≥55296)) then
 bif (decide ((wrap i64 (s4+(wrap i64 (Int.tdiv y0.1 (wrap i64 (((0:Nat):Int)+1))))))≤57343)) then
 some (([]:List UInt8),((32:Int),s1))
 else
 (YK3 (([]:List Int),((Int.tmod y0.1 (wrap i64 (((0:Nat):Int)+1))),([(wrap i32 (wrap i64 (s4+(wrap i64 (Int.tdiv y0.1 (wrap i64 (((0:Nat):Int)+1)))))))]:List Int)))).bind fun y2=>
 Zb6 s0 y0.2.1 s2 (wrap i64 ((Int.tmod y0.1 (wrap i64 (((0:Nat):Int)+1)))+1)) (wrap i64 (s4+(wrap i64 (Int.tdiv y0.1 (wrap i64 (((0:Nat):Int)+1)))))) y1 y2
 else
 (YK3 (([]:List Int),((Int.tmod y0.1 (wrap i64 (((0:Nat):Int)+1))),([(wrap i32 (wrap i64 (s4+(wrap i64 (Int.tdiv y0.1 (wrap i64 (((0:Nat):Int)+1)))))))]:List Int)))).bind fun y2=>
 Zb6 s0 y0.2.1 s2 (wrap i64 ((Int.tmod y0.1 (wrap i64 (((0:Nat):Int)+1)))+1)) (wrap i64 (s4+(wrap i64 (Int.tdiv y0.1 (wrap i64 (((0:Nat):Int)+1)))))) y1 y2
 else
 some ((YD2 ([]:List Int)),((0:Int),(0:Int))):=by unfold Zc6; rewrite [Y9]; kernel_rfl
theorem Yql (x:Int):YId x=
 Zd6 x:=by kernel_rfl
theorem YFi (s0:Int):Zd6 s0=
 some (decide (s0 > 127)):=by unfold Zd6; rewrite [Y9]; kernel_rfl
theorem Y6n (x:Int):YK6 x=
 Ze6 x:=by kernel_rfl
theorem YHi (s0:Int):Ze6 s0=
 bif (decide ((0:Int)≤s0)) then
 bif (decide (s0 < 55296)) then
 some true
 else
 bif (decide ((57343:Int) < s0)) then
 bif (decide (s0≤1114111)) then
 some true
 else
 some false
 else
 some false
 else
 bif (decide ((57343:Int) < s0)) then
 bif (decide (s0≤1114111)) then
 some true
 else
 some false
 else
 some false:=by unfold Ze6; rewrite [Y9]; kernel_rfl
theorem Y3n (x:((List Int)×Int)):YJ6 x=
 Zf6 x.2 x.1:=by kernel_rfl
theorem YKi (s0:Int) (r1:List Int):Zf6 s0 r1=
 bif (decide ((wrap u32 s0)≤127)) then
 bif (decide (((length r1)+(length ([(wrap u8 s0)]:List Int)))≤(lim))) then
 some (r1++([(wrap u8 s0)]:List Int))
 else
 none
 else
 (Yre (r1,s0)).bind fun y0=>
 some y0:=by unfold Zf6; rewrite [Y9]; kernel_rfl
theorem Yhn (x:List UInt8):Yo9 x=
 Zg6 x:=by kernel_rfl
theorem YOi (s0:List UInt8):Zg6 s0=
 bif (Ya (0:Int) (length s0)) then
 (Ym9 (((UInt8.toNat (getD s0 (Int.toNat (0:Int)) (0:UInt8))):Nat):Int)).bind fun y0=>
 Zh6 s0 y0.1 y0.2.1 y0.2.2 (1:Int)
 else
 none:=by unfold Zg6; rewrite [Y9]; kernel_rfl
theorem Yac (s0:List UInt8) (s1:Int) (s2:Int) (s3:Int) (s4:Int):Zh6 s0 s1 s2 s3 s4=
 bif (decide (s4 < (wrap i64 (s3 - 1)))) then
 bif (decide (s4 < (((length s0):Nat):Int))) then
 bif (Ya s4 (length s0)) then
 bif (decide ((((UInt8.toNat (getD s0 (Int.toNat s4) (0:UInt8))):Nat):Int)≥s1)) then
 bif (Ya s4 (length s0)) then
 bif (decide ((((UInt8.toNat (getD s0 (Int.toNat s4) (0:UInt8))):Nat):Int)≤s2)) then
 Zh6 s0 (128:Int) (191:Int) s3 (wrap i64 (s4+1))
 else
 some s4
 else
 none
 else
 some s4
 else
 none
 else
 some s4
 else
 some s4:=by unfold Zh6; rewrite [Y9]; kernel_rfl
theorem Ygl (x:Int):Yg6 x=
 Zi6 x:=by kernel_rfl
theorem YYi (s0:Int):Zi6 s0=
 (YM3 (([48,49,50,51,52,53,54,55,56,57,65,66,67,68,69,70]:List UInt8),s0)).bind fun y0=>
 bif (decide (y0≥0)) then
 some y0
 else
 bif (decide (s0≥97)) then
 bif (decide (s0≤102)) then
 some (wrap i64 ((wrap i64 (wrap u8 (s0 - 97)))+10))
 else
 some (-(1:Int))
 else
 some (-(1:Int)):=by unfold Zi6; rewrite [Y9]; kernel_rfl
theorem Ytl (x:((List Int)×(Int×Int))):YR8 x=
 Zj6 x.2.1 x.2.2 x.1:=by kernel_rfl
theorem Y1j (s0:Int) (s1:Int) (r2:List Int):Zj6 s0 s1 r2=
 Zk6 s0 s1 (36:Int) r2:=by unfold Zj6; rewrite [Y9]; kernel_rfl
theorem Yfc (s0:Int) (s1:Int) (s2:Int) (r3:List Int):Zk6 s0 s1 s2 r3=
 (Yl6 (s2,s1)).bind fun y0=>
 bif (decide (s0 < y0)) then
 bif (Ya s0 (length ([97,98,99,100,101,102,103,104,105,106,107,108,109,110,111,112,113,114,115,116,117,118,119,120,121,122,48,49,50,51,52,53,54,55,56,57]:List UInt8))) then
 bif (decide (((length r3)+(length ([(((UInt8.toNat (getD ([97,98,99,100,101,102,103,104,105,106,107,108,109,110,111,112,113,114,115,116,117,118,119,120,121,122,48,49,50,51,52,53,54,55,56,57]:List UInt8) (Int.toNat s0) (0:UInt8))):Nat):Int)]:List Int)))≤(lim))) then
 some (r3++([(((UInt8.toNat (getD ([97,98,99,100,101,102,103,104,105,106,107,108,109,110,111,112,113,114,115,116,117,118,119,120,121,122,48,49,50,51,52,53,54,55,56,57]:List UInt8) (Int.toNat s0) (0:UInt8))):Nat):Int)]:List Int))
 else
 none
 else
 none
 else
 bif ((wrap i64 ((36:Int) - y0)) !=0) then
 bif (Ya (wrap i64 (y0+(Int.tmod (wrap i64 (s0 - y0)) (wrap i64 ((36:Int) - y0))))) (length ([97,98,99,100,101,102,103,104,105,106,107,108,109,110,111,112,113,114,115,116,117,118,119,120,121,122,48,49,50,51,52,53,54,55,56,57]:List UInt8))) then
 bif (decide (((length r3)+(length ([(((UInt8.toNat (getD ([97,98,99,100,101,102,103,104,105,106,107,108,109,110,111,112,113,114,115,116,117,118,119,120,121,122,48,49,50,51,52,53,54,55,56,57]:List UInt8) (Int.toNat (wrap i64 (y0+(Int.tmod (wrap i64 (s0 - y0)) (wrap i64 ((36:Int) - y0)))))) (0:UInt8))):Nat):Int)]:List Int)))≤(lim))) then
 bif ((wrap i64 ((36:Int) - y0)) !=0) then
 Zk6 (wrap i64 (Int.tdiv (wrap i64 (s0 - y0)) (wrap i64 ((36:Int) - y0)))) s1 (wrap i64 (s2+36)) (r3++([(((UInt8.toNat (getD ([97,98,99,100,101,102,103,104,105,106,107,108,109,110,111,112,113,114,115,116,117,118,119,120,121,122,48,49,50,51,52,53,54,55,56,57]:List UInt8) (Int.toNat (wrap i64 (y0+(Int.tmod (wrap i64 (s0 - y0)) (wrap i64 ((36:Int) - y0)))))) (0:UInt8))):Nat):Int)]:List Int))
 else
 none
 else
 none
 else
 none
 else
 none:=by unfold Zk6; rewrite [Y9]; kernel_rfl
theorem Ypl (x:(Int×(Int×Bool))):Y95 x=
 Zl6 x.1 x.2.1 x.2.2:=by kernel_rfl
theorem Ybj (s0:Int) (s1:Int) (s2:Bool):Zl6 s0 s1 s2=
 bif s2 then
 Zm6 (wrap i64 (Int.tdiv s0 (700:Int))) s1 s2
 else
 Zm6 (wrap i64 (Int.tdiv s0 (2:Int))) s1 s2:=by unfold Zl6; rewrite [Y9]; kernel_rfl
theorem Ygj (s0:Int) (s1:Int) (s2:Bool):Zm6 s0 s1 s2=
 bif (s1 !=0) then
 Zn6 (wrap i64 (s0+(wrap i64 (Int.tdiv s0 s1)))) s1 s2 (0:Int)
 else
 none:=by unfold Zm6; rewrite [Y9]; kernel_rfl
theorem Yoc (s0:Int) (s1:Int) (s2:Bool) (s3:Int):Zn6 s0 s1 s2 s3=
 bif (decide (s0 > 455)) then
 Zn6 (wrap i64 (Int.tdiv s0 (35:Int))) s1 s2 (wrap i64 (s3+36))
 else
 bif ((wrap i64 (s0+38)) !=0) then
 some (wrap i64 (s3+(wrap i64 (Int.tdiv (wrap i64 ((36:Int)*s0)) (wrap i64 (s0+38))))))
 else
 none:=by unfold Zn6; rewrite [Y9]; kernel_rfl
theorem YWm (x:(List UInt8×Int)):Yj9 x=
 Zo6 x.1 x.2:=by kernel_rfl
theorem Ymj (s0:List UInt8) (s1:Int):Zo6 s0 s1=
 (Yrd (s0,s1)).bind fun y0=>
 some y0:=by unfold Zo6; rewrite [Y9]; kernel_rfl
theorem Yvl (x:(List UInt8×(Int×(Int×Int)))):Yk6 x=
 Zp6 x.1 x.2.1 x.2.2.1 x.2.2.2:=by kernel_rfl
theorem Yoj (s0:List UInt8) (s1:Int) (s2:Int) (s3:Int):Zp6 s0 s1 s2 s3=
 Zq6 s0 s1 s2 s3 s1 (1:Int) (36:Int):=by unfold Zp6; rewrite [Y9]; kernel_rfl
theorem Yvc (s0:List UInt8) (s1:Int) (s2:Int) (s3:Int) (s4:Int) (s5:Int) (s6:Int):Zq6 s0 s1 s2 s3 s4 s5 s6=
 bif (s1==(((length s0):Nat):Int)) then
 some ((0:Int),((0:Int),((31:Int),s1)))
 else
 bif (Ya s1 (length s0)) then
 (YM3 (([97,98,99,100,101,102,103,104,105,106,107,108,109,110,111,112,113,114,115,116,117,118,119,120,121,122,48,49,50,51,52,53,54,55,56,57]:List UInt8),(((UInt8.toNat (getD s0 (Int.toNat s1) (0:UInt8))):Nat):Int))).bind fun y0=>
 bif (Ya s1 (length s0)) then
 bif (decide (y0 < 0)) then
 bif (decide ((bits Go.BinOp.or u8 (((UInt8.toNat (getD s0 (Int.toNat s1) (0:UInt8))):Nat):Int) (32:Int))≥97)) then
 bif (decide ((bits Go.BinOp.or u8 (((UInt8.toNat (getD s0 (Int.toNat s1) (0:UInt8))):Nat):Int) (32:Int))≤122)) then
 Zr6 s0 s1 s2 s3 s4 s5 s6 (wrap i64 (wrap u8 ((bits Go.BinOp.or u8 (((UInt8.toNat (getD s0 (Int.toNat s1) (0:UInt8))):Nat):Int) (32:Int)) - 97)))
 else
 Zr6 s0 s1 s2 s3 s4 s5 s6 y0
 else
 Zr6 s0 s1 s2 s3 s4 s5 s6 y0
 else
 Zr6 s0 s1 s2 s3 s4 s5 s6 y0
 else
 none
 else
 none:=by unfold Zq6; rewrite [Y9]; kernel_rfl
theorem Yzj (s0:List UInt8) (s1:Int) (s2:Int) (s3:Int) (s4:Int) (s5:Int) (s6:Int) (s7:Int):Zr6 s0 s1 s2 s3 s4 s5 s6 s7=
 bif (decide (s7 < 0)) then
 some ((0:Int),((0:Int),((31:Int),s1)))
 else
 bif (decide ((wrap i64 (s2+(wrap i64 (s7*s5)))) > 2147483647)) then
 some ((0:Int),((0:Int),((32:Int),s4)))
 else
 (Yl6 (s6,s3)).bind fun y0=>
 bif (decide (s7 < y0)) then
 some ((wrap i64 (s2+(wrap i64 (s7*s5)))),((wrap i64 (s1+1)),((0:Int),(0:Int))))
 else
 bif (decide ((wrap i64 (s5*(wrap i64 ((36:Int) - y0)))) > 2147483647)) then
 some ((0:Int),((0:Int),((32:Int),s4)))
 else
 Zq6 s0 (wrap i64 (s1+1)) (wrap i64 (s2+(wrap i64 (s7*s5)))) s3 s4 (wrap i64 (s5*(wrap i64 ((36:Int) - y0)))) (wrap i64 (s6+36)):=by unfold Zr6; rewrite [Y9]; kernel_rfl
theorem YKm (x:((List Int)×(Int×(List Int)))):YK3 x=Y34 x:=by kernel_rfl
theorem Y7n (x:((List Int)×Int)):Yre x=
 Zs6 x.2 x.1:=by kernel_rfl
theorem YFj (s0:Int) (r1:List Int):Zs6 s0 r1=
 bif (decide ((wrap u32 s0)≤2047)) then
 bif (decide (((length r1)+(length ([(bits Go.BinOp.or u8 (192:Int) (wrap u8 (shr i32 s0 (6:Int)))),(bits Go.BinOp.or u8 (128:Int) (bits Go.BinOp.and u8 (wrap u8 s0) (63:Int)))]:List Int)))≤(lim))) then
 some (r1++([(bits Go.BinOp.or u8 (192:Int) (wrap u8 (shr i32 s0 (6:Int)))),(bits Go.BinOp.or u8 (128:Int) (bits Go.BinOp.and u8 (wrap u8 s0) (63:Int)))]:List Int))
 else
 none
 else
 bif (decide ((wrap u32 s0) < 55296)) then
 Zt6 s0 (wrap u32 s0) (decide ((wrap u32 s0) < 55296)) r1
 else
 bif (decide ((57343:Int) < (wrap u32 s0))) then
 Zt6 s0 (wrap u32 s0) (decide ((wrap u32 s0)≤65535)) r1
 else
 Zt6 s0 (wrap u32 s0) false r1:=by unfold Zs6; rewrite [Y9]; kernel_rfl
theorem Yzc (s0:Int) (s1:Int) (s2:Bool) (r3:List Int):Zt6 s0 s1 s2 r3=
 bif s2 then
 bif (decide (((length r3)+(length ([(bits Go.BinOp.or u8 (224:Int) (wrap u8 (shr i32 s0 (12:Int)))),(bits Go.BinOp.or u8 (128:Int) (bits Go.BinOp.and u8 (wrap u8 (shr i32 s0 (6:Int))) (63:Int))),(bits Go.BinOp.or u8 (128:Int) (bits Go.BinOp.and u8 (wrap u8 s0) (63:Int)))]:List Int)))≤(lim))) then
 some (r3++([(bits Go.BinOp.or u8 (224:Int) (wrap u8 (shr i32 s0 (12:Int)))),(bits Go.BinOp.or u8 (128:Int) (bits Go.BinOp.and u8 (wrap u8 (shr i32 s0 (6:Int))) (63:Int))),(bits Go.BinOp.or u8 (128:Int) (bits Go.BinOp.and u8 (wrap u8 s0) (63:Int)))]:List Int))
 else
 none
 else
 bif (decide (s1 > 65535)) then
 bif (decide (s1≤1114111)) then
 bif (decide (((length r3)+(length ([(bits Go.BinOp.or u8 (240:Int) (wrap u8 (shr i32 s0 (18:Int)))),(bits Go.BinOp.or u8 (128:Int) (bits Go.BinOp.and u8 (wrap u8 (shr i32 s0 (12:Int))) (63:Int))),(bits Go.BinOp.or u8 (128:Int) (bits Go.BinOp.and u8 (wrap u8 (shr i32 s0 (6:Int))) (63:Int))),(bits Go.BinOp.or u8 (128:Int) (bits Go.BinOp.and u8 (wrap u8 s0) (63:Int)))]:List Int)))≤(lim))) then
 some (r3++([(bits Go.BinOp.or u8 (240:Int) (wrap u8 (shr i32 s0 (18:Int)))),(bits Go.BinOp.or u8 (128:Int) (bits Go.BinOp.and u8 (wrap u8 (shr i32 s0 (12:Int))) (63:Int))),(bits Go.BinOp.or u8 (128:Int) (bits Go.BinOp.and u8 (wrap u8 (shr i32 s0 (6:Int))) (63:Int))),(bits Go.BinOp.or u8 (128:Int) (bits Go.BinOp.and u8 (wrap u8 s0) (63:Int)))]:List Int))
 else
 none
 else
 bif (decide (((length r3)+(length ([239,191,189]:List Int)))≤(lim))) then
 some (r3++([239,191,189]:List Int))
 else
 none
 else
 bif (decide (((length r3)+(length ([239,191,189]:List Int)))≤(lim))) then
 some (r3++([239,191,189]:List Int))
 else
 none:=by unfold Zt6; rewrite [Y9]; kernel_rfl
theorem Ydn (x:Int):Ym9 x=
 Zu6 x:=by kernel_rfl
theorem YMj (s0:Int):Zu6 s0=
 bif (decide (s0≥194)) then
 bif (decide (s0≤223)) then
 some ((128:Int),((191:Int),(2:Int)))
 else
 bif (s0==224) then
 some ((160:Int),((191:Int),(3:Int)))
 else
 bif (s0==237) then
 some ((128:Int),((159:Int),(3:Int)))
 else
 bif (decide (s0≥225)) then
 bif (decide (s0≤239)) then
 some ((128:Int),((191:Int),(3:Int)))
 else
 bif (s0==240) then
 some ((144:Int),((191:Int),(4:Int)))
 else
 bif (decide (s0≥241)) then
 bif (decide (s0≤243)) then
 some ((128:Int),((191:Int),(4:Int)))
 else
 bif (s0==244) then
 some ((128:Int),((143:Int),(4:Int)))
 else
 some ((0:Int),((0:Int),(0:Int)))
 else
 bif (s0==244) then
 some ((128:Int),((143:Int),(4:Int)))
 else
 some ((0:Int),((0:Int),(0:Int)))
 else
 bif (s0==240) then
 some ((144:Int),((191:Int),(4:Int)))
 else
 bif (decide (s0≥241)) then
 bif (decide (s0≤243)) then
 some ((128:Int),((191:Int),(4:Int)))
 else
 bif (s0==244) then
 some ((128:Int),((143:Int),(4:Int)))
 else
 some ((0:Int),((0:Int),(0:Int)))
 else
 bif (s0==244) then
 some ((128:Int),((143:Int),(4:Int)))
 else
 some ((0:Int),((0:Int),(0:Int)))
 else
 bif (s0==224) then
 some ((160:Int),((191:Int),(3:Int)))
 else
 bif (s0==237) then
 some ((128:Int),((159:Int),(3:Int)))
 else
 bif (decide (s0≥225)) then
 bif (decide (s0≤239)) then
 some ((128:Int),((191:Int),(3:Int)))
 else
 bif (s0==240) then
 some ((144:Int),((191:Int),(4:Int)))
 else
 bif (decide (s0≥241)) then
 bif (decide (s0≤243)) then
 some ((128:Int),((191:Int),(4:Int)))
 else
 bif (s0==244) then
 some ((128:Int),((143:Int),(4:Int)))
 else
 some ((0:Int),((0:Int),(0:Int)))
 else
 bif (s0==244) then
 some ((128:Int),((143:Int),(4:Int)))
 else
 some ((0:Int),((0:Int),(0:Int)))
 else
 bif (s0==240) then
 some ((144:Int),((191:Int),(4:Int)))
 else
 bif (decide (s0≥241)) then
 bif (decide (s0≤243)) then
 some ((128:Int),((191:Int),(4:Int)))
 else
 bif (s0==244) then
 some ((128:Int),((143:Int),(4:Int)))
 else
 some ((0:Int),((0:Int),(0:Int)))
 else
 bif (s0==244) then
 some ((128:Int),((143:Int),(4:Int)))
 else
 some ((0:Int),((0:Int),(0:Int))):=by unfold Zu6; rewrite [Y9]; kernel_rfl
theorem Yxl (x:(Int×Int)):Yl6 x=
 Zv6 x.1 x.2:=by kernel_rfl
theorem YRj (s0:Int) (s1:Int):Zv6 s0 s1=
 bif (decide (s0≤s1)) then
 some (1:Int)
 else
 bif (decide (s0≥(wrap i64 (s1+26)))) then
 some (26:Int)
 else
 some (wrap i64 (s0 - s1)):=by unfold Zv6; rewrite [Y9]; kernel_rfl
theorem YTk (x:(List UInt8×Int)):Yrd x=
 Zw6 x.1 x.2:=by kernel_rfl
theorem YWj (s0:List UInt8) (s1:Int):Zw6 s0 s1=
 Zx6 s0 s1 (wrap i64 ((((length s0):Nat):Int) - 1)):=by unfold Zw6; rewrite [Y9]; kernel_rfl
theorem YNc (s0:List UInt8) (s1:Int) (s2:Int):Zx6 s0 s1 s2=
 bif (decide (s2≥0)) then
 bif (Ya s2 (length s0)) then
 bif ((((UInt8.toNat (getD s0 (Int.toNat s2) (0:UInt8))):Nat):Int)==s1) then
 some s2
 else
 Zx6 s0 s1 (wrap i64 (s2 - 1))
 else
 none
 else
 some (-(1:Int)):=by unfold Zx6; rewrite [Y9]; kernel_rfl
end
end Go.Abs
namespace Go.Abs
set_option autoImplicit false
set_option linter.all false
end Go.Abs
namespace Go.Abs
set_option autoImplicit false
set_option linter.all false
end Go.Abs
namespace Go.Abs
noncomputable section
open IntKind List
set_option autoImplicit false
set_option linter.all false
def Yxd (x:(List UInt8×Bool)):Option Bool:=Abs.Call E 11 x
def Zy6 (s0:List UInt8) (s1:Bool):Option Bool:=(Abs.Run E 11 (E.at 11 []) ⟨Y8 [(1,(.val .bool s1)),(0,(.val .str s0))],Yd [],Ye []⟩)
theorem Y0l (x:(List UInt8×Bool)):Yxd x=
 Zy6 x.1 x.2:=by kernel_rfl
theorem Y1k (s0:List UInt8) (s1:Bool):Zy6 s0 s1=
 (YG8 (s0,s1)).bind fun y0=>
 (Y79 (s0,s1)).bind fun y1=>
 (Y53 s0).bind fun y2=>
 (Yj4 s0).bind fun y3=>
 bif (Ty.beq T35 y0.1 y1.1) then
 (Ye6 y0.2).bind fun y4=>
 bif (y4==y1.2) then
 bif (y2.1==y3.1) then
 (Ye6 y2.2).bind fun y5=>
 bif (y5==y3.2) then
 (YH8 s0).bind fun y6=>
 (Y89 s0).bind fun y7=>
 bif (y6==y7) then
 (YL8 ()).bind fun y8=>
 some y8
 else
 some false
 else
 some false
 else
 some false
 else
 some false
 else
 some false:=by unfold Zy6; rewrite [Y9]; kernel_rfl
end
end Go.Abs
