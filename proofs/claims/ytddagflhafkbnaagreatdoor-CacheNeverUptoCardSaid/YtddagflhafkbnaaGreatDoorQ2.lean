/- Part Q2 of the proof: see the last text of the claim. No condition of its own. -/
import Derived.Test.YtddagflhafkbnaaGreatDoorQ1
set_option linter.all false
set_option autoImplicit false
namespace Go.Abs
noncomputable section
open IntKind List
def Yn7 (x:(List UInt8×Bool)):Option (D35×Int):=Abs.Call E 55 x
def Za5 (s0:List UInt8) (s1:Bool):Option (D35×Int):=(Abs.Run E 55 (E.at 55 []) ⟨Y7 [(1,(.val .bool s1)),(0,(.val .str s0))],Ye [],Yf []⟩)
def YN5 (x:List UInt8):Option (List UInt8×Int):=Abs.Call E 57 x
def Zb5 (s0:List UInt8):Option (List UInt8×Int):=(Abs.Run E 57 (E.at 57 []) ⟨Y7 [(0,(.val .str s0))],Ye [],Yf []⟩)
def Zc5 (s0:List UInt8) (s1:Int) (r2:List (List UInt8)):Option (List UInt8×Int):=(Abs.Run E 57 (E.at 57 [1,1,1,1,1,0,1,0,7]) ⟨Y7 [(0,(.val .str s0)),(6,(.row 0)),(7,(.val (.int .i64) s1))],Yc [],Yd [.mk .str .live r2]⟩)
def Zd5 (s0:List UInt8) (s1:List UInt8) (s2:Int):Option (List UInt8×Int):=(Abs.Run E 57 (E.at 57 [1,1,1,1,1,1,1,1,0,1,9]) ⟨Y7 [(0,(.val .str s0)),(10,(.val .str s1)),(11,(.val (.int .i64) s2))],Yc [],Yd []⟩)
def Yc7 (x:List UInt8):Option (Bool×Int):=Abs.Call E 53 x
def Ze5 (s0:List UInt8):Option (Bool×Int):=(Abs.Run E 53 (E.at 53 []) ⟨Y7 [(0,(.val .str s0))],Ye [],Yf []⟩)
def Zf5 (s0:List UInt8) (s1:Int) (r2:List D181):Option (Bool×Int):=(Abs.Run E 53 (E.at 53 [1,1,0,1,0,7]) ⟨Y7 [(0,(.val .str s0)),(4,(.row 0)),(5,(.val (.int .i64) s1))],Yc [],Yd [.mk T181 .live r2]⟩)
def Y23 (x:(List UInt8×Bool)):Option Bool:=Abs.Call E 131 x
def Zg5 (s0:List UInt8) (s1:Bool):Option Bool:=(Abs.Run E 131 (E.at 131 []) ⟨Y7 [(1,(.val .bool s1)),(0,(.val .str s0))],Ye [],Yf []⟩)
def Zh5 (s0:List UInt8) (s1:Bool) (s2:Int):Option Bool:=(Abs.Run E 131 (E.at 131 [1,0,1,0,7]) ⟨Y7 [(0,(.val .str s0)),(1,(.val .bool s1)),(5,(.val (.int .i64) s2))],Yc [],Yd []⟩)
def YJ5 (x:(Int×List UInt8)):Option (List UInt8×Int):=Abs.Call E 132 x
def Zi5 (s0:Int) (s1:List UInt8):Option (List UInt8×Int):=(Abs.Run E 132 (E.at 132 []) ⟨Y7 [(1,(.val .str s1)),(0,(.val (.int .i64) s0))],Ye [],Yf []⟩)
def YI5 (x:List UInt8):Option (List UInt8):=Abs.Call E 133 x
def Zj5 (s0:List UInt8):Option (List UInt8):=(Abs.Run E 133 (E.at 133 []) ⟨Y7 [(0,(.val .str s0))],Ye [],Yf []⟩)
def Yo7 (x:List UInt8):Option (List (List UInt8)):=Abs.Call E 139 x
def Zk5 (s0:List UInt8):Option (List (List UInt8)):=(Abs.Run E 139 (E.at 139 []) ⟨Y7 [(0,(.val .str s0))],Ye [],Yf []⟩)
def Zl5 (s0:List UInt8) (s1:Int) (r2:List Int) (r3:List (List UInt8)) (r4:List Int):Option (List (List UInt8)):=(Abs.Run E 139 (E.at 139 [1,1,1,1,0,1,0,7]) ⟨Y7 [(0,(.val .str s0)),(3,(.row 0)),(4,(.row 1)),(5,(.row 2)),(6,(.val (.int .i64) s1))],Yc [],Yd [.mk (.int .i32) .live r2,.mk .str .live r3,.mk (.int .i32) .live r4]⟩)
def YY9 (x:List UInt8):Option (List UInt8×Bool):=Abs.Call E 140 x
def Zm5 (s0:List UInt8):Option (List UInt8×Bool):=(Abs.Run E 140 (E.at 140 []) ⟨Y7 [(0,(.val .str s0))],Ye [],Yf []⟩)
def YX9 (x:(List (List UInt8))):Option (List UInt8):=Abs.Call E 141 x
def Zn5 (s0:(List (List UInt8))):Option (List UInt8):=(Abs.Run E 141 (E.at 141 []) ⟨Y7 [(0,(.val (.sl false .str) s0))],Ye [],Yf []⟩)
def Zo5 (s0:(List (List UInt8))) (s1:List UInt8) (s2:Int):Option (List UInt8):=(Abs.Run E 141 (E.at 141 [1,1,0,1,0,7]) ⟨Y7 [(0,(.val (.sl false .str) s0)),(3,(.val .str s1)),(4,(.val (.int .i64) s2))],Yc [],Yd []⟩)
def Zp5 (s0:(List (List UInt8))) (s1:List UInt8) (s2:Int):Option (List UInt8):=(Abs.Run E 141 (E.at 141 [1,1,0,1,0,0,1,0,0,0,1,9]) ⟨Y7 [(0,(.val (.sl false .str) s0)),(3,(.val .str s1)),(4,(.val (.int .i64) s2))],Yc [],Yd []⟩)
def YO9 (x:List UInt8):Option (List UInt8×Int):=Abs.Call E 145 x
def Zq5 (s0:List UInt8):Option (List UInt8×Int):=(Abs.Run E 145 (E.at 145 []) ⟨Y7 [(0,(.val .str s0))],Ye [],Yf []⟩)
def Ya7 (x:List UInt8):Option (List D181):=Abs.Call E 130 x
def Zr5 (s0:List UInt8):Option (List D181):=(Abs.Run E 130 (E.at 130 []) ⟨Y7 [(0,(.val .str s0))],Ye [],Yf []⟩)
def Zs5 (s0:List UInt8) (s1:Int) (r2:List D181):Option (List D181):=(Abs.Run E 130 (E.at 130 [1,1,0,1,0,7]) ⟨Y7 [(0,(.val .str s0)),(3,(.row 0)),(4,(.val (.int .i64) s1))],Yc [],Yd [.mk T181 .live r2]⟩)
def Yd7 (x:List UInt8):Option (List UInt8):=Abs.Call E 188 x
def Zt5 (s0:List UInt8):Option (List UInt8):=(Abs.Run E 188 (E.at 188 []) ⟨Y7 [(0,(.val .str s0))],Ye [],Yf []⟩)
def YYe (x:(Int×(List Int))):Option (List UInt8×Int):=Abs.Call E 187 x
def Zu5 (s0:Int) (s1:(List Int)):Option (List UInt8×Int):=(Abs.Run E 187 (E.at 187 []) ⟨Y7 [(1,(.val (.sl false (.int .u8)) s1)),(0,(.val (.int .i64) s0))],Ye [],Yf []⟩)
def Zv5 (s0:Int) (s1:(List Int)) (s2:List UInt8) (s3:Int):Option (List UInt8×Int):=(Abs.Run E 187 (E.at 187 [1,1,1,1,0,1,0,7]) ⟨Y7 [(0,(.val (.int .i64) s0)),(1,(.val (.sl false (.int .u8)) s1)),(8,(.val .str s2)),(9,(.val (.int .i64) s3))],Yc [],Yd []⟩)
def YXe (x:List UInt8):Option (List Int):=Abs.Call E 189 x
def Zw5 (s0:List UInt8):Option (List Int):=(Abs.Run E 189 (E.at 189 []) ⟨Y7 [(0,(.val .str s0))],Ye [],Yf []⟩)
def Zx5 (s0:List UInt8) (s1:Int) (r2:List Int):Option (List Int):=(Abs.Run E 189 (E.at 189 [1,1,0,1,0,7]) ⟨Y7 [(0,(.val .str s0)),(3,(.row 0)),(4,(.val (.int .i64) s1))],Yc [],Yd [.mk (.int .u8) .live r2]⟩)
def YG5 (x:List UInt8):Option (List Int):=Abs.Call E 199 x
def Zy5 (s0:List UInt8):Option (List Int):=(Abs.Run E 199 (E.at 199 []) ⟨Y7 [(0,(.val .str s0))],Ye [],Yf []⟩)
def Zz5 (s0:List UInt8) (s1:Int) (r2:List Int) (r3:List D181):Option (List Int):=(Abs.Run E 199 (E.at 199 [1,1,1,0,1,0,7]) ⟨Y7 [(0,(.val .str s0)),(3,(.row 0)),(4,(.row 1)),(5,(.val (.int .i64) s1))],Yc [],Yd [.mk (.int .i32) .live r2,.mk T181 .live r3]⟩)
def Y13 (x:(List Int)):Option (List UInt8×(Int×Int)):=Abs.Call E 200 x
def Z06 (s0:(List Int)):Option (List UInt8×(Int×Int)):=(Abs.Run E 200 (E.at 200 []) ⟨Y7 [(0,(.val (.sl false (.int .i32)) s0))],Ye [],Yf []⟩)
def Z16 (s0:(List Int)) (s1:Int):Option (List UInt8×(Int×Int)):=(Abs.Run E 200 (E.at 200 [1,0,1,0,7]) ⟨Y7 [(0,(.val (.sl false (.int .i32)) s0)),(5,(.val (.int .i64) s1))],Yc [],Yd []⟩)
def Yq7 (x:List UInt8):Option Bool:=Abs.Call E 201 x
def Z26 (s0:List UInt8):Option Bool:=(Abs.Run E 201 (E.at 201 []) ⟨Y7 [(0,(.val .str s0))],Ye [],Yf []⟩)
def Z36 (s0:List UInt8) (s1:Int) (r2:List Int):Option Bool:=(Abs.Run E 201 (E.at 201 [1,1,0,1,0,7]) ⟨Y7 [(0,(.val .str s0)),(3,(.row 0)),(4,(.val (.int .i64) s1))],Yc [],Yd [.mk (.int .i32) .live r2]⟩)
def YE5 (x:List UInt8):Option (List UInt8):=Abs.Call E 203 x
def Z46 (s0:List UInt8):Option (List UInt8):=(Abs.Run E 203 (E.at 203 []) ⟨Y7 [(0,(.val .str s0))],Ye [],Yf []⟩)
def Z56 (s0:List UInt8) (s1:Int) (r2:List Int):Option (List UInt8):=(Abs.Run E 203 (E.at 203 [1,1,0,1,0,7]) ⟨Y7 [(0,(.val .str s0)),(3,(.row 0)),(4,(.val (.int .i64) s1))],Yc [],Yd [.mk (.int .u8) .live r2]⟩)
def Z66 (s0:List UInt8) (s1:Int) (s2:Int) (r3:List Int):Option (List UInt8):=(Abs.Run E 203 (E.at 203 [1,1,0,1,0,0,1,0,0,1,0,1,9]) ⟨Y7 [(0,(.val .str s0)),(3,(.row 0)),(4,(.val (.int .i64) s1)),(5,(.val (.int .u8) s2))],Yc [],Yd [.mk (.int .u8) .live r3]⟩)
def Yg7 (x:List UInt8):Option (List UInt8×Int):=Abs.Call E 202 x
def Z76 (s0:List UInt8):Option (List UInt8×Int):=(Abs.Run E 202 (E.at 202 []) ⟨Y7 [(0,(.val .str s0))],Ye [],Yf []⟩)
def Y67 (x:(List UInt8×List UInt8)):Option Bool:=Abs.Call E 207 x
def Z86 (s0:List UInt8) (s1:List UInt8):Option Bool:=(Abs.Run E 207 (E.at 207 []) ⟨Y7 [(1,(.val .str s1)),(0,(.val .str s0))],Ye [],Yf []⟩)
def YM9 (x:List UInt8):Option (List UInt8×(Int×Int)):=Abs.Call E 208 x
def Z96 (s0:List UInt8):Option (List UInt8×(Int×Int)):=(Abs.Run E 208 (E.at 208 []) ⟨Y7 [(0,(.val .str s0))],Ye [],Yf []⟩)
def Yi7 (x:List UInt8):Option Bool:=Abs.Call E 209 x
def Za6 (s0:List UInt8):Option Bool:=(Abs.Run E 209 (E.at 209 []) ⟨Y7 [(0,(.val .str s0))],Ye [],Yf []⟩)
def Zb6 (s0:List UInt8) (s1:Int):Option Bool:=(Abs.Run E 209 (E.at 209 [1,0,1,0,7]) ⟨Y7 [(0,(.val .str s0)),(3,(.val (.int .i64) s1))],Yc [],Yd []⟩)
def Y97 (x:(List UInt8×(Int×Bool))):Option D181:=Abs.Call E 186 x
def Zc6 (s0:List UInt8) (s1:Int) (s2:Bool):Option D181:=(Abs.Run E 186 (E.at 186 []) ⟨Y7 [(2,(.val .bool s2)),(1,(.val (.int .i64) s1)),(0,(.val .str s0))],Ye [],Yf []⟩)
def Zd6 (s0:List UInt8) (s1:Int) (s2:Bool) (s3:Int) (b4:D181):Option D181:=(Abs.Run E 186 (E.at 186 [1,0,1,0,7]) ⟨Y7 [(0,(.val .str s0)),(1,(.val (.int .i64) s1)),(2,(.val .bool s2)),(6,(.addr (.box 0) [])),(7,(.val (.int .i64) s3))],Yc [.cells T181 .live (.val T181 b4)],Yd []⟩)
def YMe (x:List UInt8):Option (List D181):=Abs.Call E 236 x
def Ze6 (s0:List UInt8):Option (List D181):=(Abs.Run E 236 (E.at 236 []) ⟨Y7 [(0,(.val .str s0))],Ye [],Yf []⟩)
def Zf6 (s0:List UInt8) (s1:Int) (r2:List D181):Option (List D181):=(Abs.Run E 236 (E.at 236 [1,1,0,1,0,7]) ⟨Y7 [(0,(.val .str s0)),(3,(.row 0)),(4,(.val (.int .i64) s1))],Yc [],Yd [.mk T181 .live r2]⟩)
def Zg6 (s0:List UInt8) (s1:Int) (s2:Int) (b3:D181) (r4:List D181):Option (List D181):=(Abs.Run E 236 (E.at 236 [1,1,0,1,0,0,1,0,1,0,1,0,1,0,7]) ⟨Y7 [(0,(.val .str s0)),(3,(.row 0)),(4,(.val (.int .i64) s1)),(5,(.addr (.box 0) [])),(6,(.val (.int .i64) s2))],Yc [.cells T181 .live (.val T181 b3)],Yd [.mk T181 .live r4]⟩)
def Zh6 (s0:List UInt8) (s1:Int) (b2:D181) (r3:List D181):Option (List D181):=(Abs.Run E 236 (E.at 236 [1,1,0,1,0,0,1,0,1,0,1,9]) ⟨Y7 [(0,(.val .str s0)),(3,(.row 0)),(4,(.val (.int .i64) s1)),(5,(.addr (.box 0) []))],Yc [.cells T181 .live (.val T181 b2)],Yd [.mk T181 .live r3]⟩)
def YQe (x:(List D181)):Option (List UInt8):=Abs.Call E 235 x
def Zi6 (s0:(List D181)):Option (List UInt8):=(Abs.Run E 235 (E.at 235 []) ⟨Y7 [(0,(.val (.sl false T181) s0))],Ye [],Yf []⟩)
def Zj6 (s0:(List D181)) (s1:Int) (r2:List Int):Option (List UInt8):=(Abs.Run E 235 (E.at 235 [1,1,0,1,0,7]) ⟨Y7 [(0,(.val (.sl false T181) s0)),(3,(.row 0)),(4,(.val (.int .i64) s1))],Yc [],Yd [.mk (.int .u8) .live r2]⟩)
def Ym7 (x:(Int×Int)):Option (Bool×Int):=Abs.Call E 233 x
def Zk6 (s0:Int) (s1:Int):Option (Bool×Int):=(Abs.Run E 233 (E.at 233 []) ⟨Y7 [(1,(.val (.int .u8) s1)),(0,(.val (.int .i64) s0))],Ye [],Yf []⟩)
def YS9 (x:Int):Option (List UInt8):=Abs.Call E 234 x
def Zl6 (s0:Int):Option (List UInt8):=(Abs.Run E 234 (E.at 234 []) ⟨Y7 [(0,(.val (.int .u8) s0))],Ye [],Yf []⟩)
def YT9 (x:(List UInt8×Int)):Option Int:=Abs.Call E 237 x
def Zm6 (s0:List UInt8) (s1:Int):Option Int:=(Abs.Run E 237 (E.at 237 []) ⟨Y7 [(1,(.val (.int .i64) s1)),(0,(.val .str s0))],Ye [],Yf []⟩)
def YM4 (x:Int):Option Bool:=Abs.Call E 230 x
def Zn6 (s0:Int):Option Bool:=(Abs.Run E 230 (E.at 230 []) ⟨Y7 [(0,(.val (.int .i32) s0))],Ye [],Yf []⟩)
def YHe (x:(List Int)):Option (List UInt8):=Abs.Call E 245 x
def Zo6 (s0:(List Int)):Option (List UInt8):=(Abs.Run E 245 (E.at 245 []) ⟨Y7 [(0,(.val (.sl false (.int .i32)) s0))],Ye [],Yf []⟩)
def Zp6 (s0:(List Int)) (s1:Int) (r2:List Int):Option (List UInt8):=(Abs.Run E 245 (E.at 245 [1,1,0,1,0,7]) ⟨Y7 [(0,(.val (.sl false (.int .i32)) s0)),(3,(.row 0)),(4,(.val (.int .i64) s1))],Yc [],Yd [.mk (.int .u8) .live r2]⟩)
def Zq6 (s0:(List Int)) (s1:Int) (s2:Int) (r3:List Int):Option (List UInt8):=(Abs.Run E 245 (E.at 245 [1,1,0,1,0,0,1,0,0,1,0,1,9]) ⟨Y7 [(0,(.val (.sl false (.int .i32)) s0)),(3,(.row 0)),(4,(.val (.int .i64) s1)),(5,(.val (.int .i32) s2))],Yc [],Yd [.mk (.int .u8) .live r3]⟩)
def YN9 (x:List UInt8):Option (List UInt8×Int):=Abs.Call E 246 x
def Zr6 (s0:List UInt8):Option (List UInt8×Int):=(Abs.Run E 246 (E.at 246 []) ⟨Y7 [(0,(.val .str s0))],Ye [],Yf []⟩)
def Yj7 (x:List UInt8):Option (List UInt8×(Int×Int)):=Abs.Call E 249 x
def Zs6 (s0:List UInt8):Option (List UInt8×(Int×Int)):=(Abs.Run E 249 (E.at 249 []) ⟨Y7 [(0,(.val .str s0))],Ye [],Yf []⟩)
def Zt6 (s0:List UInt8) (s1:Int):Option (List UInt8×(Int×Int)):=(Abs.Run E 249 (E.at 249 [1,0,1,0,7]) ⟨Y7 [(0,(.val .str s0)),(5,(.val (.int .i64) s1))],Yc [],Yd []⟩)
def Zu6 (s0:List UInt8) (s1:Int) (s2:Int) (r3:List Int):Option (List UInt8×(Int×Int)):=(Abs.Run E 249 (E.at 249 [1,1,1,1,0,1,0,7]) ⟨Y7 [(0,(.val .str s0)),(6,(.row 0)),(7,(.val (.int .i64) s1)),(8,(.val (.int .i64) s2))],Yc [],Yd [.mk (.int .i32) .live r3]⟩)
def Zv6 (s0:List UInt8) (s1:Int) (s2:Int) (r3:List Int):Option (List UInt8×(Int×Int)):=(Abs.Run E 249 (E.at 249 [1,1,1,1,0,1,0,0,1,0,0,1,0,0,1,0,7]) ⟨Y7 [(0,(.val .str s0)),(6,(.row 0)),(8,(.val (.int .i64) s1)),(9,(.val (.int .i64) s2))],Yc [],Yd [.mk (.int .i32) .live r3]⟩)
def Zw6 (s0:List UInt8) (s1:Int) (s2:Int) (s3:Int) (s4:Int) (s5:Int) (r6:List Int):Option (List UInt8×(Int×Int)):=(Abs.Run E 249 (E.at 249 [1,1,1,1,1,1,1,0,0,7]) ⟨Y7 [(0,(.val .str s0)),(6,(.row 0)),(7,(.val (.int .i64) s1)),(10,(.val (.int .i64) s2)),(11,(.val (.int .i64) s3)),(12,(.val (.int .i64) s4)),(13,(.val (.int .i64) s5))],Yc [],Yd [.mk (.int .i32) .live r6]⟩)
def Zx6 (s0:List UInt8) (s1:Int) (s2:Int) (s3:Int) (s4:Int) (s5:Int) (s6:Int) (s7:Int) (s8:Int) (s9:Int) (r10:List Int):Option (List UInt8×(Int×Int)):=(Abs.Run E 249 (E.at 249 [1,1,1,1,1,1,1,0,0,0,1,0,1,0,1,0,7]) ⟨Y7 [(0,(.val .str s0)),(6,(.row 0)),(7,(.val (.int .i64) s1)),(10,(.val (.int .i64) s2)),(11,(.val (.int .i64) s3)),(12,(.val (.int .i64) s4)),(13,(.val (.int .i64) s5)),(14,(.val (.int .i64) s6)),(15,(.val (.int .i64) s7)),(16,(.val (.int .i64) s8)),(17,(.val (.int .i64) s9))],Yc [],Yd [.mk (.int .i32) .live r10]⟩)
def YL9 (x:(List UInt8×(Int×Int))):Option Int:=Abs.Call E 229 x
def Zy6 (s0:List UInt8) (s1:Int) (s2:Int):Option Int:=(Abs.Run E 229 (E.at 229 []) ⟨Y7 [(2,(.val (.int .i64) s2)),(1,(.val (.int .i64) s1)),(0,(.val .str s0))],Ye [],Yf []⟩)
def Zz6 (s0:List UInt8) (s1:Int) (s2:Int) (s3:Int) (s4:Int):Option Int:=(Abs.Run E 229 (E.at 229 [1,1,1,0,1,0,7]) ⟨Y7 [(0,(.val .str s0)),(1,(.val (.int .i64) s1)),(2,(.val (.int .i64) s2)),(8,(.val (.int .i32) s3)),(9,(.val (.int .i64) s4))],Yc [],Yd []⟩)
def YM2 (x:Int):Option (List Int):=Abs.Call E 231 x
def Z07 (s0:Int):Option (List Int):=(Abs.Run E 231 (E.at 231 []) ⟨Y7 [(0,(.val (.int .i32) s0))],Ye [],Yf []⟩)
def YH5 (x:(List UInt8×(Int×(List Int)))):Option Bool:=Abs.Call E 232 x
def Z17 (s0:List UInt8) (s1:Int) (s2:(List Int)):Option Bool:=(Abs.Run E 232 (E.at 232 []) ⟨Y7 [(2,(.val (.sl false (.int .u8)) s2)),(1,(.val (.int .i64) s1)),(0,(.val .str s0))],Ye [],Yf []⟩)
def Z27 (s0:List UInt8) (s1:Int) (s2:(List Int)) (s3:Int):Option Bool:=(Abs.Run E 232 (E.at 232 [1,1,0,1,0,7]) ⟨Y7 [(0,(.val .str s0)),(1,(.val (.int .i64) s1)),(2,(.val (.sl false (.int .u8)) s2)),(7,(.val (.int .i64) s3))],Yc [],Yd []⟩)
def Ye7 (x:(List UInt8×(Int×Int))):Option Bool:=Abs.Call E 267 x
def Z37 (s0:List UInt8) (s1:Int) (s2:Int):Option Bool:=(Abs.Run E 267 (E.at 267 []) ⟨Y7 [(2,(.val (.int .i64) s2)),(1,(.val (.int .i64) s1)),(0,(.val .str s0))],Ye [],Yf []⟩)
def Z47 (s0:List UInt8) (s1:Int) (s2:Int) (s3:Int):Option Bool:=(Abs.Run E 267 (E.at 267 [1,1,0,1,0,7]) ⟨Y7 [(0,(.val .str s0)),(1,(.val (.int .i64) s1)),(2,(.val (.int .i64) s2)),(7,(.val (.int .i64) s3))],Yc [],Yd []⟩)
def Z57 (s0:List UInt8) (s1:Int) (s2:Int) (s3:Int) (s4:Int) (s5:Int) (s6:Int):Option Bool:=(Abs.Run E 267 (E.at 267 [1,1,0,1,0,0,1,0,0,1,1,1,0,1,0,7]) ⟨Y7 [(0,(.val .str s0)),(1,(.val (.int .i64) s1)),(2,(.val (.int .i64) s2)),(7,(.val (.int .i64) s3)),(9,(.val (.int .i32) s4)),(10,(.val (.int .i32) s5)),(11,(.val (.int .i64) s6))],Yc [],Yd []⟩)
def YJ1 (x:(Int×List UInt8)):Option Bool:=Abs.Call E 266 x
def Z67 (s0:Int) (s1:List UInt8):Option Bool:=(Abs.Run E 266 (E.at 266 []) ⟨Y7 [(1,(.val .str s1)),(0,(.val (.int .u8) s0))],Ye [],Yf []⟩)
def Z77 (s0:Int) (s1:List UInt8) (s2:Int):Option Bool:=(Abs.Run E 266 (E.at 266 [1,0,1,0,7]) ⟨Y7 [(0,(.val (.int .u8) s0)),(1,(.val .str s1)),(5,(.val (.int .i64) s2))],Yc [],Yd []⟩)
def YN4 (x:Int):Option Int:=Abs.Call E 268 x
def Z87 (s0:Int):Option Int:=(Abs.Run E 268 (E.at 268 []) ⟨Y7 [(0,(.val (.int .u8) s0))],Ye [],Yf []⟩)
def YP9 (x:(List Int)):Option (List UInt8):=Abs.Call E 274 x
def Z97 (s0:(List Int)):Option (List UInt8):=(Abs.Run E 274 (E.at 274 []) ⟨Y7 [(0,(.val (.sl false (.int .i32)) s0))],Ye [],Yf []⟩)
def Za7 (s0:(List Int)) (s1:Int) (r2:List Int):Option (List UInt8):=(Abs.Run E 274 (E.at 274 [1,1,0,1,0,7]) ⟨Y7 [(0,(.val (.sl false (.int .i32)) s0)),(3,(.row 0)),(4,(.val (.int .i64) s1))],Yc [],Yd [.mk (.int .u8) .live r2]⟩)
def Zb7 (s0:(List Int)) (s1:Int) (s2:Int) (r3:List Int):Option (List UInt8):=(Abs.Run E 274 (E.at 274 [1,1,1,1,1,0,1,9]) ⟨Y7 [(0,(.val (.sl false (.int .i32)) s0)),(3,(.row 0)),(5,(.val (.int .i64) s1)),(6,(.val (.int .i64) s2))],Yc [],Yd [.mk (.int .u8) .live r3]⟩)
def Zc7 (s0:(List Int)) (s1:Int) (s2:Int) (s3:Int) (s4:Int) (s5:Int) (r6:List Int):Option (List UInt8):=(Abs.Run E 274 (E.at 274 [1,1,1,1,1,1,1,0,0,7]) ⟨Y7 [(0,(.val (.sl false (.int .i32)) s0)),(3,(.row 0)),(5,(.val (.int .i64) s1)),(6,(.val (.int .i64) s2)),(7,(.val (.int .i64) s3)),(8,(.val (.int .i64) s4)),(9,(.val (.int .i64) s5))],Yc [],Yd [.mk (.int .u8) .live r6]⟩)
def Zd7 (s0:(List Int)) (s1:Int) (s2:Int) (s3:Int) (s4:Int) (s5:Int) (s6:Int) (s7:Int) (r8:List Int):Option (List UInt8):=(Abs.Run E 274 (E.at 274 [1,1,1,1,1,1,1,0,0,0,1,0,1,0,1,0,7]) ⟨Y7 [(0,(.val (.sl false (.int .i32)) s0)),(3,(.row 0)),(5,(.val (.int .i64) s1)),(6,(.val (.int .i64) s2)),(7,(.val (.int .i64) s3)),(8,(.val (.int .i64) s4)),(9,(.val (.int .i64) s5)),(10,(.val (.int .i64) s6)),(11,(.val (.int .i64) s7))],Yc [],Yd [.mk (.int .u8) .live r8]⟩)
def Ze7 (s0:(List Int)) (s1:Int) (s2:Int) (s3:Int) (s4:Int) (s5:Int) (s6:Int) (r7:List Int):Option (List UInt8):=(Abs.Run E 274 (E.at 274 [1,1,1,1,1,1,1,0,0,0,1,0,1,1,1,1,0,1,0,7]) ⟨Y7 [(0,(.val (.sl false (.int .i32)) s0)),(3,(.row 0)),(5,(.val (.int .i64) s1)),(6,(.val (.int .i64) s2)),(7,(.val (.int .i64) s3)),(8,(.val (.int .i64) s4)),(9,(.val (.int .i64) s5)),(12,(.val (.int .i64) s6))],Yc [],Yd [.mk (.int .u8) .live r7]⟩)
def Zf7 (s0:(List Int)) (s1:Int) (s2:Int) (s3:Int) (s4:Int) (s5:Int) (s6:Int) (r7:List Int):Option (List UInt8):=(Abs.Run E 274 (E.at 274 [1,1,1,1,1,1,1,0,0,0,1,0,1,1,1,1,0,1,0,0,1,0,0,0,1,9]) ⟨Y7 [(0,(.val (.sl false (.int .i32)) s0)),(3,(.row 0)),(5,(.val (.int .i64) s1)),(6,(.val (.int .i64) s2)),(7,(.val (.int .i64) s3)),(8,(.val (.int .i64) s4)),(9,(.val (.int .i64) s5)),(12,(.val (.int .i64) s6))],Yc [],Yd [.mk (.int .u8) .live r7]⟩)
def Zg7 (s0:(List Int)) (s1:Int) (s2:Int) (s3:Int) (s4:Int) (s5:Int) (s6:Int) (s7:Int) (s8:Int) (r9:List Int):Option (List UInt8):=(Abs.Run E 274 (E.at 274 [1,1,1,1,1,1,1,0,0,0,1,0,1,1,1,1,0,1,0,0,1,0,0,1,1,1,0,1,0,7]) ⟨Y7 [(0,(.val (.sl false (.int .i32)) s0)),(3,(.row 0)),(5,(.val (.int .i64) s1)),(6,(.val (.int .i64) s2)),(7,(.val (.int .i64) s3)),(8,(.val (.int .i64) s4)),(9,(.val (.int .i64) s5)),(12,(.val (.int .i64) s6)),(13,(.val (.int .i64) s7)),(14,(.val (.int .i64) s8))],Yc [],Yd [.mk (.int .u8) .live r9]⟩)
def YR9 (x:Int):Option Int:=Abs.Call E 278 x
def Zh7 (s0:Int):Option Int:=(Abs.Run E 278 (E.at 278 []) ⟨Y7 [(0,(.val (.int .u8) s0))],Ye [],Yf []⟩)
def Yl7 (x:(Int×Int)):Option Int:=Abs.Call E 279 x
def Zi7 (s0:Int) (s1:Int):Option Int:=(Abs.Run E 279 (E.at 279 []) ⟨Y7 [(1,(.val (.int .i64) s1)),(0,(.val (.int .i64) s0))],Ye [],Yf []⟩)
def Yh7 (x:(Int×(Int×Bool))):Option Int:=Abs.Call E 280 x
def Zj7 (s0:Int) (s1:Int) (s2:Bool):Option Int:=(Abs.Run E 280 (E.at 280 []) ⟨Y7 [(2,(.val .bool s2)),(1,(.val (.int .i64) s1)),(0,(.val (.int .i64) s0))],Ye [],Yf []⟩)
def Zk7 (s0:Int) (s1:Int) (s2:Bool):Option Int:=(Abs.Run E 280 (E.at 280 [1,0,1,9]) ⟨Y7 [(0,(.val (.int .i64) s0)),(1,(.val (.int .i64) s1)),(2,(.val .bool s2))],Yc [],Yd []⟩)
def Zl7 (s0:Int) (s1:Int) (s2:Bool) (s3:Int):Option Int:=(Abs.Run E 280 (E.at 280 [1,1,1,1,0,0,7]) ⟨Y7 [(0,(.val (.int .i64) s0)),(1,(.val (.int .i64) s1)),(2,(.val .bool s2)),(7,(.val (.int .i64) s3))],Yc [],Yd []⟩)
def Yf7 (x:(List UInt8×(Int×(Int×(Int×Int))))):Option Bool:=Abs.Call E 289 x
def Zm7 (s0:List UInt8) (s1:Int) (s2:Int) (s3:Int) (s4:Int):Option Bool:=(Abs.Run E 289 (E.at 289 []) ⟨Y7 [(4,(.val (.int .i32) s4)),(3,(.val (.int .i64) s3)),(2,(.val (.int .i64) s2)),(1,(.val (.int .i64) s1)),(0,(.val .str s0))],Ye [],Yf []⟩)
def Zn7 (s0:List UInt8) (s1:Int) (s2:Int) (s3:Int) (s4:Int) (s5:Int) (r6:List Int):Option Bool:=(Abs.Run E 289 (E.at 289 [1,1,0,1,0,7]) ⟨Y7 [(0,(.val .str s0)),(1,(.val (.int .i64) s1)),(2,(.val (.int .i64) s2)),(3,(.val (.int .i64) s3)),(4,(.val (.int .i32) s4)),(11,(.row 0)),(12,(.val (.int .i64) s5))],Yc [],Yd [.mk (.int .i32) .live r6]⟩)
def Zo7 (s0:List UInt8) (s1:Int) (s2:Int) (s3:Int) (s4:Int) (s5:Int) (s6:Int) (r7:List Int):Option Bool:=(Abs.Run E 289 (E.at 289 [1,1,0,1,0,0,1,0,0,1,0,1,9]) ⟨Y7 [(0,(.val .str s0)),(1,(.val (.int .i64) s1)),(2,(.val (.int .i64) s2)),(3,(.val (.int .i64) s3)),(4,(.val (.int .i32) s4)),(11,(.row 0)),(12,(.val (.int .i64) s5)),(13,(.val (.int .i32) s6))],Yc [],Yd [.mk (.int .i32) .live r7]⟩)
def Yk7 (x:Int):Option Int:=Abs.Call E 291 x
def Zp7 (s0:Int):Option Int:=(Abs.Run E 291 (E.at 291 []) ⟨Y7 [(0,(.val (.int .i64) s0))],Ye [],Yf []⟩)
theorem YFo (x:(List UInt8×Bool)):Yn7 x=
 Za5 x.1 x.2:=by kernel_rfl
theorem YQj (s0:List UInt8) (s1:Bool):Za5 s0 s1=
 bif (decide ((((length s0):Nat):Int) > 65536)) then
 some (((Ty.zero (.int .i64)),((Ty.zero .str),((Ty.zero (.int .u32)),(Ty.zero (.arr 8 (.int .u16)))))),(5:Int))
 else
 bif (decide ((((length s0):Nat):Int) > 0)) then
 bif (Ya (0:Int) (length s0)) then
 bif ((((UInt8.toNat (getD s0 (Int.toNat (0:Int)) (0:UInt8))):Nat):Int)==91) then
 bif (decide ((((length s0):Nat):Int) < 2)) then
 some (((Ty.zero (.int .i64)),((Ty.zero .str),((Ty.zero (.int .u32)),(Ty.zero (.arr 8 (.int .u16)))))),(51:Int))
 else
 bif (Ya (wrap i64 ((((length s0):Nat):Int) - 1)) (length s0)) then
 bif ((((UInt8.toNat (getD s0 (Int.toNat (wrap i64 ((((length s0):Nat):Int) - 1))) (0:UInt8))):Nat):Int) !=93) then
 some (((Ty.zero (.int .i64)),((Ty.zero .str),((Ty.zero (.int .u32)),(Ty.zero (.arr 8 (.int .u16)))))),(51:Int))
 else
 bif (Yi (some (1:Int)) (some (wrap i64 ((((length s0):Nat):Int) - 1))) (length s0)) then
 (YU9 (Ym (some (1:Int)) (some (wrap i64 ((((length s0):Nat):Int) - 1))) s0)).bind fun y0=>
 bif (y0.2 !=0) then
 some (((Ty.zero (.int .i64)),((Ty.zero .str),((Ty.zero (.int .u32)),(Ty.zero (.arr 8 (.int .u16)))))),y0.2)
 else
 some (((3:Int),((Ty.zero .str),((Ty.zero (.int .u32)),y0.1))),(0:Int))
 else
 none
 else
 none
 else
 bif (!s1) then
 (Y23 (s0,false)).bind fun y0=>
 bif y0 then
 some (((Ty.zero (.int .i64)),((Ty.zero .str),((Ty.zero (.int .u32)),(Ty.zero (.arr 8 (.int .u16)))))),(52:Int))
 else
 bif (s0==([]:List UInt8)) then
 some (((5:Int),((Ty.zero .str),((Ty.zero (.int .u32)),(Ty.zero (.arr 8 (.int .u16)))))),(0:Int))
 else
 (YJ5 ((1:Int),s0)).bind fun y1=>
 bif (decide ((((length y1.1):Nat):Int) > 65536)) then
 some (((Ty.zero (.int .i64)),((Ty.zero .str),((Ty.zero (.int .u32)),(Ty.zero (.arr 8 (.int .u16)))))),(5:Int))
 else
 some (((4:Int),(y1.1,((Ty.zero (.int .u32)),(Ty.zero (.arr 8 (.int .u16)))))),(0:Int))
 else
 (YI5 s0).bind fun y0=>
 (YN5 y0).bind fun y1=>
 bif (y1.2 !=0) then
 some (((Ty.zero (.int .i64)),((Ty.zero .str),((Ty.zero (.int .u32)),(Ty.zero (.arr 8 (.int .u16)))))),y1.2)
 else
 bif (y1.1==([]:List UInt8)) then
 some (((Ty.zero (.int .i64)),((Ty.zero .str),((Ty.zero (.int .u32)),(Ty.zero (.arr 8 (.int .u16)))))),(51:Int))
 else
 (Y23 (y1.1,true)).bind fun y2=>
 bif y2 then
 some (((Ty.zero (.int .i64)),((Ty.zero .str),((Ty.zero (.int .u32)),(Ty.zero (.arr 8 (.int .u16)))))),(52:Int))
 else
 (YL5 y1.1).bind fun y3=>
 bif y3 then
 (YM5 y1.1).bind fun y4=>
 bif (y4.2 !=0) then
 some (((Ty.zero (.int .i64)),((Ty.zero .str),((Ty.zero (.int .u32)),(Ty.zero (.arr 8 (.int .u16)))))),y4.2)
 else
 some (((2:Int),((Ty.zero .str),(y4.1,(Ty.zero (.arr 8 (.int .u16)))))),(0:Int))
 else
 some (((1:Int),(y1.1,((Ty.zero (.int .u32)),(Ty.zero (.arr 8 (.int .u16)))))),(0:Int))
 else
 none
 else
 bif (!s1) then
 (Y23 (s0,false)).bind fun y0=>
 bif y0 then
 some (((Ty.zero (.int .i64)),((Ty.zero .str),((Ty.zero (.int .u32)),(Ty.zero (.arr 8 (.int .u16)))))),(52:Int))
 else
 bif (s0==([]:List UInt8)) then
 some (((5:Int),((Ty.zero .str),((Ty.zero (.int .u32)),(Ty.zero (.arr 8 (.int .u16)))))),(0:Int))
 else
 (YJ5 ((1:Int),s0)).bind fun y1=>
 bif (decide ((((length y1.1):Nat):Int) > 65536)) then
 some (((Ty.zero (.int .i64)),((Ty.zero .str),((Ty.zero (.int .u32)),(Ty.zero (.arr 8 (.int .u16)))))),(5:Int))
 else
 some (((4:Int),(y1.1,((Ty.zero (.int .u32)),(Ty.zero (.arr 8 (.int .u16)))))),(0:Int))
 else
 (YI5 s0).bind fun y0=>
 (YN5 y0).bind fun y1=>
 bif (y1.2 !=0) then
 some (((Ty.zero (.int .i64)),((Ty.zero .str),((Ty.zero (.int .u32)),(Ty.zero (.arr 8 (.int .u16)))))),y1.2)
 else
 bif (y1.1==([]:List UInt8)) then
 some (((Ty.zero (.int .i64)),((Ty.zero .str),((Ty.zero (.int .u32)),(Ty.zero (.arr 8 (.int .u16)))))),(51:Int))
 else
 (Y23 (y1.1,true)).bind fun y2=>
 bif y2 then
 some (((Ty.zero (.int .i64)),((Ty.zero .str),((Ty.zero (.int .u32)),(Ty.zero (.arr 8 (.int .u16)))))),(52:Int))
 else
 (YL5 y1.1).bind fun y3=>
 bif y3 then
 (YM5 y1.1).bind fun y4=>
 bif (y4.2 !=0) then
 some (((Ty.zero (.int .i64)),((Ty.zero .str),((Ty.zero (.int .u32)),(Ty.zero (.arr 8 (.int .u16)))))),y4.2)
 else
 some (((2:Int),((Ty.zero .str),(y4.1,(Ty.zero (.arr 8 (.int .u16)))))),(0:Int))
 else
 some (((1:Int),(y1.1,((Ty.zero (.int .u32)),(Ty.zero (.arr 8 (.int .u16)))))),(0:Int)):=by unfold Za5; rewrite [Y8]; kernel_rfl
theorem YGo (x:List UInt8):YN5 x=
 Zb5 x:=by kernel_rfl
theorem YWj (s0:List UInt8):Zb5 s0=
 (Yc7 s0).bind fun y0=>
 bif (!y0.1) then
 some (([]:List UInt8),(21:Int))
 else
 bif (decide ((((length s0):Nat):Int) > 65536)) then
 some (([]:List UInt8),(5:Int))
 else
 (Yo7 s0).bind fun y1=>
 Zc5 s0 (0:Int) y1:=by unfold Zb5; rewrite [Y8]; kernel_rfl
theorem YG6 (s0:List UInt8) (s1:Int) (r2:List (List UInt8)):Zc5 s0 s1 r2=
 bif (decide (s1 < (((length r2):Nat):Int))) then
 bif (Ya s1 (length r2)) then
 (YY9 (getD r2 (Int.toNat s1) (Ty.zero .str))).bind fun y0=>
 bif (!y0.2) then
 some (([]:List UInt8),(53:Int))
 else
 bif (y0.1==([]:List UInt8)) then
 bif (decide (s1 < (wrap i64 ((((length r2):Nat):Int) - 1)))) then
 some (([]:List UInt8),(53:Int))
 else
 bif (Ya s1 (length r2)) then
 Zc5 s0 (wrap i64 (s1+1)) (List.set r2 (Int.toNat s1) y0.1)
 else
 none
 else
 bif (Ya s1 (length r2)) then
 Zc5 s0 (wrap i64 (s1+1)) (List.set r2 (Int.toNat s1) y0.1)
 else
 none
 else
 none
 else
 (YX9 r2).bind fun y0=>
 bif (decide ((((length y0):Nat):Int) > 0)) then
 bif (Ya (wrap i64 ((((length y0):Nat):Int) - 1)) (length y0)) then
 bif ((((UInt8.toNat (getD y0 (Int.toNat (wrap i64 ((((length y0):Nat):Int) - 1))) (0:UInt8))):Nat):Int)==46) then
 Zd5 s0 y0 (wrap i64 ((((length y0):Nat):Int) - 1))
 else
 Zd5 s0 y0 (((length y0):Nat):Int)
 else
 none
 else
 Zd5 s0 y0 (((length y0):Nat):Int):=by unfold Zc5; rewrite [Y8]; kernel_rfl
theorem Y2k (s0:List UInt8) (s1:List UInt8) (s2:Int):Zd5 s0 s1 s2=
 bif (decide (s2 > 253)) then
 some (([]:List UInt8),(5:Int))
 else
 some (s1,(0:Int)):=by unfold Zd5; rewrite [Y8]; kernel_rfl
theorem YUn (x:List UInt8):Yc7 x=
 Ze5 x:=by kernel_rfl
theorem Y5k (s0:List UInt8):Ze5 s0=
 (Ya7 s0).bind fun y0=>
 Zf5 s0 (0:Int) y0:=by unfold Ze5; rewrite [Y8]; kernel_rfl
theorem Y4d (s0:List UInt8) (s1:Int) (r2:List D181):Zf5 s0 s1 r2=
 bif (decide (s1 < (((length r2):Nat):Int))) then
 bif (Ya s1 (length r2)) then
 bif (getD r2 (Int.toNat s1) (Ty.zero T181)).2.2.2 then
 bif (Ya s1 (length r2)) then
 some (false,(getD r2 (Int.toNat s1) (Ty.zero T181)).1)
 else
 none
 else
 Zf5 s0 (wrap i64 (s1+1)) r2
 else
 none
 else
 some (true,(0:Int)):=by unfold Zf5; rewrite [Y8]; kernel_rfl
theorem Y2f (x:(List UInt8×Bool)):Y23 x=
 Zg5 x.1 x.2:=by kernel_rfl
theorem Y8d (s0:List UInt8) (s1:Bool):Zg5 s0 s1=
 Zh5 s0 s1 (0:Int):=by unfold Zg5; rewrite [Y8]; kernel_rfl
theorem Ybd (s0:List UInt8) (s1:Bool) (s2:Int):Zh5 s0 s1 s2=
 bif (decide (s2 < (((length s0):Nat):Int))) then
 bif (Ya s2 (length s0)) then
 (YD5 (([0,9,10,13,32,35,47,58,60,62,63,64,91,92,93,94,124]:List UInt8),(((UInt8.toNat (getD s0 (Int.toNat s2) (0:UInt8))):Nat):Int))).bind fun y0=>
 bif y0 then
 some true
 else
 bif s1 then
 bif (Ya s2 (length s0)) then
 bif (decide ((((UInt8.toNat (getD s0 (Int.toNat s2) (0:UInt8))):Nat):Int) < 32)) then
 some true
 else
 bif (Ya s2 (length s0)) then
 bif ((((UInt8.toNat (getD s0 (Int.toNat s2) (0:UInt8))):Nat):Int)==37) then
 some true
 else
 bif (Ya s2 (length s0)) then
 bif ((((UInt8.toNat (getD s0 (Int.toNat s2) (0:UInt8))):Nat):Int)==127) then
 some true
 else
 Zh5 s0 s1 (wrap i64 (s2+1))
 else
 none
 else
 none
 else
 none
 else
 Zh5 s0 s1 (wrap i64 (s2+1))
 else
 none
 else
 some false:=by unfold Zh5; rewrite [Y8]; kernel_rfl
theorem Ylo (x:(Int×List UInt8)):YJ5 x=
 Zi5 x.1 x.2:=by kernel_rfl
theorem Ymk (s0:Int) (s1:List UInt8):Zi5 s0 s1=
 (Yd7 s1).bind fun y0=>
 (YYe (s0,(YL y0))).bind fun y1=>
 some (y1.1,y1.2):=by unfold Zi5; rewrite [Y8]; kernel_rfl
theorem Yio (x:List UInt8):YI5 x=
 Zj5 x:=by kernel_rfl
theorem Yrk (s0:List UInt8):Zj5 s0=
 (YXe s0).bind fun y0=>
 (Yd7 (Yn y0)).bind fun y1=>
 some y1:=by unfold Zj5; rewrite [Y8]; kernel_rfl
theorem YIo (x:List UInt8):Yo7 x=
 Zk5 x:=by kernel_rfl
theorem Yyk (s0:List UInt8):Zk5 s0=
 (YG5 s0).bind fun y0=>
 Zl5 s0 (0:Int) y0 ([]:List (List UInt8)) ([]:List Int):=by unfold Zk5; rewrite [Y8]; kernel_rfl
theorem Yjd (s0:List UInt8) (s1:Int) (r2:List Int) (r3:List (List UInt8)) (r4:List Int):Zl5 s0 s1 r2 r3 r4=
 bif (decide (s1 < (((length r2):Nat):Int))) then
 bif (Ya s1 (length r2)) then
 bif ((getD r2 (Int.toNat s1) (Ty.zero (.int .i32)))==46) then
 (Y13 r4).bind fun y0=>
 bif (decide (((length r3)+(length ([y0.1]:List (List UInt8))))<=(lim))) then
 Zl5 s0 (wrap i64 (s1+1)) r2 (r3++([y0.1]:List (List UInt8))) ([]:List Int)
 else
 none
 else
 bif (Ya s1 (length r2)) then
 bif ((getD r2 (Int.toNat s1) (Ty.zero (.int .i32)))==12290) then
 (Y13 r4).bind fun y0=>
 bif (decide (((length r3)+(length ([y0.1]:List (List UInt8))))<=(lim))) then
 Zl5 s0 (wrap i64 (s1+1)) r2 (r3++([y0.1]:List (List UInt8))) ([]:List Int)
 else
 none
 else
 bif (Ya s1 (length r2)) then
 bif ((getD r2 (Int.toNat s1) (Ty.zero (.int .i32)))==65294) then
 (Y13 r4).bind fun y0=>
 bif (decide (((length r3)+(length ([y0.1]:List (List UInt8))))<=(lim))) then
 Zl5 s0 (wrap i64 (s1+1)) r2 (r3++([y0.1]:List (List UInt8))) ([]:List Int)
 else
 none
 else
 bif (Ya s1 (length r2)) then
 bif ((getD r2 (Int.toNat s1) (Ty.zero (.int .i32)))==65377) then
 (Y13 r4).bind fun y0=>
 bif (decide (((length r3)+(length ([y0.1]:List (List UInt8))))<=(lim))) then
 Zl5 s0 (wrap i64 (s1+1)) r2 (r3++([y0.1]:List (List UInt8))) ([]:List Int)
 else
 none
 else
 bif (Ya s1 (length r2)) then
 bif (decide (((length r4)+(length ([(getD r2 (Int.toNat s1) (Ty.zero (.int .i32)))]:List Int)))<=(lim))) then
 Zl5 s0 (wrap i64 (s1+1)) r2 r3 (r4++([(getD r2 (Int.toNat s1) (Ty.zero (.int .i32)))]:List Int))
 else
 none
 else
 none
 else
 none
 else
 none
 else
 none
 else
 none
 else
 (Y13 r4).bind fun y0=>
 bif (decide (((length r3)+(length ([y0.1]:List (List UInt8))))<=(lim))) then
 some (r3++([y0.1]:List (List UInt8)))
 else
 none:=by unfold Zl5; rewrite [Y8]; kernel_rfl
theorem YMo (x:List UInt8):YY9 x=
 Zm5 x:=by kernel_rfl
theorem YJk (s0:List UInt8):Zm5 s0=
 (Yq7 s0).bind fun y0=>
 bif y0 then
 some (([]:List UInt8),false)
 else
 (YE5 s0).bind fun y1=>
 (Yg7 y1).bind fun y2=>
 bif (y2.2 !=0) then
 some (([]:List UInt8),false)
 else
 bif (decide ((((length y2.1):Nat):Int) > 63)) then
 some (([]:List UInt8),false)
 else
 (YO9 y2.1).bind fun y3=>
 bif (y3.2==0) then
 (Yq7 y3.1).bind fun y4=>
 bif (!y4) then
 (Yo7 y3.1).bind fun y5=>
 some (y2.1,((((length y5):Nat):Int)==1))
 else
 some (y2.1,false)
 else
 some (y2.1,false):=by unfold Zm5; rewrite [Y8]; kernel_rfl
theorem YLo (x:(List (List UInt8))):YX9 x=
 Zn5 x:=by kernel_rfl
theorem YQk (s0:(List (List UInt8))):Zn5 s0=
 Zo5 s0 ([]:List UInt8) (0:Int):=by unfold Zn5; rewrite [Y8]; kernel_rfl
theorem Yqd (s0:(List (List UInt8))) (s1:List UInt8) (s2:Int):Zo5 s0 s1 s2=
 bif (decide (s2 < (((length s0):Nat):Int))) then
 bif (decide (s2 > 0)) then
 bif (decide (((length s1)+(length ([46]:List UInt8)))<=(2 ^ 62))) then
 Zp5 s0 (s1++([46]:List UInt8)) s2
 else
 none
 else
 Zp5 s0 s1 s2
 else
 some s1:=by unfold Zo5; rewrite [Y8]; kernel_rfl
theorem Y0l (s0:(List (List UInt8))) (s1:List UInt8) (s2:Int):Zp5 s0 s1 s2=
 bif (Ya s2 (length s0)) then
 bif (decide (((length s1)+(length (getD s0 (Int.toNat s2) (Ty.zero .str))))<=(2 ^ 62))) then
 Zo5 s0 (s1++(getD s0 (Int.toNat s2) (Ty.zero .str))) (wrap i64 (s2+1))
 else
 none
 else
 none:=by unfold Zp5; rewrite [Y8]; kernel_rfl
theorem Y7o (x:List UInt8):YO9 x=
 Zq5 x:=by kernel_rfl
theorem Y7l (s0:List UInt8):Zq5 s0=
 bif (decide ((((length s0):Nat):Int) < 4)) then
 some (s0,(0:Int))
 else
 bif (Yi none (some (4:Int)) (length s0)) then
 (Y67 ((Ym none (some (4:Int)) s0),([120,110,45,45]:List UInt8))).bind fun y0=>
 bif (!y0) then
 some (s0,(0:Int))
 else
 bif (Yi (some (4:Int)) none (length s0)) then
 (YM9 (Ym (some (4:Int)) none s0)).bind fun y1=>
 bif (y1.2.1 !=0) then
 some (([]:List UInt8),y1.2.1)
 else
 (Yg7 y1.1).bind fun y2=>
 (Yi7 y1.1).bind fun y3=>
 bif y3 then
 some (([]:List UInt8),(31:Int))
 else
 bif (y2.2 !=0) then
 some (([]:List UInt8),(31:Int))
 else
 (Y67 (y2.1,s0)).bind fun y4=>
 bif (!y4) then
 some (([]:List UInt8),(31:Int))
 else
 some (y1.1,(0:Int))
 else
 none
 else
 none:=by unfold Zq5; rewrite [Y8]; kernel_rfl
theorem YQn (x:List UInt8):Ya7 x=
 Zr5 x:=by kernel_rfl
theorem Ydl (s0:List UInt8):Zr5 s0=
 Zs5 s0 (0:Int) ([]:List D181):=by unfold Zr5; rewrite [Y8]; kernel_rfl
theorem Ywd (s0:List UInt8) (s1:Int) (r2:List D181):Zs5 s0 s1 r2=
 bif (decide (s1 < (((length s0):Nat):Int))) then
 (Y97 (s0,(s1,false))).bind fun y0=>
 bif (decide (((length r2)+(length ([y0]:List D181)))<=(lim))) then
 Zs5 s0 (wrap i64 (s1+y0.2.1)) (r2++([y0]:List D181))
 else
 none
 else
 some r2:=by unfold Zs5; rewrite [Y8]; kernel_rfl
theorem YVn (x:List UInt8):Yd7 x=
 Zt5 x:=by kernel_rfl
theorem Yol (s0:List UInt8):Zt5 s0=
 (YMe s0).bind fun y0=>
 (YQe y0).bind fun y1=>
 some y1:=by unfold Zt5; rewrite [Y8]; kernel_rfl
theorem Yno (x:(Int×(List Int))):YYe x=
 Zu5 x.1 x.2:=by kernel_rfl
theorem Ysl (s0:Int) (s1:(List Int)):Zu5 s0 s1=
 (Ym7 (s0,(0:Int))).bind fun y0=>
 bif (y0.2 !=0) then
 some (([]:List UInt8),y0.2)
 else
 Zv5 s0 s1 ([]:List UInt8) (0:Int):=by unfold Zu5; rewrite [Y8]; kernel_rfl
theorem YEd (s0:Int) (s1:(List Int)) (s2:List UInt8) (s3:Int):Zv5 s0 s1 s2 s3=
 bif (decide (s3 < (((length s1):Nat):Int))) then
 bif (Ya s3 (length s1)) then
 (Ym7 (s0,(getD s1 (Int.toNat s3) (Ty.zero (.int .u8))))).bind fun y0=>
 bif y0.1 then
 bif (Ya s3 (length s1)) then
 (YS9 (getD s1 (Int.toNat s3) (Ty.zero (.int .u8)))).bind fun y1=>
 bif (decide (((length s2)+(length y1))<=(2 ^ 62))) then
 Zv5 s0 s1 (s2++y1) (wrap i64 (s3+1))
 else
 none
 else
 none
 else
 bif (Ya s3 (length s1)) then
 bif (decide (((length s2)+(length (Yn ([(getD s1 (Int.toNat s3) (Ty.zero (.int .u8)))]:List Int))))<=(2 ^ 62))) then
 Zv5 s0 s1 (s2++(Yn ([(getD s1 (Int.toNat s3) (Ty.zero (.int .u8)))]:List Int))) (wrap i64 (s3+1))
 else
 none
 else
 none
 else
 none
 else
 some (s2,(0:Int)):=by unfold Zv5; rewrite [Y8]; kernel_rfl
theorem Yko (x:List UInt8):YXe x=
 Zw5 x:=by kernel_rfl
theorem YBl (s0:List UInt8):Zw5 s0=
 Zx5 s0 (0:Int) ([]:List Int):=by unfold Zw5; rewrite [Y8]; kernel_rfl
theorem YJd (s0:List UInt8) (s1:Int) (r2:List Int):Zx5 s0 s1 r2=
 bif (decide (s1 < (((length s0):Nat):Int))) then
 (YT9 (s0,s1)).bind fun y0=>
 bif (decide (y0>=0)) then
 bif (decide (((length r2)+(length ([(wrap u8 y0)]:List Int)))<=(lim))) then
 Zx5 s0 (wrap i64 ((wrap i64 (s1+2))+1)) (r2++([(wrap u8 y0)]:List Int))
 else
 none
 else
 bif (Ya s1 (length s0)) then
 bif (decide (((length r2)+(length ([(((UInt8.toNat (getD s0 (Int.toNat s1) (0:UInt8))):Nat):Int)]:List Int)))<=(lim))) then
 Zx5 s0 (wrap i64 (s1+1)) (r2++([(((UInt8.toNat (getD s0 (Int.toNat s1) (0:UInt8))):Nat):Int)]:List Int))
 else
 none
 else
 none
 else
 some r2:=by unfold Zx5; rewrite [Y8]; kernel_rfl
theorem YSn (x:List UInt8):YG5 x=
 Zy5 x:=by kernel_rfl
theorem YMl (s0:List UInt8):Zy5 s0=
 (Ya7 s0).bind fun y0=>
 Zz5 s0 (0:Int) ([]:List Int) y0:=by unfold Zy5; rewrite [Y8]; kernel_rfl
theorem YMd (s0:List UInt8) (s1:Int) (r2:List Int) (r3:List D181):Zz5 s0 s1 r2 r3=
 bif (decide (s1 < (((length r3):Nat):Int))) then
 bif (Ya s1 (length r3)) then
 bif (decide (((length r2)+(length ([(getD r3 (Int.toNat s1) (Ty.zero T181)).2.2.1]:List Int)))<=(lim))) then
 Zz5 s0 (wrap i64 (s1+1)) (r2++([(getD r3 (Int.toNat s1) (Ty.zero T181)).2.2.1]:List Int)) r3
 else
 none
 else
 none
 else
 some r2:=by unfold Zz5; rewrite [Y8]; kernel_rfl
theorem YTn (x:(List Int)):Y13 x=
 Z06 x:=by kernel_rfl
theorem YUi (s0:(List Int)):Z06 s0=
 Z16 s0 (0:Int):=by unfold Z06; rewrite [Y8]; kernel_rfl
theorem Yqc (s0:(List Int)) (s1:Int):Z16 s0 s1=
 bif (decide (s1 < (((length s0):Nat):Int))) then
 bif (Ya s1 (length s0)) then
 (YM4 (getD s0 (Int.toNat s1) (Ty.zero (.int .i32)))).bind fun y0=>
 bif (!y0) then
 some (([]:List UInt8),((23:Int),s1))
 else
 Z16 s0 (wrap i64 (s1+1))
 else
 none
 else
 (YHe s0).bind fun y0=>
 some (y0,((0:Int),(0:Int))):=by unfold Z16; rewrite [Y8]; kernel_rfl
theorem YTo (x:List UInt8):Yq7 x=
 Z26 x:=by kernel_rfl
theorem Y7j (s0:List UInt8):Z26 s0=
 (YG5 s0).bind fun y0=>
 Z36 s0 (0:Int) y0:=by unfold Z26; rewrite [Y8]; kernel_rfl
theorem Yvc (s0:List UInt8) (s1:Int) (r2:List Int):Z36 s0 s1 r2=
 bif (decide (s1 < (((length r2):Nat):Int))) then
 bif (Ya s1 (length r2)) then
 bif ((getD r2 (Int.toNat s1) (Ty.zero (.int .i32)))==65533) then
 some true
 else
 Z36 s0 (wrap i64 (s1+1)) r2
 else
 none
 else
 some false:=by unfold Z36; rewrite [Y8]; kernel_rfl
theorem YHn (x:List UInt8):YE5 x=
 Z46 x:=by kernel_rfl
theorem Yhj (s0:List UInt8):Z46 s0=
 Z56 s0 (0:Int) ([]:List Int):=by unfold Z46; rewrite [Y8]; kernel_rfl
theorem YBc (s0:List UInt8) (s1:Int) (r2:List Int):Z56 s0 s1 r2=
 bif (decide (s1 < (((length s0):Nat):Int))) then
 bif (Ya s1 (length s0)) then
 bif (decide ((((UInt8.toNat (getD s0 (Int.toNat s1) (0:UInt8))):Nat):Int)>=65)) then
 bif (decide ((((UInt8.toNat (getD s0 (Int.toNat s1) (0:UInt8))):Nat):Int)<=90)) then
 Z66 s0 s1 (wrap u8 ((((UInt8.toNat (getD s0 (Int.toNat s1) (0:UInt8))):Nat):Int)+32)) r2
 else
 Z66 s0 s1 (((UInt8.toNat (getD s0 (Int.toNat s1) (0:UInt8))):Nat):Int) r2
 else
 Z66 s0 s1 (((UInt8.toNat (getD s0 (Int.toNat s1) (0:UInt8))):Nat):Int) r2
 else
 none
 else
 some (Yn r2):=by unfold Z56; rewrite [Y8]; kernel_rfl
theorem Yqj (s0:List UInt8) (s1:Int) (s2:Int) (r3:List Int):Z66 s0 s1 s2 r3=
 bif (decide (((length r3)+(length ([s2]:List Int)))<=(lim))) then
 Z56 s0 (wrap i64 (s1+1)) (r3++([s2]:List Int))
 else
 none:=by unfold Z66; rewrite [Y8]; kernel_rfl
theorem Y6o (x:List UInt8):Yg7 x=
 Z76 x:=by kernel_rfl
theorem Yyj (s0:List UInt8):Z76 s0=
 (YN9 s0).bind fun y0=>
 bif (y0.2 !=0) then
 bif (y0.2 !=0) then
 some (([]:List UInt8),y0.2)
 else
 some (s0,(0:Int))
 else
 (Yi7 s0).bind fun y1=>
 bif y1 then
 bif (y0.2 !=0) then
 some (([]:List UInt8),y0.2)
 else
 some (s0,(0:Int))
 else
 bif (decide (((length ([120,110,45,45]:List UInt8))+(length y0.1))<=(2 ^ 62))) then
 some ((([120,110,45,45]:List UInt8)++y0.1),(0:Int))
 else
 none:=by unfold Z76; rewrite [Y8]; kernel_rfl
theorem YJn (x:(List UInt8×List UInt8)):Y67 x=
 Z86 x.1 x.2:=by kernel_rfl
theorem YEj (s0:List UInt8) (s1:List UInt8):Z86 s0 s1=
 (YE5 s0).bind fun y0=>
 (YE5 s1).bind fun y1=>
 some (y0==y1):=by unfold Z86; rewrite [Y8]; kernel_rfl
theorem Y2o (x:List UInt8):YM9 x=
 Z96 x:=by kernel_rfl
theorem YJj (s0:List UInt8):Z96 s0=
 bif (decide ((((length s0):Nat):Int) > 65536)) then
 some (([]:List UInt8),((5:Int),(0:Int)))
 else
 (Yj7 s0).bind fun y0=>
 some (y0.1,(y0.2.1,y0.2.2)):=by unfold Z96; rewrite [Y8]; kernel_rfl
theorem Yao (x:List UInt8):Yi7 x=
 Za6 x:=by kernel_rfl
theorem YRj (s0:List UInt8):Za6 s0=
 Zb6 s0 (0:Int):=by unfold Za6; rewrite [Y8]; kernel_rfl
theorem YOc (s0:List UInt8) (s1:Int):Zb6 s0 s1=
 bif (decide (s1 < (((length s0):Nat):Int))) then
 bif (Ya s1 (length s0)) then
 bif (decide ((((UInt8.toNat (getD s0 (Int.toNat s1) (0:UInt8))):Nat):Int)>=128)) then
 some false
 else
 Zb6 s0 (wrap i64 (s1+1))
 else
 none
 else
 some true:=by unfold Zb6; rewrite [Y8]; kernel_rfl
theorem YPn (x:(List UInt8×(Int×Bool))):Y97 x=
 Zc6 x.1 x.2.1 x.2.2:=by kernel_rfl
theorem Y1k (s0:List UInt8) (s1:Int) (s2:Bool):Zc6 s0 s1 s2=
 Zd6 s0 s1 s2 (1:Int) ((Ty.zero (.int .i64)),((Ty.zero (.int .i64)),((Ty.zero (.int .i32)),(Ty.zero .bool)))):=by unfold Zc6; rewrite [Y8]; kernel_rfl
theorem YXc (s0:List UInt8) (s1:Int) (s2:Bool) (s3:Int) (b4:D181):Zd6 s0 s1 s2 s3 b4=
 bif (decide (s3<=4)) then
 bif (decide ((wrap i64 (s1+s3))<=(((length s0):Nat):Int))) then
 (YL9 (s0,(s1,s3))).bind fun y0=>
 (YM4 y0).bind fun y1=>
 bif y1 then
 (YM2 y0).bind fun y2=>
 bif ((((length y2):Nat):Int)==s3) then
 (YM2 y0).bind fun y3=>
 (YH5 (s0,(s1,y3))).bind fun y4=>
 bif y4 then
 some (s1,(s3,(y0,(Ty.zero .bool))))
 else
 Zd6 s0 s1 s2 (wrap i64 (s3+1)) b4
 else
 Zd6 s0 s1 s2 (wrap i64 (s3+1)) b4
 else
 bif s2 then
 bif (decide (y0>=55296)) then
 bif (decide (y0<=57343)) then
 (YM2 y0).bind fun y2=>
 bif ((((length y2):Nat):Int)==s3) then
 (YM2 y0).bind fun y3=>
 (YH5 (s0,(s1,y3))).bind fun y4=>
 bif y4 then
 some (s1,(s3,(y0,(Ty.zero .bool))))
 else
 Zd6 s0 s1 s2 (wrap i64 (s3+1)) b4
 else
 Zd6 s0 s1 s2 (wrap i64 (s3+1)) b4
 else
 Zd6 s0 s1 s2 (wrap i64 (s3+1)) b4
 else
 Zd6 s0 s1 s2 (wrap i64 (s3+1)) b4
 else
 Zd6 s0 s1 s2 (wrap i64 (s3+1)) b4
 else
 some (s1,((1:Int),((65533:Int),true)))
 else
 some (s1,((1:Int),((65533:Int),true))):=by unfold Zd6; rewrite [Y8]; kernel_rfl
theorem YWn (x:List UInt8):YMe x=
 Ze6 x:=by kernel_rfl
theorem Y6k (s0:List UInt8):Ze6 s0=
 Zf6 s0 (0:Int) ([]:List D181):=by unfold Ze6; rewrite [Y8]; kernel_rfl
theorem Y19 (s0:List UInt8) (s1:Int) (r2:List D181):Zf6 s0 s1 r2=
 bif (decide (s1 < (((length s0):Nat):Int))) then
 (Y97 (s0,(s1,false))).bind fun y0=>
 bif y0.2.2.2 then
 Zg6 s0 s1 (3:Int) y0 r2
 else
 Zh6 s0 s1 y0 r2
 else
 some r2:=by unfold Zf6; rewrite [Y8]; kernel_rfl
theorem Y29 (s0:List UInt8) (s1:Int) (s2:Int) (b3:D181) (r4:List D181):Zg6 s0 s1 s2 b3 r4=
 bif (decide (s2 > 1)) then
 (Ye7 (s0,(s1,s2))).bind fun y0=>
 bif y0 then
 Zh6 s0 s1 (b3.1,(s2,b3.2.2)) r4
 else
 Zg6 s0 s1 (wrap i64 (s2 - 1)) b3 r4
 else
 Zh6 s0 s1 b3 r4:=by unfold Zg6; rewrite [Y8]; kernel_rfl
theorem Yhk (s0:List UInt8) (s1:Int) (b2:D181) (r3:List D181):Zh6 s0 s1 b2 r3=
 bif (decide (((length r3)+(length ([b2]:List D181)))<=(lim))) then
 Zf6 s0 (wrap i64 (s1+b2.2.1)) (r3++([b2]:List D181))
 else
 none:=by unfold Zh6; rewrite [Y8]; kernel_rfl
theorem Y1o (x:(List D181)):YQe x=
 Zi6 x:=by kernel_rfl
theorem Ynk (s0:(List D181)):Zi6 s0=
 Zj6 s0 (0:Int) ([]:List Int):=by unfold Zi6; rewrite [Y8]; kernel_rfl
theorem Ygd (s0:(List D181)) (s1:Int) (r2:List Int):Zj6 s0 s1 r2=
 bif (decide (s1 < (((length s0):Nat):Int))) then
 bif (Ya s1 (length s0)) then
 (YM2 (getD s0 (Int.toNat s1) (Ty.zero T181)).2.2.1).bind fun y0=>
 bif (decide (((length r2)+(length y0))<=(lim))) then
 Zj6 s0 (wrap i64 (s1+1)) (r2++y0)
 else
 none
 else
 none
 else
 some (Yn r2):=by unfold Zj6; rewrite [Y8]; kernel_rfl
theorem Yoo (x:(Int×Int)):Ym7 x=
 Zk6 x.1 x.2:=by kernel_rfl
theorem Yzk (s0:Int) (s1:Int):Zk6 s0 s1=
 bif (decide (s0 < 1)) then
 some (false,(42:Int))
 else
 bif (decide (s0 > 8)) then
 some (false,(42:Int))
 else
 bif (decide (s1 < 32)) then
 bif (Ya s0 (length ([false,true,true,true,true,true,true,true,true]:List Bool))) then
 some ((getD ([false,true,true,true,true,true,true,true,true]:List Bool) (Int.toNat s0) (Ty.zero .bool)),(0:Int))
 else
 none
 else
 bif (decide (s1 > 126)) then
 bif (decide (s1 > 126)) then
 bif (Ya s0 (length ([false,(decide (s1 > 126)),true,true,true,true,true,true,true]:List Bool))) then
 some ((getD ([false,(decide (s1 > 126)),true,true,true,true,true,true,true]:List Bool) (Int.toNat s0) (Ty.zero .bool)),(0:Int))
 else
 none
 else
 (YJ1 (s1,([32,34,60,62,96]:List UInt8))).bind fun y0=>
 bif (Ya s0 (length ([false,(decide (s1 > 126)),y0,true,true,true,true,true,true]:List Bool))) then
 some ((getD ([false,(decide (s1 > 126)),y0,true,true,true,true,true,true]:List Bool) (Int.toNat s0) (Ty.zero .bool)),(0:Int))
 else
 none
 else
 (YJ1 (s1,([32,34,35,60,62]:List UInt8))).bind fun y0=>
 bif y0 then
 bif (decide (s1 > 126)) then
 bif y0 then
 bif (Ya s0 (length ([false,(decide (s1 > 126)),true,y0,true,true,true,true,true]:List Bool))) then
 some ((getD ([false,(decide (s1 > 126)),true,y0,true,true,true,true,true]:List Bool) (Int.toNat s0) (Ty.zero .bool)),(0:Int))
 else
 none
 else
 bif (Ya s0 (length ([false,(decide (s1 > 126)),true,y0,(s1==39),true,true,true,true]:List Bool))) then
 some ((getD ([false,(decide (s1 > 126)),true,y0,(s1==39),true,true,true,true]:List Bool) (Int.toNat s0) (Ty.zero .bool)),(0:Int))
 else
 none
 else
 (YJ1 (s1,([32,34,60,62,96]:List UInt8))).bind fun y1=>
 bif y0 then
 bif (Ya s0 (length ([false,(decide (s1 > 126)),y1,y0,true,true,true,true,true]:List Bool))) then
 some ((getD ([false,(decide (s1 > 126)),y1,y0,true,true,true,true,true]:List Bool) (Int.toNat s0) (Ty.zero .bool)),(0:Int))
 else
 none
 else
 bif (Ya s0 (length ([false,(decide (s1 > 126)),y1,y0,(s1==39),true,true,true,true]:List Bool))) then
 some ((getD ([false,(decide (s1 > 126)),y1,y0,(s1==39),true,true,true,true]:List Bool) (Int.toNat s0) (Ty.zero .bool)),(0:Int))
 else
 none
 else
 (YJ1 (s1,([63,94,96,123,125]:List UInt8))).bind fun y1=>
 bif y1 then
 bif (decide (s1 > 126)) then
 bif y0 then
 bif (Ya s0 (length ([false,(decide (s1 > 126)),true,y0,true,y1,true,true,true]:List Bool))) then
 some ((getD ([false,(decide (s1 > 126)),true,y0,true,y1,true,true,true]:List Bool) (Int.toNat s0) (Ty.zero .bool)),(0:Int))
 else
 none
 else
 bif (Ya s0 (length ([false,(decide (s1 > 126)),true,y0,(s1==39),y1,true,true,true]:List Bool))) then
 some ((getD ([false,(decide (s1 > 126)),true,y0,(s1==39),y1,true,true,true]:List Bool) (Int.toNat s0) (Ty.zero .bool)),(0:Int))
 else
 none
 else
 (YJ1 (s1,([32,34,60,62,96]:List UInt8))).bind fun y2=>
 bif y0 then
 bif (Ya s0 (length ([false,(decide (s1 > 126)),y2,y0,true,y1,true,true,true]:List Bool))) then
 some ((getD ([false,(decide (s1 > 126)),y2,y0,true,y1,true,true,true]:List Bool) (Int.toNat s0) (Ty.zero .bool)),(0:Int))
 else
 none
 else
 bif (Ya s0 (length ([false,(decide (s1 > 126)),y2,y0,(s1==39),y1,true,true,true]:List Bool))) then
 some ((getD ([false,(decide (s1 > 126)),y2,y0,(s1==39),y1,true,true,true]:List Bool) (Int.toNat s0) (Ty.zero .bool)),(0:Int))
 else
 none
 else
 (YJ1 (s1,([47,58,59,61,64,91,92,93,124]:List UInt8))).bind fun y2=>
 bif y2 then
 bif (decide (s1 > 126)) then
 bif y0 then
 bif (Ya s0 (length ([false,(decide (s1 > 126)),true,y0,true,y1,y2,true,true]:List Bool))) then
 some ((getD ([false,(decide (s1 > 126)),true,y0,true,y1,y2,true,true]:List Bool) (Int.toNat s0) (Ty.zero .bool)),(0:Int))
 else
 none
 else
 bif (Ya s0 (length ([false,(decide (s1 > 126)),true,y0,(s1==39),y1,y2,true,true]:List Bool))) then
 some ((getD ([false,(decide (s1 > 126)),true,y0,(s1==39),y1,y2,true,true]:List Bool) (Int.toNat s0) (Ty.zero .bool)),(0:Int))
 else
 none
 else
 (YJ1 (s1,([32,34,60,62,96]:List UInt8))).bind fun y3=>
 bif y0 then
 bif (Ya s0 (length ([false,(decide (s1 > 126)),y3,y0,true,y1,y2,true,true]:List Bool))) then
 some ((getD ([false,(decide (s1 > 126)),y3,y0,true,y1,y2,true,true]:List Bool) (Int.toNat s0) (Ty.zero .bool)),(0:Int))
 else
 none
 else
 bif (Ya s0 (length ([false,(decide (s1 > 126)),y3,y0,(s1==39),y1,y2,true,true]:List Bool))) then
 some ((getD ([false,(decide (s1 > 126)),y3,y0,(s1==39),y1,y2,true,true]:List Bool) (Int.toNat s0) (Ty.zero .bool)),(0:Int))
 else
 none
 else
 (YJ1 (s1,([36,37,38,43,44]:List UInt8))).bind fun y3=>
 bif (decide (s1 > 126)) then
 bif y0 then
 bif y3 then
 bif (Ya s0 (length ([false,(decide (s1 > 126)),true,y0,true,y1,y2,y3,true]:List Bool))) then
 some ((getD ([false,(decide (s1 > 126)),true,y0,true,y1,y2,y3,true]:List Bool) (Int.toNat s0) (Ty.zero .bool)),(0:Int))
 else
 none
 else
 (YJ1 (s1,([33,39,40,41,126]:List UInt8))).bind fun y4=>
 bif (Ya s0 (length ([false,(decide (s1 > 126)),true,y0,true,y1,y2,y3,y4]:List Bool))) then
 some ((getD ([false,(decide (s1 > 126)),true,y0,true,y1,y2,y3,y4]:List Bool) (Int.toNat s0) (Ty.zero .bool)),(0:Int))
 else
 none
 else
 bif y3 then
 bif (Ya s0 (length ([false,(decide (s1 > 126)),true,y0,(s1==39),y1,y2,y3,true]:List Bool))) then
 some ((getD ([false,(decide (s1 > 126)),true,y0,(s1==39),y1,y2,y3,true]:List Bool) (Int.toNat s0) (Ty.zero .bool)),(0:Int))
 else
 none
 else
 (YJ1 (s1,([33,39,40,41,126]:List UInt8))).bind fun y4=>
 bif (Ya s0 (length ([false,(decide (s1 > 126)),true,y0,(s1==39),y1,y2,y3,y4]:List Bool))) then
 some ((getD ([false,(decide (s1 > 126)),true,y0,(s1==39),y1,y2,y3,y4]:List Bool) (Int.toNat s0) (Ty.zero .bool)),(0:Int))
 else
 none
 else
 (YJ1 (s1,([32,34,60,62,96]:List UInt8))).bind fun y4=>
 bif y0 then
 bif y3 then
 bif (Ya s0 (length ([false,(decide (s1 > 126)),y4,y0,true,y1,y2,y3,true]:List Bool))) then
 some ((getD ([false,(decide (s1 > 126)),y4,y0,true,y1,y2,y3,true]:List Bool) (Int.toNat s0) (Ty.zero .bool)),(0:Int))
 else
 none
 else
 (YJ1 (s1,([33,39,40,41,126]:List UInt8))).bind fun y5=>
 bif (Ya s0 (length ([false,(decide (s1 > 126)),y4,y0,true,y1,y2,y3,y5]:List Bool))) then
 some ((getD ([false,(decide (s1 > 126)),y4,y0,true,y1,y2,y3,y5]:List Bool) (Int.toNat s0) (Ty.zero .bool)),(0:Int))
 else
 none
 else
 bif y3 then
 bif (Ya s0 (length ([false,(decide (s1 > 126)),y4,y0,(s1==39),y1,y2,y3,true]:List Bool))) then
 some ((getD ([false,(decide (s1 > 126)),y4,y0,(s1==39),y1,y2,y3,true]:List Bool) (Int.toNat s0) (Ty.zero .bool)),(0:Int))
 else
 none
 else
 (YJ1 (s1,([33,39,40,41,126]:List UInt8))).bind fun y5=>
 bif (Ya s0 (length ([false,(decide (s1 > 126)),y4,y0,(s1==39),y1,y2,y3,y5]:List Bool))) then
 some ((getD ([false,(decide (s1 > 126)),y4,y0,(s1==39),y1,y2,y3,y5]:List Bool) (Int.toNat s0) (Ty.zero .bool)),(0:Int))
 else
 none:=by unfold Zk6; rewrite [Y8]; kernel_rfl
theorem Yro (x:Int):YS9 x=
 Zl6 x:=by kernel_rfl
theorem YEk (s0:Int):Zl6 s0=
 bif (Yi (some (wrap u8 (Int.tdiv s0 (16:Int)))) (some (wrap u8 ((wrap u8 (Int.tdiv s0 (16:Int)))+1))) (length ([48,49,50,51,52,53,54,55,56,57,65,66,67,68,69,70]:List UInt8))) then
 bif (decide (((length ([37]:List UInt8))+(length (Ym (some (wrap u8 (Int.tdiv s0 (16:Int)))) (some (wrap u8 ((wrap u8 (Int.tdiv s0 (16:Int)))+1))) ([48,49,50,51,52,53,54,55,56,57,65,66,67,68,69,70]:List UInt8))))<=(2 ^ 62))) then
 bif (Yi (some (Int.tmod s0 (16:Int))) (some (wrap u8 ((Int.tmod s0 (16:Int))+1))) (length ([48,49,50,51,52,53,54,55,56,57,65,66,67,68,69,70]:List UInt8))) then
 bif (decide (((length (([37]:List UInt8)++(Ym (some (wrap u8 (Int.tdiv s0 (16:Int)))) (some (wrap u8 ((wrap u8 (Int.tdiv s0 (16:Int)))+1))) ([48,49,50,51,52,53,54,55,56,57,65,66,67,68,69,70]:List UInt8))))+(length (Ym (some (Int.tmod s0 (16:Int))) (some (wrap u8 ((Int.tmod s0 (16:Int))+1))) ([48,49,50,51,52,53,54,55,56,57,65,66,67,68,69,70]:List UInt8))))<=(2 ^ 62))) then
 some ((([37]:List UInt8)++(Ym (some (wrap u8 (Int.tdiv s0 (16:Int)))) (some (wrap u8 ((wrap u8 (Int.tdiv s0 (16:Int)))+1))) ([48,49,50,51,52,53,54,55,56,57,65,66,67,68,69,70]:List UInt8)))++(Ym (some (Int.tmod s0 (16:Int))) (some (wrap u8 ((Int.tmod s0 (16:Int))+1))) ([48,49,50,51,52,53,54,55,56,57,65,66,67,68,69,70]:List UInt8)))
 else
 none
 else
 none
 else
 none
 else
 none:=by unfold Zl6; rewrite [Y8]; kernel_rfl
theorem Yto (x:(List UInt8×Int)):YT9 x=
 Zm6 x.1 x.2:=by kernel_rfl
theorem YKk (s0:List UInt8) (s1:Int):Zm6 s0 s1=
 bif (decide ((wrap i64 (s1+2))>=(((length s0):Nat):Int))) then
 some (-(1:Int))
 else
 bif (Ya s1 (length s0)) then
 bif ((((UInt8.toNat (getD s0 (Int.toNat s1) (0:UInt8))):Nat):Int) !=37) then
 some (-(1:Int))
 else
 bif (Ya (wrap i64 (s1+1)) (length s0)) then
 (YN4 (((UInt8.toNat (getD s0 (Int.toNat (wrap i64 (s1+1))) (0:UInt8))):Nat):Int)).bind fun y0=>
 bif (decide (y0 < 0)) then
 some (-(1:Int))
 else
 bif (Ya (wrap i64 (s1+2)) (length s0)) then
 (YN4 (((UInt8.toNat (getD s0 (Int.toNat (wrap i64 (s1+2))) (0:UInt8))):Nat):Int)).bind fun y1=>
 bif (decide (y1 < 0)) then
 some (-(1:Int))
 else
 bif (Ya (wrap i64 (s1+1)) (length s0)) then
 bif (Ya (wrap i64 (s1+2)) (length s0)) then
 (YN4 (((UInt8.toNat (getD s0 (Int.toNat (wrap i64 (s1+1))) (0:UInt8))):Nat):Int)).bind fun y2=>
 (YN4 (((UInt8.toNat (getD s0 (Int.toNat (wrap i64 (s1+2))) (0:UInt8))):Nat):Int)).bind fun y3=>
 some (wrap i64 ((wrap i64 ((16:Int)*y2))+y3))
 else
 none
 else
 none
 else
 none
 else
 none
 else
 none:=by unfold Zm6; rewrite [Y8]; kernel_rfl
theorem YRn (x:Int):YM4 x=
 Zn6 x:=by kernel_rfl
theorem YRk (s0:Int):Zn6 s0=
 bif (decide (s0>=0)) then
 bif (decide (s0<=1114111)) then
 bif (decide (s0 < 55296)) then
 some true
 else
 some (decide (s0 > 57343))
 else
 some false
 else
 some false:=by unfold Zn6; rewrite [Y8]; kernel_rfl
theorem YOn (x:(List Int)):YHe x=
 Zo6 x:=by kernel_rfl
theorem YUk (s0:(List Int)):Zo6 s0=
 Zp6 s0 (0:Int) ([]:List Int):=by unfold Zo6; rewrite [Y8]; kernel_rfl
theorem Ysd (s0:(List Int)) (s1:Int) (r2:List Int):Zp6 s0 s1 r2=
 bif (decide (s1 < (((length s0):Nat):Int))) then
 bif (Ya s1 (length s0)) then
 (YM4 (getD s0 (Int.toNat s1) (Ty.zero (.int .i32)))).bind fun y0=>
 bif (!y0) then
 Zq6 s0 s1 (65533:Int) r2
 else
 Zq6 s0 s1 (getD s0 (Int.toNat s1) (Ty.zero (.int .i32))) r2
 else
 none
 else
 some (Yn r2):=by unfold Zp6; rewrite [Y8]; kernel_rfl
theorem Y8l (s0:(List Int)) (s1:Int) (s2:Int) (r3:List Int):Zq6 s0 s1 s2 r3=
 (YM2 s2).bind fun y0=>
 bif (decide (((length r3)+(length y0))<=(lim))) then
 Zp6 s0 (wrap i64 (s1+1)) (r3++y0)
 else
 none:=by unfold Zq6; rewrite [Y8]; kernel_rfl
theorem Y4o (x:List UInt8):YN9 x=
 Zr6 x:=by kernel_rfl
theorem Yel (s0:List UInt8):Zr6 s0=
 (Yc7 s0).bind fun y0=>
 bif (!y0.1) then
 some (([]:List UInt8),(21:Int))
 else
 bif (decide ((((length s0):Nat):Int) > 65536)) then
 some (([]:List UInt8),(5:Int))
 else
 (YG5 s0).bind fun y1=>
 (YP9 y1).bind fun y2=>
 (Yj7 y2).bind fun y3=>
 bif (y3.2.1==32) then
 some (([]:List UInt8),(32:Int))
 else
 some (y2,(0:Int)):=by unfold Zr6; rewrite [Y8]; kernel_rfl
theorem Ybo (x:List UInt8):Yj7 x=
 Zs6 x:=by kernel_rfl
theorem Yjl (s0:List UInt8):Zs6 s0=
 Zt6 s0 (0:Int):=by unfold Zs6; rewrite [Y8]; kernel_rfl
theorem Yzd (s0:List UInt8) (s1:Int):Zt6 s0 s1=
 bif (decide (s1 < (((length s0):Nat):Int))) then
 bif (Ya s1 (length s0)) then
 bif (decide ((((UInt8.toNat (getD s0 (Int.toNat s1) (0:UInt8))):Nat):Int)>=128)) then
 some (([]:List UInt8),((31:Int),s1))
 else
 Zt6 s0 (wrap i64 (s1+1))
 else
 none
 else
 Zu6 s0 (0:Int) (wrap i64 ((((length s0):Nat):Int) - 1)) ([]:List Int):=by unfold Zt6; rewrite [Y8]; kernel_rfl
theorem YCd (s0:List UInt8) (s1:Int) (s2:Int) (r3:List Int):Zu6 s0 s1 s2 r3=
 bif (decide (s2>=0)) then
 bif (Ya s2 (length s0)) then
 bif ((((UInt8.toNat (getD s0 (Int.toNat s2) (0:UInt8))):Nat):Int)==45) then
 Zv6 s0 s2 (0:Int) r3
 else
 Zu6 s0 s1 (wrap i64 (s2 - 1)) r3
 else
 none
 else
 Zw6 s0 s1 (((length r3):Nat):Int) (128:Int) (0:Int) (72:Int) r3:=by unfold Zu6; rewrite [Y8]; kernel_rfl
theorem YFd (s0:List UInt8) (s1:Int) (s2:Int) (r3:List Int):Zv6 s0 s1 s2 r3=
 bif (decide (s2 < s1)) then
 bif (Ya s2 (length s0)) then
 bif (decide (((length r3)+(length ([(wrap i32 (((UInt8.toNat (getD s0 (Int.toNat s2) (0:UInt8))):Nat):Int))]:List Int)))<=(lim))) then
 Zv6 s0 s1 (wrap i64 (s2+1)) (r3++([(wrap i32 (((UInt8.toNat (getD s0 (Int.toNat s2) (0:UInt8))):Nat):Int))]:List Int))
 else
 none
 else
 none
 else
 Zw6 s0 (wrap i64 (s1+1)) (((length r3):Nat):Int) (128:Int) (0:Int) (72:Int) r3:=by unfold Zv6; rewrite [Y8]; kernel_rfl
theorem YHd (s0:List UInt8) (s1:Int) (s2:Int) (s3:Int) (s4:Int) (s5:Int) (r6:List Int):Zw6 s0 s1 s2 s3 s4 s5 r6=
 bif (decide (s1 < (((length s0):Nat):Int))) then
 Zx6 s0 s1 s2 s3 s4 s5 s1 s4 (1:Int) (36:Int) r6
 else
 (Y13 r6).bind fun y0=>
 some (y0.1,((0:Int),(0:Int))):=by unfold Zw6; rewrite [Y8]; kernel_rfl
theorem YKd (s0:List UInt8) (s1:Int) (s2:Int) (s3:Int) (s4:Int) (s5:Int) (s6:Int) (s7:Int) (s8:Int) (s9:Int) (r10:List Int):Zx6 s0 s1 s2 s3 s4 s5 s6 s7 s8 s9 r10=
 bif (decide (s1>=(((length s0):Nat):Int))) then
 some (([]:List UInt8),((31:Int),(((length s0):Nat):Int)))
 else
 bif (Ya s1 (length s0)) then
 (YR9 (((UInt8.toNat (getD s0 (Int.toNat s1) (0:UInt8))):Nat):Int)).bind fun y0=>
 bif (decide (y0 < 0)) then
 some (([]:List UInt8),((31:Int),s1))
 else
 bif (decide ((wrap i64 (s4+(wrap i64 (y0*s8)))) > 2147483647)) then
 some (([]:List UInt8),((32:Int),s6))
 else
 (Yl7 (s9,s5)).bind fun y1=>
 bif (decide (y0 < y1)) then
 (Yh7 ((wrap i64 ((wrap i64 (s4+(wrap i64 (y0*s8)))) - s7)),((wrap i64 ((((length r10):Nat):Int)+1)),((((length r10):Nat):Int)==s2)))).bind fun y2=>
 bif ((wrap i64 ((((length r10):Nat):Int)+1)) !=0) then
 bif (decide ((wrap i64 (s3+(wrap i64 (Int.tdiv (wrap i64 (s4+(wrap i64 (y0*s8)))) (wrap i64 ((((length r10):Nat):Int)+1)))))) > 1114111)) then
 some (([]:List UInt8),((32:Int),s6))
 else
 bif (decide ((wrap i64 (s3+(wrap i64 (Int.tdiv (wrap i64 (s4+(wrap i64 (y0*s8)))) (wrap i64 ((((length r10):Nat):Int)+1))))))>=55296)) then
 bif (decide ((wrap i64 (s3+(wrap i64 (Int.tdiv (wrap i64 (s4+(wrap i64 (y0*s8)))) (wrap i64 ((((length r10):Nat):Int)+1))))))<=57343)) then
 some (([]:List UInt8),((32:Int),s6))
 else
 bif ((wrap i64 ((((length r10):Nat):Int)+1)) !=0) then
 bif (Yi (some (Int.tmod (wrap i64 (s4+(wrap i64 (y0*s8)))) (wrap i64 ((((length r10):Nat):Int)+1)))) none (length r10)) then
 bif (decide ((length (List.drop (Option.getD (Option.map (Int.toNat) (some (Int.tmod (wrap i64 (s4+(wrap i64 (y0*s8)))) (wrap i64 ((((length r10):Nat):Int)+1))))) 0) (List.take (Option.getD (Option.map (Int.toNat) none) (length r10)) r10)))<=(lim))) then
 bif (Yi none (some (Int.tmod (wrap i64 (s4+(wrap i64 (y0*s8)))) (wrap i64 ((((length r10):Nat):Int)+1)))) (length r10)) then
 bif (decide (((length (List.take (Option.getD (Option.map (Int.toNat) (some (Int.tmod (wrap i64 (s4+(wrap i64 (y0*s8)))) (wrap i64 ((((length r10):Nat):Int)+1))))) (length r10)) r10))+(length ([(wrap i32 (wrap i64 (s3+(wrap i64 (Int.tdiv (wrap i64 (s4+(wrap i64 (y0*s8)))) (wrap i64 ((((length r10):Nat):Int)+1)))))))]:List Int)))<=(lim))) then
 bif (decide (((length ((List.take (Option.getD (Option.map (Int.toNat) (some (Int.tmod (wrap i64 (s4+(wrap i64 (y0*s8)))) (wrap i64 ((((length r10):Nat):Int)+1))))) (length r10)) r10)++([(wrap i32 (wrap i64 (s3+(wrap i64 (Int.tdiv (wrap i64 (s4+(wrap i64 (y0*s8)))) (wrap i64 ((((length r10):Nat):Int)+1)))))))]:List Int)))+(length (List.drop (Option.getD (Option.map (Int.toNat) (some (Int.tmod (wrap i64 (s4+(wrap i64 (y0*s8)))) (wrap i64 ((((length r10):Nat):Int)+1))))) 0) (List.take (Option.getD (Option.map (Int.toNat) none) (length r10)) r10))))<=(lim))) then
 Zw6 s0 (wrap i64 (s1+1)) s2 (wrap i64 (s3+(wrap i64 (Int.tdiv (wrap i64 (s4+(wrap i64 (y0*s8)))) (wrap i64 ((((length r10):Nat):Int)+1)))))) (wrap i64 ((Int.tmod (wrap i64 (s4+(wrap i64 (y0*s8)))) (wrap i64 ((((length r10):Nat):Int)+1)))+1)) y2 (((List.take (Option.getD (Option.map (Int.toNat) (some (Int.tmod (wrap i64 (s4+(wrap i64 (y0*s8)))) (wrap i64 ((((length r10):Nat):Int)+1))))) (length r10)) r10)++([(wrap i32 (wrap i64 (s3+(wrap i64 (Int.tdiv (wrap i64 (s4+(wrap i64 (y0*s8)))) (wrap i64 ((((length r10):Nat):Int)+1)))))))]:List Int))++(List.drop (Option.getD (Option.map (Int.toNat) (some (Int.tmod (wrap i64 (s4+(wrap i64 (y0*s8)))) (wrap i64 ((((length r10):Nat):Int)+1))))) 0) (List.take (Option.getD (Option.map (Int.toNat) none) (length r10)) r10)))
 else
 none
 else
 none
 else
 none
 else
 none
 else
 none
 else
 none
 else
 bif ((wrap i64 ((((length r10):Nat):Int)+1)) !=0) then
 bif (Yi (some (Int.tmod (wrap i64 (s4+(wrap i64 (y0*s8)))) (wrap i64 ((((length r10):Nat):Int)+1)))) none (length r10)) then
 bif (decide ((length (List.drop (Option.getD (Option.map (Int.toNat) (some (Int.tmod (wrap i64 (s4+(wrap i64 (y0*s8)))) (wrap i64 ((((length r10):Nat):Int)+1))))) 0) (List.take (Option.getD (Option.map (Int.toNat) none) (length r10)) r10)))<=(lim))) then
 bif (Yi none (some (Int.tmod (wrap i64 (s4+(wrap i64 (y0*s8)))) (wrap i64 ((((length r10):Nat):Int)+1)))) (length r10)) then
 bif (decide (((length (List.take (Option.getD (Option.map (Int.toNat) (some (Int.tmod (wrap i64 (s4+(wrap i64 (y0*s8)))) (wrap i64 ((((length r10):Nat):Int)+1))))) (length r10)) r10))+(length ([(wrap i32 (wrap i64 (s3+(wrap i64 (Int.tdiv (wrap i64 (s4+(wrap i64 (y0*s8)))) (wrap i64 ((((length r10):Nat):Int)+1)))))))]:List Int)))<=(lim))) then
 bif (decide (((length ((List.take (Option.getD (Option.map (Int.toNat) (some (Int.tmod (wrap i64 (s4+(wrap i64 (y0*s8)))) (wrap i64 ((((length r10):Nat):Int)+1))))) (length r10)) r10)++([(wrap i32 (wrap i64 (s3+(wrap i64 (Int.tdiv (wrap i64 (s4+(wrap i64 (y0*s8)))) (wrap i64 ((((length r10):Nat):Int)+1)))))))]:List Int)))+(length (List.drop (Option.getD (Option.map (Int.toNat) (some (Int.tmod (wrap i64 (s4+(wrap i64 (y0*s8)))) (wrap i64 ((((length r10):Nat):Int)+1))))) 0) (List.take (Option.getD (Option.map (Int.toNat) none) (length r10)) r10))))<=(lim))) then
 Zw6 s0 (wrap i64 (s1+1)) s2 (wrap i64 (s3+(wrap i64 (Int.tdiv (wrap i64 (s4+(wrap i64 (y0*s8)))) (wrap i64 ((((length r10):Nat):Int)+1)))))) (wrap i64 ((Int.tmod (wrap i64 (s4+(wrap i64 (y0*s8)))) (wrap i64 ((((length r10):Nat):Int)+1)))+1)) y2 (((List.take (Option.getD (Option.map (Int.toNat) (some (Int.tmod (wrap i64 (s4+(wrap i64 (y0*s8)))) (wrap i64 ((((length r10):Nat):Int)+1))))) (length r10)) r10)++([(wrap i32 (wrap i64 (s3+(wrap i64 (Int.tdiv (wrap i64 (s4+(wrap i64 (y0*s8)))) (wrap i64 ((((length r10):Nat):Int)+1)))))))]:List Int))++(List.drop (Option.getD (Option.map (Int.toNat) (some (Int.tmod (wrap i64 (s4+(wrap i64 (y0*s8)))) (wrap i64 ((((length r10):Nat):Int)+1))))) 0) (List.take (Option.getD (Option.map (Int.toNat) none) (length r10)) r10)))
 else
 none
 else
 none
 else
 none
 else
 none
 else
 none
 else
 none
 else
 none
 else
 bif (decide ((wrap i64 (s8*(wrap i64 ((36:Int) - y1)))) > 2147483647)) then
 some (([]:List UInt8),((32:Int),s6))
 else
 Zx6 s0 (wrap i64 (s1+1)) s2 s3 (wrap i64 (s4+(wrap i64 (y0*s8)))) s5 s6 s7 (wrap i64 (s8*(wrap i64 ((36:Int) - y1)))) (wrap i64 (s9+36)) r10
 else
 none:=by unfold Zx6; rewrite [Y8]; kernel_rfl
theorem YYn (x:(List UInt8×(Int×Int))):YL9 x=
 Zy6 x.1 x.2.1 x.2.2:=by kernel_rfl
theorem YNl (s0:List UInt8) (s1:Int) (s2:Int):Zy6 s0 s1 s2=
 bif (Ya s1 (length s0)) then
 bif (Ya s2 (length ([0,127,31,15,7]:List Int))) then
 Zz6 s0 s1 s2 (wrap i32 (bits Go.BinOp.and u8 (((UInt8.toNat (getD s0 (Int.toNat s1) (0:UInt8))):Nat):Int) (getD ([0,127,31,15,7]:List Int) (Int.toNat s2) (Ty.zero (.int .u8))))) (1:Int)
 else
 none
 else
 none:=by unfold Zy6; rewrite [Y8]; kernel_rfl
theorem YNd (s0:List UInt8) (s1:Int) (s2:Int) (s3:Int) (s4:Int):Zz6 s0 s1 s2 s3 s4=
 bif (decide (s4 < s2)) then
 bif (Ya (wrap i64 (s1+s4)) (length s0)) then
 Zz6 s0 s1 s2 (wrap i32 ((wrap i32 (s3*64))+(wrap i32 (bits Go.BinOp.and u8 (((UInt8.toNat (getD s0 (Int.toNat (wrap i64 (s1+s4))) (0:UInt8))):Nat):Int) (63:Int))))) (wrap i64 (s4+1))
 else
 none
 else
 some s3:=by unfold Zz6; rewrite [Y8]; kernel_rfl
theorem YNn (x:Int):YM2 x=
 Z07 x:=by kernel_rfl
theorem YVi (s0:Int):Z07 s0=
 bif (decide (s0 < 128)) then
 some ([(wrap u8 s0)]:List Int)
 else
 bif (decide (s0 < 2048)) then
 some ([(wrap u8 (wrap i32 ((192:Int)+(wrap i32 (Int.tdiv s0 (64:Int)))))),(wrap u8 (wrap i32 ((128:Int)+(Int.tmod s0 (64:Int)))))]:List Int)
 else
 bif (decide (s0 < 65536)) then
 some ([(wrap u8 (wrap i32 ((224:Int)+(wrap i32 (Int.tdiv s0 (4096:Int)))))),(wrap u8 (wrap i32 ((128:Int)+(Int.tmod (wrap i32 (Int.tdiv s0 (64:Int))) (64:Int))))),(wrap u8 (wrap i32 ((128:Int)+(Int.tmod s0 (64:Int)))))]:List Int)
 else
 some ([(wrap u8 (wrap i32 ((240:Int)+(wrap i32 (Int.tdiv s0 (262144:Int)))))),(wrap u8 (wrap i32 ((128:Int)+(Int.tmod (wrap i32 (Int.tdiv s0 (4096:Int))) (64:Int))))),(wrap u8 (wrap i32 ((128:Int)+(Int.tmod (wrap i32 (Int.tdiv s0 (64:Int))) (64:Int))))),(wrap u8 (wrap i32 ((128:Int)+(Int.tmod s0 (64:Int)))))]:List Int):=by unfold Z07; rewrite [Y8]; kernel_rfl
theorem YXn (x:(List UInt8×(Int×(List Int)))):YH5 x=
 Z17 x.1 x.2.1 x.2.2:=by kernel_rfl
theorem Y0j (s0:List UInt8) (s1:Int) (s2:(List Int)):Z17 s0 s1 s2=
 bif (decide ((wrap i64 ((((length s0):Nat):Int) - s1)) < (((length s2):Nat):Int))) then
 some false
 else
 Z27 s0 s1 s2 (0:Int):=by unfold Z17; rewrite [Y8]; kernel_rfl
theorem Yrc (s0:List UInt8) (s1:Int) (s2:(List Int)) (s3:Int):Z27 s0 s1 s2 s3=
 bif (decide (s3 < (((length s2):Nat):Int))) then
 bif (Ya (wrap i64 (s1+s3)) (length s0)) then
 bif (Ya s3 (length s2)) then
 bif ((((UInt8.toNat (getD s0 (Int.toNat (wrap i64 (s1+s3))) (0:UInt8))):Nat):Int) !=(getD s2 (Int.toNat s3) (Ty.zero (.int .u8)))) then
 some false
 else
 Z27 s0 s1 s2 (wrap i64 (s3+1))
 else
 none
 else
 none
 else
 some true:=by unfold Z27; rewrite [Y8]; kernel_rfl
theorem YOe (x:(List UInt8×(Int×Int))):Ye7 x=
 Z37 x.1 x.2.1 x.2.2:=by kernel_rfl
theorem Ywc (s0:List UInt8) (s1:Int) (s2:Int):Z37 s0 s1 s2=
 bif (decide ((wrap i64 (s1+s2)) > (((length s0):Nat):Int))) then
 some false
 else
 Z47 s0 s1 s2 (wrap i64 (s2+1)):=by unfold Z37; rewrite [Y8]; kernel_rfl
theorem YY8 (s0:List UInt8) (s1:Int) (s2:Int) (s3:Int):Z47 s0 s1 s2 s3=
 bif (decide (s3<=4)) then
 bif (Ya s1 (length s0)) then
 bif (Ya s3 (length ([0,127,31,15,7]:List Int))) then
 Z57 s0 s1 s2 s3 (wrap i32 (bits Go.BinOp.and u8 (((UInt8.toNat (getD s0 (Int.toNat s1) (0:UInt8))):Nat):Int) (getD ([0,127,31,15,7]:List Int) (Int.toNat s3) (Ty.zero (.int .u8))))) (wrap i32 (bits Go.BinOp.and u8 (((UInt8.toNat (getD s0 (Int.toNat s1) (0:UInt8))):Nat):Int) (getD ([0,127,31,15,7]:List Int) (Int.toNat s3) (Ty.zero (.int .u8))))) (1:Int)
 else
 none
 else
 none
 else
 some false:=by unfold Z47; rewrite [Y8]; kernel_rfl
theorem YZ8 (s0:List UInt8) (s1:Int) (s2:Int) (s3:Int) (s4:Int) (s5:Int) (s6:Int):Z57 s0 s1 s2 s3 s4 s5 s6=
 bif (decide (s6 < s3)) then
 bif (decide (s6 < s2)) then
 bif (Ya (wrap i64 (s1+s6)) (length s0)) then
 bif (Ya (wrap i64 (s1+s6)) (length s0)) then
 Z57 s0 s1 s2 s3 (wrap i32 ((wrap i32 (s4*64))+(wrap i32 (bits Go.BinOp.and u8 (((UInt8.toNat (getD s0 (Int.toNat (wrap i64 (s1+s6))) (0:UInt8))):Nat):Int) (63:Int))))) (wrap i32 ((wrap i32 (s5*64))+(wrap i32 (bits Go.BinOp.and u8 (((UInt8.toNat (getD s0 (Int.toNat (wrap i64 (s1+s6))) (0:UInt8))):Nat):Int) (63:Int))))) (wrap i64 (s6+1))
 else
 none
 else
 none
 else
 Z57 s0 s1 s2 s3 (wrap i32 (s4*64)) (wrap i32 ((wrap i32 (s5*64))+63)) (wrap i64 (s6+1))
 else
 (Yf7 (s0,(s1,(s2,(s3,s4))))).bind fun y0=>
 bif y0 then
 some true
 else
 (Yf7 (s0,(s1,(s2,(s3,s5))))).bind fun y1=>
 bif y1 then
 some true
 else
 Z47 s0 s1 s2 (wrap i64 (s3+1)):=by unfold Z57; rewrite [Y8]; kernel_rfl
theorem Yqo (x:(Int×List UInt8)):YJ1 x=
 Z67 x.1 x.2:=by kernel_rfl
theorem Yrj (s0:Int) (s1:List UInt8):Z67 s0 s1=
 Z77 s0 s1 (0:Int):=by unfold Z67; rewrite [Y8]; kernel_rfl
theorem YFc (s0:Int) (s1:List UInt8) (s2:Int):Z77 s0 s1 s2=
 bif (decide (s2 < (((length s1):Nat):Int))) then
 bif (Ya s2 (length s1)) then
 bif ((((UInt8.toNat (getD s1 (Int.toNat s2) (0:UInt8))):Nat):Int)==s0) then
 some true
 else
 Z77 s0 s1 (wrap i64 (s2+1))
 else
 none
 else
 some false:=by unfold Z77; rewrite [Y8]; kernel_rfl
theorem Ypo (x:Int):YN4 x=
 Z87 x:=by kernel_rfl
theorem YFj (s0:Int):Z87 s0=
 bif (decide (s0>=48)) then
 bif (decide (s0<=57)) then
 some (wrap i64 (wrap u8 (s0 - 48)))
 else
 bif (decide (s0>=97)) then
 bif (decide (s0<=102)) then
 some (wrap i64 ((wrap i64 (wrap u8 (s0 - 97)))+10))
 else
 bif (decide (s0>=65)) then
 bif (decide (s0<=70)) then
 some (wrap i64 ((wrap i64 (wrap u8 (s0 - 65)))+10))
 else
 some (-(1:Int))
 else
 some (-(1:Int))
 else
 bif (decide (s0>=65)) then
 bif (decide (s0<=70)) then
 some (wrap i64 ((wrap i64 (wrap u8 (s0 - 65)))+10))
 else
 some (-(1:Int))
 else
 some (-(1:Int))
 else
 bif (decide (s0>=97)) then
 bif (decide (s0<=102)) then
 some (wrap i64 ((wrap i64 (wrap u8 (s0 - 97)))+10))
 else
 bif (decide (s0>=65)) then
 bif (decide (s0<=70)) then
 some (wrap i64 ((wrap i64 (wrap u8 (s0 - 65)))+10))
 else
 some (-(1:Int))
 else
 some (-(1:Int))
 else
 bif (decide (s0>=65)) then
 bif (decide (s0<=70)) then
 some (wrap i64 ((wrap i64 (wrap u8 (s0 - 65)))+10))
 else
 some (-(1:Int))
 else
 some (-(1:Int)):=by unfold Z87; rewrite [Y8]; kernel_rfl
theorem Ydo (x:(List Int)):YP9 x=
 Z97 x:=by kernel_rfl
theorem YKj (s0:(List Int)):Z97 s0=
 Za7 s0 (0:Int) ([]:List Int):=by unfold Z97; rewrite [Y8]; kernel_rfl
theorem YLc (s0:(List Int)) (s1:Int) (r2:List Int):Za7 s0 s1 r2=
 bif (decide (s1 < (((length s0):Nat):Int))) then
 bif (Ya s1 (length s0)) then
 bif (decide ((getD s0 (Int.toNat s1) (Ty.zero (.int .i32))) < 128)) then
 bif (Ya s1 (length s0)) then
 bif (decide (((length r2)+(length ([(wrap u8 (getD s0 (Int.toNat s1) (Ty.zero (.int .i32))))]:List Int)))<=(lim))) then
 Za7 s0 (wrap i64 (s1+1)) (r2++([(wrap u8 (getD s0 (Int.toNat s1) (Ty.zero (.int .i32))))]:List Int))
 else
 none
 else
 none
 else
 Za7 s0 (wrap i64 (s1+1)) r2
 else
 none
 else
 bif (decide ((((length r2):Nat):Int) > 0)) then
 bif (decide (((length r2)+(length ([45]:List Int)))<=(lim))) then
 Zb7 s0 (((length r2):Nat):Int) (((length r2):Nat):Int) (r2++([45]:List Int))
 else
 none
 else
 Zb7 s0 (((length r2):Nat):Int) (((length r2):Nat):Int) r2:=by unfold Za7; rewrite [Y8]; kernel_rfl
theorem YXj (s0:(List Int)) (s1:Int) (s2:Int) (r3:List Int):Zb7 s0 s1 s2 r3=
 Zc7 s0 s1 s2 (128:Int) (72:Int) (0:Int) r3:=by unfold Zb7; rewrite [Y8]; kernel_rfl
theorem YRc (s0:(List Int)) (s1:Int) (s2:Int) (s3:Int) (s4:Int) (s5:Int) (r6:List Int):Zc7 s0 s1 s2 s3 s4 s5 r6=
 bif (decide (s2 < (((length s0):Nat):Int))) then
 Zd7 s0 s1 s2 s3 s4 s5 (1073741824:Int) (0:Int) r6
 else
 some (Yn r6):=by unfold Zc7; rewrite [Y8]; kernel_rfl
theorem YYc (s0:(List Int)) (s1:Int) (s2:Int) (s3:Int) (s4:Int) (s5:Int) (s6:Int) (s7:Int) (r8:List Int):Zd7 s0 s1 s2 s3 s4 s5 s6 s7 r8=
 bif (decide (s7 < (((length s0):Nat):Int))) then
 bif (Ya s7 (length s0)) then
 bif (decide ((wrap i64 (getD s0 (Int.toNat s7) (Ty.zero (.int .i32))))>=s3)) then
 bif (Ya s7 (length s0)) then
 bif (decide ((wrap i64 (getD s0 (Int.toNat s7) (Ty.zero (.int .i32)))) < s6)) then
 bif (Ya s7 (length s0)) then
 Zd7 s0 s1 s2 s3 s4 s5 (wrap i64 (getD s0 (Int.toNat s7) (Ty.zero (.int .i32)))) (wrap i64 (s7+1)) r8
 else
 none
 else
 Zd7 s0 s1 s2 s3 s4 s5 s6 (wrap i64 (s7+1)) r8
 else
 none
 else
 Zd7 s0 s1 s2 s3 s4 s5 s6 (wrap i64 (s7+1)) r8
 else
 none
 else
 Ze7 s0 s1 s2 s6 s4 (wrap i64 (s5+(wrap i64 ((wrap i64 (s6 - s3))*(wrap i64 (s2+1)))))) (0:Int) r8:=by unfold Zd7; rewrite [Y8]; kernel_rfl
theorem Y1d (s0:(List Int)) (s1:Int) (s2:Int) (s3:Int) (s4:Int) (s5:Int) (s6:Int) (r7:List Int):Ze7 s0 s1 s2 s3 s4 s5 s6 r7=
 bif (decide (s6 < (((length s0):Nat):Int))) then
 bif (Ya s6 (length s0)) then
 bif (decide ((wrap i64 (getD s0 (Int.toNat s6) (Ty.zero (.int .i32)))) < s3)) then
 Zf7 s0 s1 s2 s3 s4 (wrap i64 (s5+1)) s6 r7
 else
 Zf7 s0 s1 s2 s3 s4 s5 s6 r7
 else
 none
 else
 Zc7 s0 s1 s2 (wrap i64 (s3+1)) s4 (wrap i64 (s5+1)) r7:=by unfold Ze7; rewrite [Y8]; kernel_rfl
theorem Y5d (s0:(List Int)) (s1:Int) (s2:Int) (s3:Int) (s4:Int) (s5:Int) (s6:Int) (r7:List Int):Zf7 s0 s1 s2 s3 s4 s5 s6 r7=
 bif (Ya s6 (length s0)) then
 bif ((wrap i64 (getD s0 (Int.toNat s6) (Ty.zero (.int .i32)))) !=s3) then
 Ze7 s0 s1 s2 s3 s4 s5 (wrap i64 (s6+1)) r7
 else
 Zg7 s0 s1 s2 s3 s4 s5 s6 s5 (36:Int) r7
 else
 none:=by unfold Zf7; rewrite [Y8]; kernel_rfl
theorem Y9d (s0:(List Int)) (s1:Int) (s2:Int) (s3:Int) (s4:Int) (s5:Int) (s6:Int) (s7:Int) (s8:Int) (r9:List Int):Zg7 s0 s1 s2 s3 s4 s5 s6 s7 s8 r9=
 (Yl7 (s8,s4)).bind fun y0=>
 bif (decide (s7 < y0)) then
 (Yk7 s7).bind fun y1=>
 bif (decide (((length r9)+(length ([y1]:List Int)))<=(lim))) then
 (Yh7 (s5,((wrap i64 (s2+1)),(s2==s1)))).bind fun y2=>
 Ze7 s0 s1 (wrap i64 (s2+1)) s3 y2 (0:Int) (wrap i64 (s6+1)) (r9++([y1]:List Int))
 else
 none
 else
 bif ((wrap i64 ((36:Int) - y0)) !=0) then
 (Yk7 (wrap i64 (y0+(Int.tmod (wrap i64 (s7 - y0)) (wrap i64 ((36:Int) - y0)))))).bind fun y1=>
 bif (decide (((length r9)+(length ([y1]:List Int)))<=(lim))) then
 bif ((wrap i64 ((36:Int) - y0)) !=0) then
 Zg7 s0 s1 s2 s3 s4 s5 s6 (wrap i64 (Int.tdiv (wrap i64 (s7 - y0)) (wrap i64 ((36:Int) - y0)))) (wrap i64 (s8+36)) (r9++([y1]:List Int))
 else
 none
 else
 none
 else
 none:=by unfold Zg7; rewrite [Y8]; kernel_rfl
theorem Ygo (x:Int):YR9 x=
 Zh7 x:=by kernel_rfl
theorem Yik (s0:Int):Zh7 s0=
 bif (decide (s0>=97)) then
 bif (decide (s0<=122)) then
 some (wrap i64 (wrap u8 (s0 - 97)))
 else
 bif (decide (s0>=65)) then
 bif (decide (s0<=90)) then
 some (wrap i64 (wrap u8 (s0 - 65)))
 else
 bif (decide (s0>=48)) then
 bif (decide (s0<=57)) then
 some (wrap i64 ((wrap i64 (wrap u8 (s0 - 48)))+26))
 else
 some (-(1:Int))
 else
 some (-(1:Int))
 else
 bif (decide (s0>=48)) then
 bif (decide (s0<=57)) then
 some (wrap i64 ((wrap i64 (wrap u8 (s0 - 48)))+26))
 else
 some (-(1:Int))
 else
 some (-(1:Int))
 else
 bif (decide (s0>=65)) then
 bif (decide (s0<=90)) then
 some (wrap i64 (wrap u8 (s0 - 65)))
 else
 bif (decide (s0>=48)) then
 bif (decide (s0<=57)) then
 some (wrap i64 ((wrap i64 (wrap u8 (s0 - 48)))+26))
 else
 some (-(1:Int))
 else
 some (-(1:Int))
 else
 bif (decide (s0>=48)) then
 bif (decide (s0<=57)) then
 some (wrap i64 ((wrap i64 (wrap u8 (s0 - 48)))+26))
 else
 some (-(1:Int))
 else
 some (-(1:Int)):=by unfold Zh7; rewrite [Y8]; kernel_rfl
theorem Yfo (x:(Int×Int)):Yl7 x=
 Zi7 x.1 x.2:=by kernel_rfl
theorem Yok (s0:Int) (s1:Int):Zi7 s0 s1=
 bif (decide (s0<=s1)) then
 some (1:Int)
 else
 bif (decide (s0>=(wrap i64 (s1+26)))) then
 some (26:Int)
 else
 some (wrap i64 (s0 - s1)):=by unfold Zi7; rewrite [Y8]; kernel_rfl
theorem Y9o (x:(Int×(Int×Bool))):Yh7 x=
 Zj7 x.1 x.2.1 x.2.2:=by kernel_rfl
theorem Ysk (s0:Int) (s1:Int) (s2:Bool):Zj7 s0 s1 s2=
 bif s2 then
 Zk7 (wrap i64 (Int.tdiv s0 (700:Int))) s1 s2
 else
 Zk7 (wrap i64 (Int.tdiv s0 (2:Int))) s1 s2:=by unfold Zj7; rewrite [Y8]; kernel_rfl
theorem YAk (s0:Int) (s1:Int) (s2:Bool):Zk7 s0 s1 s2=
 bif (s1 !=0) then
 Zl7 (wrap i64 (s0+(wrap i64 (Int.tdiv s0 s1)))) s1 s2 (0:Int)
 else
 none:=by unfold Zk7; rewrite [Y8]; kernel_rfl
theorem Ykd (s0:Int) (s1:Int) (s2:Bool) (s3:Int):Zl7 s0 s1 s2 s3=
 bif (decide (s0 > 455)) then
 Zl7 (wrap i64 (Int.tdiv s0 (35:Int))) s1 s2 (wrap i64 (s3+36))
 else
 bif ((wrap i64 (s0+38)) !=0) then
 some (wrap i64 (s3+(wrap i64 (Int.tdiv (wrap i64 ((36:Int)*s0)) (wrap i64 (s0+38))))))
 else
 none:=by unfold Zl7; rewrite [Y8]; kernel_rfl
theorem Y0o (x:(List UInt8×(Int×(Int×(Int×Int))))):Yf7 x=
 Zm7 x.1 x.2.1 x.2.2.1 x.2.2.2.1 x.2.2.2.2:=by kernel_rfl
theorem YLk (s0:List UInt8) (s1:Int) (s2:Int) (s3:Int) (s4:Int):Zm7 s0 s1 s2 s3 s4=
 Zn7 s0 s1 s2 s3 s4 (0:Int) ([0,0,128,2048,65536]:List Int):=by unfold Zm7; rewrite [Y8]; kernel_rfl
theorem Y39 (s0:List UInt8) (s1:Int) (s2:Int) (s3:Int) (s4:Int) (s5:Int) (r6:List Int):Zn7 s0 s1 s2 s3 s4 s5 r6=
 bif (decide (s5 < 2)) then
 bif (s5==1) then
 bif (Ya s3 (length r6)) then
 bif (decide (s4 < (getD r6 (Int.toNat s3) (Ty.zero (.int .i32))))) then
 bif (Ya s3 (length r6)) then
 Zo7 s0 s1 s2 s3 s4 s5 (getD r6 (Int.toNat s3) (Ty.zero (.int .i32))) r6
 else
 none
 else
 Zo7 s0 s1 s2 s3 s4 s5 s4 r6
 else
 none
 else
 Zo7 s0 s1 s2 s3 s4 s5 s4 r6
 else
 some false:=by unfold Zn7; rewrite [Y8]; kernel_rfl
theorem YVk (s0:List UInt8) (s1:Int) (s2:Int) (s3:Int) (s4:Int) (s5:Int) (s6:Int) (r7:List Int):Zo7 s0 s1 s2 s3 s4 s5 s6 r7=
 (YM4 s6).bind fun y0=>
 bif y0 then
 (YM2 s6).bind fun y1=>
 bif ((((length y1):Nat):Int)==s3) then
 (YM2 s6).bind fun y2=>
 bif (Yi none (some s2) (length y2)) then
 (YH5 (s0,(s1,(List.drop (Option.getD (Option.map (Int.toNat) none) 0) (List.take (Option.getD (Option.map (Int.toNat) (some s2)) (length y2)) y2))))).bind fun y3=>
 bif y3 then
 some true
 else
 Zn7 s0 s1 s2 s3 s4 (wrap i64 (s5+1)) r7
 else
 none
 else
 Zn7 s0 s1 s2 s3 s4 (wrap i64 (s5+1)) r7
 else
 Zn7 s0 s1 s2 s3 s4 (wrap i64 (s5+1)) r7:=by unfold Zo7; rewrite [Y8]; kernel_rfl
theorem Yco (x:Int):Yk7 x=
 Zp7 x:=by kernel_rfl
theorem Y1l (s0:Int):Zp7 s0=
 bif (decide (s0 < 26)) then
 some (wrap u8 (wrap i64 ((97:Int)+s0)))
 else
 some (wrap u8 (wrap i64 ((wrap i64 ((48:Int)+s0)) - 26))):=by unfold Zp7; rewrite [Y8]; kernel_rfl
end
end Go.Abs
