/- Part Q2 of the proof: see the last text of the claim. No condition of its own. -/
import Derived.Test.YtddagflhafkbnaaGreatDoorQ1
set_option linter.all false
set_option autoImplicit false
namespace Go.Abs
noncomputable section
open IntKind List
def Yb7 (x:(List UInt8×Bool)):Option (D35×Int):=Abs.Call E 55 x
def Zs1 (s0:List UInt8) (s1:Bool):Option (D35×Int):=(Abs.Run E 55 (E.at 55 []) ⟨Y7 [(1,(.val .bool s1)),(0,(.val .str s0))],Ye [],Yf []⟩)
def YM5 (x:List UInt8):Option (List UInt8×Int):=Abs.Call E 57 x
def Zt1 (s0:List UInt8):Option (List UInt8×Int):=(Abs.Run E 57 (E.at 57 []) ⟨Y7 [(0,(.val .str s0))],Ye [],Yf []⟩)
def Zu1 (s0:List UInt8) (s1:Int) (r2:List (List UInt8)):Option (List UInt8×Int):=(Abs.Run E 57 (E.at 57 [1,1,1,1,1,0,1,0,7]) ⟨Y7 [(0,(.val .str s0)),(6,(.row 0)),(7,(.val (.int .i64) s1))],Yc [],Yd [.mk .str .live r2]⟩)
def Zv1 (s0:List UInt8) (s1:List UInt8) (s2:Int):Option (List UInt8×Int):=(Abs.Run E 57 (E.at 57 [1,1,1,1,1,1,1,1,0,1,9]) ⟨Y7 [(0,(.val .str s0)),(10,(.val .str s1)),(11,(.val (.int .i64) s2))],Yc [],Yd []⟩)
def YZ6 (x:List UInt8):Option (Bool×Int):=Abs.Call E 53 x
def Zw1 (s0:List UInt8):Option (Bool×Int):=(Abs.Run E 53 (E.at 53 []) ⟨Y7 [(0,(.val .str s0))],Ye [],Yf []⟩)
def Zx1 (s0:List UInt8) (s1:Int) (r2:List D181):Option (Bool×Int):=(Abs.Run E 53 (E.at 53 [1,1,0,1,0,7]) ⟨Y7 [(0,(.val .str s0)),(4,(.row 0)),(5,(.val (.int .i64) s1))],Yc [],Yd [.mk T181 .live r2]⟩)
def YX2 (x:(List UInt8×Bool)):Option Bool:=Abs.Call E 131 x
def Zy1 (s0:List UInt8) (s1:Bool):Option Bool:=(Abs.Run E 131 (E.at 131 []) ⟨Y7 [(1,(.val .bool s1)),(0,(.val .str s0))],Ye [],Yf []⟩)
def Zz1 (s0:List UInt8) (s1:Bool) (s2:Int):Option Bool:=(Abs.Run E 131 (E.at 131 [1,0,1,0,7]) ⟨Y7 [(0,(.val .str s0)),(1,(.val .bool s1)),(5,(.val (.int .i64) s2))],Yc [],Yd []⟩)
def YJ5 (x:(Int×List UInt8)):Option (List UInt8×Int):=Abs.Call E 132 x
def Z02 (s0:Int) (s1:List UInt8):Option (List UInt8×Int):=(Abs.Run E 132 (E.at 132 []) ⟨Y7 [(1,(.val .str s1)),(0,(.val (.int .i64) s0))],Ye [],Yf []⟩)
def YI5 (x:List UInt8):Option (List UInt8):=Abs.Call E 133 x
def Z12 (s0:List UInt8):Option (List UInt8):=(Abs.Run E 133 (E.at 133 []) ⟨Y7 [(0,(.val .str s0))],Ye [],Yf []⟩)
def Yd7 (x:List UInt8):Option (List (List UInt8)):=Abs.Call E 139 x
def Z22 (s0:List UInt8):Option (List (List UInt8)):=(Abs.Run E 139 (E.at 139 []) ⟨Y7 [(0,(.val .str s0))],Ye [],Yf []⟩)
def Z32 (s0:List UInt8) (s1:Int) (r2:List Int) (r3:List (List UInt8)) (r4:List Int):Option (List (List UInt8)):=(Abs.Run E 139 (E.at 139 [1,1,1,1,0,1,0,7]) ⟨Y7 [(0,(.val .str s0)),(3,(.row 0)),(4,(.row 1)),(5,(.row 2)),(6,(.val (.int .i64) s1))],Yc [],Yd [.mk (.int .i32) .live r2,.mk .str .live r3,.mk (.int .i32) .live r4]⟩)
def YW9 (x:List UInt8):Option (List UInt8×Bool):=Abs.Call E 140 x
def Z42 (s0:List UInt8):Option (List UInt8×Bool):=(Abs.Run E 140 (E.at 140 []) ⟨Y7 [(0,(.val .str s0))],Ye [],Yf []⟩)
def YV9 (x:(List (List UInt8))):Option (List UInt8):=Abs.Call E 141 x
def Z52 (s0:(List (List UInt8))):Option (List UInt8):=(Abs.Run E 141 (E.at 141 []) ⟨Y7 [(0,(.val (.sl false .str) s0))],Ye [],Yf []⟩)
def Z62 (s0:(List (List UInt8))) (s1:List UInt8) (s2:Int):Option (List UInt8):=(Abs.Run E 141 (E.at 141 [1,1,0,1,0,7]) ⟨Y7 [(0,(.val (.sl false .str) s0)),(3,(.val .str s1)),(4,(.val (.int .i64) s2))],Yc [],Yd []⟩)
def Z72 (s0:(List (List UInt8))) (s1:List UInt8) (s2:Int):Option (List UInt8):=(Abs.Run E 141 (E.at 141 [1,1,0,1,0,0,1,0,0,0,1,9]) ⟨Y7 [(0,(.val (.sl false .str) s0)),(3,(.val .str s1)),(4,(.val (.int .i64) s2))],Yc [],Yd []⟩)
def YL9 (x:List UInt8):Option (List UInt8×Int):=Abs.Call E 145 x
def Z82 (s0:List UInt8):Option (List UInt8×Int):=(Abs.Run E 145 (E.at 145 []) ⟨Y7 [(0,(.val .str s0))],Ye [],Yf []⟩)
def YX6 (x:List UInt8):Option (List D181):=Abs.Call E 130 x
def Z92 (s0:List UInt8):Option (List D181):=(Abs.Run E 130 (E.at 130 []) ⟨Y7 [(0,(.val .str s0))],Ye [],Yf []⟩)
def Za2 (s0:List UInt8) (s1:Int) (r2:List D181):Option (List D181):=(Abs.Run E 130 (E.at 130 [1,1,0,1,0,7]) ⟨Y7 [(0,(.val .str s0)),(3,(.row 0)),(4,(.val (.int .i64) s1))],Yc [],Yd [.mk T181 .live r2]⟩)
def Y07 (x:List UInt8):Option (List UInt8):=Abs.Call E 188 x
def Zb2 (s0:List UInt8):Option (List UInt8):=(Abs.Run E 188 (E.at 188 []) ⟨Y7 [(0,(.val .str s0))],Ye [],Yf []⟩)
def Ygf (x:(Int×(List Int))):Option (List UInt8×Int):=Abs.Call E 187 x
def Zc2 (s0:Int) (s1:(List Int)):Option (List UInt8×Int):=(Abs.Run E 187 (E.at 187 []) ⟨Y7 [(1,(.val (.sl false (.int .u8)) s1)),(0,(.val (.int .i64) s0))],Ye [],Yf []⟩)
def Zd2 (s0:Int) (s1:(List Int)) (s2:List UInt8) (s3:Int):Option (List UInt8×Int):=(Abs.Run E 187 (E.at 187 [1,1,1,1,0,1,0,7]) ⟨Y7 [(0,(.val (.int .i64) s0)),(1,(.val (.sl false (.int .u8)) s1)),(8,(.val .str s2)),(9,(.val (.int .i64) s3))],Yc [],Yd []⟩)
def Yff (x:List UInt8):Option (List Int):=Abs.Call E 189 x
def Ze2 (s0:List UInt8):Option (List Int):=(Abs.Run E 189 (E.at 189 []) ⟨Y7 [(0,(.val .str s0))],Ye [],Yf []⟩)
def Zf2 (s0:List UInt8) (s1:Int) (r2:List Int):Option (List Int):=(Abs.Run E 189 (E.at 189 [1,1,0,1,0,7]) ⟨Y7 [(0,(.val .str s0)),(3,(.row 0)),(4,(.val (.int .i64) s1))],Yc [],Yd [.mk (.int .u8) .live r2]⟩)
def YG5 (x:List UInt8):Option (List Int):=Abs.Call E 199 x
def Zg2 (s0:List UInt8):Option (List Int):=(Abs.Run E 199 (E.at 199 []) ⟨Y7 [(0,(.val .str s0))],Ye [],Yf []⟩)
def Zh2 (s0:List UInt8) (s1:Int) (r2:List Int) (r3:List D181):Option (List Int):=(Abs.Run E 199 (E.at 199 [1,1,1,0,1,0,7]) ⟨Y7 [(0,(.val .str s0)),(3,(.row 0)),(4,(.row 1)),(5,(.val (.int .i64) s1))],Yc [],Yd [.mk (.int .i32) .live r2,.mk T181 .live r3]⟩)
def YW2 (x:(List Int)):Option (List UInt8×(Int×Int)):=Abs.Call E 200 x
def Zi2 (s0:(List Int)):Option (List UInt8×(Int×Int)):=(Abs.Run E 200 (E.at 200 []) ⟨Y7 [(0,(.val (.sl false (.int .i32)) s0))],Ye [],Yf []⟩)
def Zj2 (s0:(List Int)) (s1:Int):Option (List UInt8×(Int×Int)):=(Abs.Run E 200 (E.at 200 [1,0,1,0,7]) ⟨Y7 [(0,(.val (.sl false (.int .i32)) s0)),(5,(.val (.int .i64) s1))],Yc [],Yd []⟩)
def Yf7 (x:List UInt8):Option Bool:=Abs.Call E 201 x
def Zk2 (s0:List UInt8):Option Bool:=(Abs.Run E 201 (E.at 201 []) ⟨Y7 [(0,(.val .str s0))],Ye [],Yf []⟩)
def Zl2 (s0:List UInt8) (s1:Int) (r2:List Int):Option Bool:=(Abs.Run E 201 (E.at 201 [1,1,0,1,0,7]) ⟨Y7 [(0,(.val .str s0)),(3,(.row 0)),(4,(.val (.int .i64) s1))],Yc [],Yd [.mk (.int .i32) .live r2]⟩)
def YE5 (x:List UInt8):Option (List UInt8):=Abs.Call E 203 x
def Zm2 (s0:List UInt8):Option (List UInt8):=(Abs.Run E 203 (E.at 203 []) ⟨Y7 [(0,(.val .str s0))],Ye [],Yf []⟩)
def Zn2 (s0:List UInt8) (s1:Int) (r2:List Int):Option (List UInt8):=(Abs.Run E 203 (E.at 203 [1,1,0,1,0,7]) ⟨Y7 [(0,(.val .str s0)),(3,(.row 0)),(4,(.val (.int .i64) s1))],Yc [],Yd [.mk (.int .u8) .live r2]⟩)
def Zo2 (s0:List UInt8) (s1:Int) (s2:Int) (r3:List Int):Option (List UInt8):=(Abs.Run E 203 (E.at 203 [1,1,0,1,0,0,1,0,0,1,0,1,9]) ⟨Y7 [(0,(.val .str s0)),(3,(.row 0)),(4,(.val (.int .i64) s1)),(5,(.val (.int .u8) s2))],Yc [],Yd [.mk (.int .u8) .live r3]⟩)
def Y37 (x:List UInt8):Option (List UInt8×Int):=Abs.Call E 202 x
def Zp2 (s0:List UInt8):Option (List UInt8×Int):=(Abs.Run E 202 (E.at 202 []) ⟨Y7 [(0,(.val .str s0))],Ye [],Yf []⟩)
def YT6 (x:(List UInt8×List UInt8)):Option Bool:=Abs.Call E 207 x
def Zq2 (s0:List UInt8) (s1:List UInt8):Option Bool:=(Abs.Run E 207 (E.at 207 []) ⟨Y7 [(1,(.val .str s1)),(0,(.val .str s0))],Ye [],Yf []⟩)
def YJ9 (x:List UInt8):Option (List UInt8×(Int×Int)):=Abs.Call E 208 x
def Zr2 (s0:List UInt8):Option (List UInt8×(Int×Int)):=(Abs.Run E 208 (E.at 208 []) ⟨Y7 [(0,(.val .str s0))],Ye [],Yf []⟩)
def Y57 (x:List UInt8):Option Bool:=Abs.Call E 209 x
def Zs2 (s0:List UInt8):Option Bool:=(Abs.Run E 209 (E.at 209 []) ⟨Y7 [(0,(.val .str s0))],Ye [],Yf []⟩)
def Zt2 (s0:List UInt8) (s1:Int):Option Bool:=(Abs.Run E 209 (E.at 209 [1,0,1,0,7]) ⟨Y7 [(0,(.val .str s0)),(3,(.val (.int .i64) s1))],Yc [],Yd []⟩)
def YW6 (x:(List UInt8×(Int×Bool))):Option D181:=Abs.Call E 186 x
def Zu2 (s0:List UInt8) (s1:Int) (s2:Bool):Option D181:=(Abs.Run E 186 (E.at 186 []) ⟨Y7 [(2,(.val .bool s2)),(1,(.val (.int .i64) s1)),(0,(.val .str s0))],Ye [],Yf []⟩)
def Zv2 (s0:List UInt8) (s1:Int) (s2:Bool) (s3:Int) (b4:D181):Option D181:=(Abs.Run E 186 (E.at 186 [1,0,1,0,7]) ⟨Y7 [(0,(.val .str s0)),(1,(.val (.int .i64) s1)),(2,(.val .bool s2)),(6,(.addr (.box 0) [])),(7,(.val (.int .i64) s3))],Yc [.cells T181 .live (.val T181 b4)],Yd []⟩)
def Y4f (x:List UInt8):Option (List D181):=Abs.Call E 236 x
def Zw2 (s0:List UInt8):Option (List D181):=(Abs.Run E 236 (E.at 236 []) ⟨Y7 [(0,(.val .str s0))],Ye [],Yf []⟩)
def Zx2 (s0:List UInt8) (s1:Int) (r2:List D181):Option (List D181):=(Abs.Run E 236 (E.at 236 [1,1,0,1,0,7]) ⟨Y7 [(0,(.val .str s0)),(3,(.row 0)),(4,(.val (.int .i64) s1))],Yc [],Yd [.mk T181 .live r2]⟩)
def Zy2 (s0:List UInt8) (s1:Int) (s2:Int) (b3:D181) (r4:List D181):Option (List D181):=(Abs.Run E 236 (E.at 236 [1,1,0,1,0,0,1,0,1,0,1,0,1,0,7]) ⟨Y7 [(0,(.val .str s0)),(3,(.row 0)),(4,(.val (.int .i64) s1)),(5,(.addr (.box 0) [])),(6,(.val (.int .i64) s2))],Yc [.cells T181 .live (.val T181 b3)],Yd [.mk T181 .live r4]⟩)
def Zz2 (s0:List UInt8) (s1:Int) (b2:D181) (r3:List D181):Option (List D181):=(Abs.Run E 236 (E.at 236 [1,1,0,1,0,0,1,0,1,0,1,9]) ⟨Y7 [(0,(.val .str s0)),(3,(.row 0)),(4,(.val (.int .i64) s1)),(5,(.addr (.box 0) []))],Yc [.cells T181 .live (.val T181 b2)],Yd [.mk T181 .live r3]⟩)
def Y8f (x:(List D181)):Option (List UInt8):=Abs.Call E 235 x
def Z03 (s0:(List D181)):Option (List UInt8):=(Abs.Run E 235 (E.at 235 []) ⟨Y7 [(0,(.val (.sl false T181) s0))],Ye [],Yf []⟩)
def Z13 (s0:(List D181)) (s1:Int) (r2:List Int):Option (List UInt8):=(Abs.Run E 235 (E.at 235 [1,1,0,1,0,7]) ⟨Y7 [(0,(.val (.sl false T181) s0)),(3,(.row 0)),(4,(.val (.int .i64) s1))],Yc [],Yd [.mk (.int .u8) .live r2]⟩)
def Y97 (x:(Int×Int)):Option (Bool×Int):=Abs.Call E 233 x
def Z23 (s0:Int) (s1:Int):Option (Bool×Int):=(Abs.Run E 233 (E.at 233 []) ⟨Y7 [(1,(.val (.int .u8) s1)),(0,(.val (.int .i64) s0))],Ye [],Yf []⟩)
def YP9 (x:Int):Option (List UInt8):=Abs.Call E 234 x
def Z33 (s0:Int):Option (List UInt8):=(Abs.Run E 234 (E.at 234 []) ⟨Y7 [(0,(.val (.int .u8) s0))],Ye [],Yf []⟩)
def YQ9 (x:(List UInt8×Int)):Option Int:=Abs.Call E 237 x
def Z43 (s0:List UInt8) (s1:Int):Option Int:=(Abs.Run E 237 (E.at 237 []) ⟨Y7 [(1,(.val (.int .i64) s1)),(0,(.val .str s0))],Ye [],Yf []⟩)
def YH4 (x:Int):Option Bool:=Abs.Call E 230 x
def Z53 (s0:Int):Option Bool:=(Abs.Run E 230 (E.at 230 []) ⟨Y7 [(0,(.val (.int .i32) s0))],Ye [],Yf []⟩)
def YZe (x:(List Int)):Option (List UInt8):=Abs.Call E 245 x
def Z63 (s0:(List Int)):Option (List UInt8):=(Abs.Run E 245 (E.at 245 []) ⟨Y7 [(0,(.val (.sl false (.int .i32)) s0))],Ye [],Yf []⟩)
def Z73 (s0:(List Int)) (s1:Int) (r2:List Int):Option (List UInt8):=(Abs.Run E 245 (E.at 245 [1,1,0,1,0,7]) ⟨Y7 [(0,(.val (.sl false (.int .i32)) s0)),(3,(.row 0)),(4,(.val (.int .i64) s1))],Yc [],Yd [.mk (.int .u8) .live r2]⟩)
def Z83 (s0:(List Int)) (s1:Int) (s2:Int) (r3:List Int):Option (List UInt8):=(Abs.Run E 245 (E.at 245 [1,1,0,1,0,0,1,0,0,1,0,1,9]) ⟨Y7 [(0,(.val (.sl false (.int .i32)) s0)),(3,(.row 0)),(4,(.val (.int .i64) s1)),(5,(.val (.int .i32) s2))],Yc [],Yd [.mk (.int .u8) .live r3]⟩)
def YK9 (x:List UInt8):Option (List UInt8×Int):=Abs.Call E 246 x
def Z93 (s0:List UInt8):Option (List UInt8×Int):=(Abs.Run E 246 (E.at 246 []) ⟨Y7 [(0,(.val .str s0))],Ye [],Yf []⟩)
def Y67 (x:List UInt8):Option (List UInt8×(Int×Int)):=Abs.Call E 249 x
def Za3 (s0:List UInt8):Option (List UInt8×(Int×Int)):=(Abs.Run E 249 (E.at 249 []) ⟨Y7 [(0,(.val .str s0))],Ye [],Yf []⟩)
def Zb3 (s0:List UInt8) (s1:Int):Option (List UInt8×(Int×Int)):=(Abs.Run E 249 (E.at 249 [1,0,1,0,7]) ⟨Y7 [(0,(.val .str s0)),(5,(.val (.int .i64) s1))],Yc [],Yd []⟩)
def Zc3 (s0:List UInt8) (s1:Int) (s2:Int) (r3:List Int):Option (List UInt8×(Int×Int)):=(Abs.Run E 249 (E.at 249 [1,1,1,1,0,1,0,7]) ⟨Y7 [(0,(.val .str s0)),(6,(.row 0)),(7,(.val (.int .i64) s1)),(8,(.val (.int .i64) s2))],Yc [],Yd [.mk (.int .i32) .live r3]⟩)
def Zd3 (s0:List UInt8) (s1:Int) (s2:Int) (r3:List Int):Option (List UInt8×(Int×Int)):=(Abs.Run E 249 (E.at 249 [1,1,1,1,0,1,0,0,1,0,0,1,0,0,1,0,7]) ⟨Y7 [(0,(.val .str s0)),(6,(.row 0)),(8,(.val (.int .i64) s1)),(9,(.val (.int .i64) s2))],Yc [],Yd [.mk (.int .i32) .live r3]⟩)
def Ze3 (s0:List UInt8) (s1:Int) (s2:Int) (s3:Int) (s4:Int) (s5:Int) (r6:List Int):Option (List UInt8×(Int×Int)):=(Abs.Run E 249 (E.at 249 [1,1,1,1,1,1,1,0,0,7]) ⟨Y7 [(0,(.val .str s0)),(6,(.row 0)),(7,(.val (.int .i64) s1)),(10,(.val (.int .i64) s2)),(11,(.val (.int .i64) s3)),(12,(.val (.int .i64) s4)),(13,(.val (.int .i64) s5))],Yc [],Yd [.mk (.int .i32) .live r6]⟩)
def Zf3 (s0:List UInt8) (s1:Int) (s2:Int) (s3:Int) (s4:Int) (s5:Int) (s6:Int) (s7:Int) (s8:Int) (s9:Int) (r10:List Int):Option (List UInt8×(Int×Int)):=(Abs.Run E 249 (E.at 249 [1,1,1,1,1,1,1,0,0,0,1,0,1,0,1,0,7]) ⟨Y7 [(0,(.val .str s0)),(6,(.row 0)),(7,(.val (.int .i64) s1)),(10,(.val (.int .i64) s2)),(11,(.val (.int .i64) s3)),(12,(.val (.int .i64) s4)),(13,(.val (.int .i64) s5)),(14,(.val (.int .i64) s6)),(15,(.val (.int .i64) s7)),(16,(.val (.int .i64) s8)),(17,(.val (.int .i64) s9))],Yc [],Yd [.mk (.int .i32) .live r10]⟩)
def YI9 (x:(List UInt8×(Int×Int))):Option Int:=Abs.Call E 229 x
def Zg3 (s0:List UInt8) (s1:Int) (s2:Int):Option Int:=(Abs.Run E 229 (E.at 229 []) ⟨Y7 [(2,(.val (.int .i64) s2)),(1,(.val (.int .i64) s1)),(0,(.val .str s0))],Ye [],Yf []⟩)
def Zh3 (s0:List UInt8) (s1:Int) (s2:Int) (s3:Int) (s4:Int):Option Int:=(Abs.Run E 229 (E.at 229 [1,1,1,0,1,0,7]) ⟨Y7 [(0,(.val .str s0)),(1,(.val (.int .i64) s1)),(2,(.val (.int .i64) s2)),(8,(.val (.int .i32) s3)),(9,(.val (.int .i64) s4))],Yc [],Yd []⟩)
def YK2 (x:Int):Option (List Int):=Abs.Call E 231 x
def Zi3 (s0:Int):Option (List Int):=(Abs.Run E 231 (E.at 231 []) ⟨Y7 [(0,(.val (.int .i32) s0))],Ye [],Yf []⟩)
def YH5 (x:(List UInt8×(Int×(List Int)))):Option Bool:=Abs.Call E 232 x
def Zj3 (s0:List UInt8) (s1:Int) (s2:(List Int)):Option Bool:=(Abs.Run E 232 (E.at 232 []) ⟨Y7 [(2,(.val (.sl false (.int .u8)) s2)),(1,(.val (.int .i64) s1)),(0,(.val .str s0))],Ye [],Yf []⟩)
def Zk3 (s0:List UInt8) (s1:Int) (s2:(List Int)) (s3:Int):Option Bool:=(Abs.Run E 232 (E.at 232 [1,1,0,1,0,7]) ⟨Y7 [(0,(.val .str s0)),(1,(.val (.int .i64) s1)),(2,(.val (.sl false (.int .u8)) s2)),(7,(.val (.int .i64) s3))],Yc [],Yd []⟩)
def Y17 (x:(List UInt8×(Int×Int))):Option Bool:=Abs.Call E 267 x
def Zl3 (s0:List UInt8) (s1:Int) (s2:Int):Option Bool:=(Abs.Run E 267 (E.at 267 []) ⟨Y7 [(2,(.val (.int .i64) s2)),(1,(.val (.int .i64) s1)),(0,(.val .str s0))],Ye [],Yf []⟩)
def Zm3 (s0:List UInt8) (s1:Int) (s2:Int) (s3:Int):Option Bool:=(Abs.Run E 267 (E.at 267 [1,1,0,1,0,7]) ⟨Y7 [(0,(.val .str s0)),(1,(.val (.int .i64) s1)),(2,(.val (.int .i64) s2)),(7,(.val (.int .i64) s3))],Yc [],Yd []⟩)
def Zn3 (s0:List UInt8) (s1:Int) (s2:Int) (s3:Int) (s4:Int) (s5:Int) (s6:Int):Option Bool:=(Abs.Run E 267 (E.at 267 [1,1,0,1,0,0,1,0,0,1,1,1,0,1,0,7]) ⟨Y7 [(0,(.val .str s0)),(1,(.val (.int .i64) s1)),(2,(.val (.int .i64) s2)),(7,(.val (.int .i64) s3)),(9,(.val (.int .i32) s4)),(10,(.val (.int .i32) s5)),(11,(.val (.int .i64) s6))],Yc [],Yd []⟩)
def YI1 (x:(Int×List UInt8)):Option Bool:=Abs.Call E 266 x
def Zo3 (s0:Int) (s1:List UInt8):Option Bool:=(Abs.Run E 266 (E.at 266 []) ⟨Y7 [(1,(.val .str s1)),(0,(.val (.int .u8) s0))],Ye [],Yf []⟩)
def Zp3 (s0:Int) (s1:List UInt8) (s2:Int):Option Bool:=(Abs.Run E 266 (E.at 266 [1,0,1,0,7]) ⟨Y7 [(0,(.val (.int .u8) s0)),(1,(.val .str s1)),(5,(.val (.int .i64) s2))],Yc [],Yd []⟩)
def YI4 (x:Int):Option Int:=Abs.Call E 268 x
def Zq3 (s0:Int):Option Int:=(Abs.Run E 268 (E.at 268 []) ⟨Y7 [(0,(.val (.int .u8) s0))],Ye [],Yf []⟩)
def YM9 (x:(List Int)):Option (List UInt8):=Abs.Call E 274 x
def Zr3 (s0:(List Int)):Option (List UInt8):=(Abs.Run E 274 (E.at 274 []) ⟨Y7 [(0,(.val (.sl false (.int .i32)) s0))],Ye [],Yf []⟩)
def Zs3 (s0:(List Int)) (s1:Int) (r2:List Int):Option (List UInt8):=(Abs.Run E 274 (E.at 274 [1,1,0,1,0,7]) ⟨Y7 [(0,(.val (.sl false (.int .i32)) s0)),(3,(.row 0)),(4,(.val (.int .i64) s1))],Yc [],Yd [.mk (.int .u8) .live r2]⟩)
def Zt3 (s0:(List Int)) (s1:Int) (s2:Int) (r3:List Int):Option (List UInt8):=(Abs.Run E 274 (E.at 274 [1,1,1,1,1,0,1,9]) ⟨Y7 [(0,(.val (.sl false (.int .i32)) s0)),(3,(.row 0)),(5,(.val (.int .i64) s1)),(6,(.val (.int .i64) s2))],Yc [],Yd [.mk (.int .u8) .live r3]⟩)
def Zu3 (s0:(List Int)) (s1:Int) (s2:Int) (s3:Int) (s4:Int) (s5:Int) (r6:List Int):Option (List UInt8):=(Abs.Run E 274 (E.at 274 [1,1,1,1,1,1,1,0,0,7]) ⟨Y7 [(0,(.val (.sl false (.int .i32)) s0)),(3,(.row 0)),(5,(.val (.int .i64) s1)),(6,(.val (.int .i64) s2)),(7,(.val (.int .i64) s3)),(8,(.val (.int .i64) s4)),(9,(.val (.int .i64) s5))],Yc [],Yd [.mk (.int .u8) .live r6]⟩)
def Zv3 (s0:(List Int)) (s1:Int) (s2:Int) (s3:Int) (s4:Int) (s5:Int) (s6:Int) (s7:Int) (r8:List Int):Option (List UInt8):=(Abs.Run E 274 (E.at 274 [1,1,1,1,1,1,1,0,0,0,1,0,1,0,1,0,7]) ⟨Y7 [(0,(.val (.sl false (.int .i32)) s0)),(3,(.row 0)),(5,(.val (.int .i64) s1)),(6,(.val (.int .i64) s2)),(7,(.val (.int .i64) s3)),(8,(.val (.int .i64) s4)),(9,(.val (.int .i64) s5)),(10,(.val (.int .i64) s6)),(11,(.val (.int .i64) s7))],Yc [],Yd [.mk (.int .u8) .live r8]⟩)
def Zw3 (s0:(List Int)) (s1:Int) (s2:Int) (s3:Int) (s4:Int) (s5:Int) (s6:Int) (r7:List Int):Option (List UInt8):=(Abs.Run E 274 (E.at 274 [1,1,1,1,1,1,1,0,0,0,1,0,1,1,1,1,0,1,0,7]) ⟨Y7 [(0,(.val (.sl false (.int .i32)) s0)),(3,(.row 0)),(5,(.val (.int .i64) s1)),(6,(.val (.int .i64) s2)),(7,(.val (.int .i64) s3)),(8,(.val (.int .i64) s4)),(9,(.val (.int .i64) s5)),(12,(.val (.int .i64) s6))],Yc [],Yd [.mk (.int .u8) .live r7]⟩)
def Zx3 (s0:(List Int)) (s1:Int) (s2:Int) (s3:Int) (s4:Int) (s5:Int) (s6:Int) (r7:List Int):Option (List UInt8):=(Abs.Run E 274 (E.at 274 [1,1,1,1,1,1,1,0,0,0,1,0,1,1,1,1,0,1,0,0,1,0,0,0,1,9]) ⟨Y7 [(0,(.val (.sl false (.int .i32)) s0)),(3,(.row 0)),(5,(.val (.int .i64) s1)),(6,(.val (.int .i64) s2)),(7,(.val (.int .i64) s3)),(8,(.val (.int .i64) s4)),(9,(.val (.int .i64) s5)),(12,(.val (.int .i64) s6))],Yc [],Yd [.mk (.int .u8) .live r7]⟩)
def Zy3 (s0:(List Int)) (s1:Int) (s2:Int) (s3:Int) (s4:Int) (s5:Int) (s6:Int) (s7:Int) (s8:Int) (r9:List Int):Option (List UInt8):=(Abs.Run E 274 (E.at 274 [1,1,1,1,1,1,1,0,0,0,1,0,1,1,1,1,0,1,0,0,1,0,0,1,1,1,0,1,0,7]) ⟨Y7 [(0,(.val (.sl false (.int .i32)) s0)),(3,(.row 0)),(5,(.val (.int .i64) s1)),(6,(.val (.int .i64) s2)),(7,(.val (.int .i64) s3)),(8,(.val (.int .i64) s4)),(9,(.val (.int .i64) s5)),(12,(.val (.int .i64) s6)),(13,(.val (.int .i64) s7)),(14,(.val (.int .i64) s8))],Yc [],Yd [.mk (.int .u8) .live r9]⟩)
def YO9 (x:Int):Option Int:=Abs.Call E 278 x
def Zz3 (s0:Int):Option Int:=(Abs.Run E 278 (E.at 278 []) ⟨Y7 [(0,(.val (.int .u8) s0))],Ye [],Yf []⟩)
def Y87 (x:(Int×Int)):Option Int:=Abs.Call E 279 x
def Z04 (s0:Int) (s1:Int):Option Int:=(Abs.Run E 279 (E.at 279 []) ⟨Y7 [(1,(.val (.int .i64) s1)),(0,(.val (.int .i64) s0))],Ye [],Yf []⟩)
def Y47 (x:(Int×(Int×Bool))):Option Int:=Abs.Call E 280 x
def Z14 (s0:Int) (s1:Int) (s2:Bool):Option Int:=(Abs.Run E 280 (E.at 280 []) ⟨Y7 [(2,(.val .bool s2)),(1,(.val (.int .i64) s1)),(0,(.val (.int .i64) s0))],Ye [],Yf []⟩)
def Z24 (s0:Int) (s1:Int) (s2:Bool):Option Int:=(Abs.Run E 280 (E.at 280 [1,0,1,9]) ⟨Y7 [(0,(.val (.int .i64) s0)),(1,(.val (.int .i64) s1)),(2,(.val .bool s2))],Yc [],Yd []⟩)
def Z34 (s0:Int) (s1:Int) (s2:Bool) (s3:Int):Option Int:=(Abs.Run E 280 (E.at 280 [1,1,1,1,0,0,7]) ⟨Y7 [(0,(.val (.int .i64) s0)),(1,(.val (.int .i64) s1)),(2,(.val .bool s2)),(7,(.val (.int .i64) s3))],Yc [],Yd []⟩)
def Y27 (x:(List UInt8×(Int×(Int×(Int×Int))))):Option Bool:=Abs.Call E 289 x
def Z44 (s0:List UInt8) (s1:Int) (s2:Int) (s3:Int) (s4:Int):Option Bool:=(Abs.Run E 289 (E.at 289 []) ⟨Y7 [(4,(.val (.int .i32) s4)),(3,(.val (.int .i64) s3)),(2,(.val (.int .i64) s2)),(1,(.val (.int .i64) s1)),(0,(.val .str s0))],Ye [],Yf []⟩)
def Z54 (s0:List UInt8) (s1:Int) (s2:Int) (s3:Int) (s4:Int) (s5:Int) (r6:List Int):Option Bool:=(Abs.Run E 289 (E.at 289 [1,1,0,1,0,7]) ⟨Y7 [(0,(.val .str s0)),(1,(.val (.int .i64) s1)),(2,(.val (.int .i64) s2)),(3,(.val (.int .i64) s3)),(4,(.val (.int .i32) s4)),(11,(.row 0)),(12,(.val (.int .i64) s5))],Yc [],Yd [.mk (.int .i32) .live r6]⟩)
def Z64 (s0:List UInt8) (s1:Int) (s2:Int) (s3:Int) (s4:Int) (s5:Int) (s6:Int) (r7:List Int):Option Bool:=(Abs.Run E 289 (E.at 289 [1,1,0,1,0,0,1,0,0,1,0,1,9]) ⟨Y7 [(0,(.val .str s0)),(1,(.val (.int .i64) s1)),(2,(.val (.int .i64) s2)),(3,(.val (.int .i64) s3)),(4,(.val (.int .i32) s4)),(11,(.row 0)),(12,(.val (.int .i64) s5)),(13,(.val (.int .i32) s6))],Yc [],Yd [.mk (.int .i32) .live r7]⟩)
def Y77 (x:Int):Option Int:=Abs.Call E 291 x
def Z74 (s0:Int):Option Int:=(Abs.Run E 291 (E.at 291 []) ⟨Y7 [(0,(.val (.int .i64) s0))],Ye [],Yf []⟩)
theorem YLo (x:(List UInt8×Bool)):Yb7 x=
 Zs1 x.1 x.2:=by kernel_rfl
theorem Yul (s0:List UInt8) (s1:Bool):Zs1 s0 s1=
 bif (decide ((((length s0):Nat):Int) > 65536)) then
 some (((Ty.zero (.int .i64)),((Ty.zero .str),((Ty.zero (.int .u32)),(Ty.zero (.arr 8 (.int .u16)))))),(5:Int))
 else
 bif (decide ((((length s0):Nat):Int) > 0)) then
 bif (Ya (0:Int) (length s0)) then
 bif ((((UInt8.toNat (getD s0 (Int.toNat (0:Int)) (0:UInt8))):Nat):Int)==91) then
 bif (decide ((((length s0):Nat):Int) < 2)) then
 some (((Ty.zero (.int .i64)),((Ty.zero .str),((Ty.zero (.int .u32)),(Ty.zero (.arr 8 (.int .u16)))))),(51:Int))
 else
 bif (Ya (wrap i64 ((((length s0):Nat):Int) - 1)) (length s0)) then
 bif ((((UInt8.toNat (getD s0 (Int.toNat (wrap i64 ((((length s0):Nat):Int) - 1))) (0:UInt8))):Nat):Int) !=93) then
 some (((Ty.zero (.int .i64)),((Ty.zero .str),((Ty.zero (.int .u32)),(Ty.zero (.arr 8 (.int .u16)))))),(51:Int))
 else
 bif (Yi (some (1:Int)) (some (wrap i64 ((((length s0):Nat):Int) - 1))) (length s0)) then
 (YS9 (Yl (some (1:Int)) (some (wrap i64 ((((length s0):Nat):Int) - 1))) s0)).bind fun y0=>
 bif (y0.2 !=0) then
 some (((Ty.zero (.int .i64)),((Ty.zero .str),((Ty.zero (.int .u32)),(Ty.zero (.arr 8 (.int .u16)))))),y0.2)
 else
 some (((3:Int),((Ty.zero .str),((Ty.zero (.int .u32)),y0.1))),(0:Int))
 else
 none
 else
 none
 else
 bif (!s1) then
 (YX2 (s0,false)).bind fun y0=>
 bif y0 then
 some (((Ty.zero (.int .i64)),((Ty.zero .str),((Ty.zero (.int .u32)),(Ty.zero (.arr 8 (.int .u16)))))),(52:Int))
 else
 bif (s0==([]:List UInt8)) then
 some (((5:Int),((Ty.zero .str),((Ty.zero (.int .u32)),(Ty.zero (.arr 8 (.int .u16)))))),(0:Int))
 else
 (YJ5 ((1:Int),s0)).bind fun y1=>
 bif (decide ((((length y1.1):Nat):Int) > 65536)) then
 some (((Ty.zero (.int .i64)),((Ty.zero .str),((Ty.zero (.int .u32)),(Ty.zero (.arr 8 (.int .u16)))))),(5:Int))
 else
 some (((4:Int),(y1.1,((Ty.zero (.int .u32)),(Ty.zero (.arr 8 (.int .u16)))))),(0:Int))
 else
 (YI5 s0).bind fun y0=>
 (YM5 y0).bind fun y1=>
 bif (y1.2 !=0) then
 some (((Ty.zero (.int .i64)),((Ty.zero .str),((Ty.zero (.int .u32)),(Ty.zero (.arr 8 (.int .u16)))))),y1.2)
 else
 bif (y1.1==([]:List UInt8)) then
 some (((Ty.zero (.int .i64)),((Ty.zero .str),((Ty.zero (.int .u32)),(Ty.zero (.arr 8 (.int .u16)))))),(51:Int))
 else
 (YX2 (y1.1,true)).bind fun y2=>
 bif y2 then
 some (((Ty.zero (.int .i64)),((Ty.zero .str),((Ty.zero (.int .u32)),(Ty.zero (.arr 8 (.int .u16)))))),(52:Int))
 else
 (YK5 y1.1).bind fun y3=>
 bif y3 then
 (YL5 y1.1).bind fun y4=>
 bif (y4.2 !=0) then
 some (((Ty.zero (.int .i64)),((Ty.zero .str),((Ty.zero (.int .u32)),(Ty.zero (.arr 8 (.int .u16)))))),y4.2)
 else
 some (((2:Int),((Ty.zero .str),(y4.1,(Ty.zero (.arr 8 (.int .u16)))))),(0:Int))
 else
 some (((1:Int),(y1.1,((Ty.zero (.int .u32)),(Ty.zero (.arr 8 (.int .u16)))))),(0:Int))
 else
 none
 else
 bif (!s1) then
 (YX2 (s0,false)).bind fun y0=>
 bif y0 then
 some (((Ty.zero (.int .i64)),((Ty.zero .str),((Ty.zero (.int .u32)),(Ty.zero (.arr 8 (.int .u16)))))),(52:Int))
 else
 bif (s0==([]:List UInt8)) then
 some (((5:Int),((Ty.zero .str),((Ty.zero (.int .u32)),(Ty.zero (.arr 8 (.int .u16)))))),(0:Int))
 else
 (YJ5 ((1:Int),s0)).bind fun y1=>
 bif (decide ((((length y1.1):Nat):Int) > 65536)) then
 some (((Ty.zero (.int .i64)),((Ty.zero .str),((Ty.zero (.int .u32)),(Ty.zero (.arr 8 (.int .u16)))))),(5:Int))
 else
 some (((4:Int),(y1.1,((Ty.zero (.int .u32)),(Ty.zero (.arr 8 (.int .u16)))))),(0:Int))
 else
 (YI5 s0).bind fun y0=>
 (YM5 y0).bind fun y1=>
 bif (y1.2 !=0) then
 some (((Ty.zero (.int .i64)),((Ty.zero .str),((Ty.zero (.int .u32)),(Ty.zero (.arr 8 (.int .u16)))))),y1.2)
 else
 bif (y1.1==([]:List UInt8)) then
 some (((Ty.zero (.int .i64)),((Ty.zero .str),((Ty.zero (.int .u32)),(Ty.zero (.arr 8 (.int .u16)))))),(51:Int))
 else
 (YX2 (y1.1,true)).bind fun y2=>
 bif y2 then
 some (((Ty.zero (.int .i64)),((Ty.zero .str),((Ty.zero (.int .u32)),(Ty.zero (.arr 8 (.int .u16)))))),(52:Int))
 else
 (YK5 y1.1).bind fun y3=>
 bif y3 then
 (YL5 y1.1).bind fun y4=>
 bif (y4.2 !=0) then
 some (((Ty.zero (.int .i64)),((Ty.zero .str),((Ty.zero (.int .u32)),(Ty.zero (.arr 8 (.int .u16)))))),y4.2)
 else
 some (((2:Int),((Ty.zero .str),(y4.1,(Ty.zero (.arr 8 (.int .u16)))))),(0:Int))
 else
 some (((1:Int),(y1.1,((Ty.zero (.int .u32)),(Ty.zero (.arr 8 (.int .u16)))))),(0:Int)):=by unfold Zs1; rewrite [Y9]; kernel_rfl
theorem YMo (x:List UInt8):YM5 x=
 Zt1 x:=by kernel_rfl
theorem Yzl (s0:List UInt8):Zt1 s0=
 (YZ6 s0).bind fun y0=>
 bif (!y0.1) then
 some (([]:List UInt8),(21:Int))
 else
 bif (decide ((((length s0):Nat):Int) > 65536)) then
 some (([]:List UInt8),(5:Int))
 else
 (Yd7 s0).bind fun y1=>
 Zu1 s0 (0:Int) y1:=by unfold Zt1; rewrite [Y9]; kernel_rfl
theorem Yy6 (s0:List UInt8) (s1:Int) (r2:List (List UInt8)):Zu1 s0 s1 r2=
 bif (decide (s1 < (((length r2):Nat):Int))) then
 bif (Ya s1 (length r2)) then
 (YW9 (getD r2 (Int.toNat s1) (Ty.zero .str))).bind fun y0=>
 bif (!y0.2) then
 some (([]:List UInt8),(53:Int))
 else
 bif (y0.1==([]:List UInt8)) then
 bif (decide (s1 < (wrap i64 ((((length r2):Nat):Int) - 1)))) then
 some (([]:List UInt8),(53:Int))
 else
 bif (Ya s1 (length r2)) then
 Zu1 s0 (wrap i64 (s1+1)) (List.set r2 (Int.toNat s1) y0.1)
 else
 none
 else
 bif (Ya s1 (length r2)) then
 Zu1 s0 (wrap i64 (s1+1)) (List.set r2 (Int.toNat s1) y0.1)
 else
 none
 else
 none
 else
 (YV9 r2).bind fun y0=>
 bif (decide ((((length y0):Nat):Int) > 0)) then
 bif (Ya (wrap i64 ((((length y0):Nat):Int) - 1)) (length y0)) then
 bif ((((UInt8.toNat (getD y0 (Int.toNat (wrap i64 ((((length y0):Nat):Int) - 1))) (0:UInt8))):Nat):Int)==46) then
 Zv1 s0 y0 (wrap i64 ((((length y0):Nat):Int) - 1))
 else
 Zv1 s0 y0 (((length y0):Nat):Int)
 else
 none
 else
 Zv1 s0 y0 (((length y0):Nat):Int):=by unfold Zu1; rewrite [Y9]; kernel_rfl
theorem YHl (s0:List UInt8) (s1:List UInt8) (s2:Int):Zv1 s0 s1 s2=
 bif (decide (s2 > 253)) then
 some (([]:List UInt8),(5:Int))
 else
 some (s1,(0:Int)):=by unfold Zv1; rewrite [Y9]; kernel_rfl
theorem Y1o (x:List UInt8):YZ6 x=
 Zw1 x:=by kernel_rfl
theorem YLl (s0:List UInt8):Zw1 s0=
 (YX6 s0).bind fun y0=>
 Zx1 s0 (0:Int) y0:=by unfold Zw1; rewrite [Y9]; kernel_rfl
theorem YOd (s0:List UInt8) (s1:Int) (r2:List D181):Zx1 s0 s1 r2=
 bif (decide (s1 < (((length r2):Nat):Int))) then
 bif (Ya s1 (length r2)) then
 bif (getD r2 (Int.toNat s1) (Ty.zero T181)).2.2.2 then
 bif (Ya s1 (length r2)) then
 some (false,(getD r2 (Int.toNat s1) (Ty.zero T181)).1)
 else
 none
 else
 Zx1 s0 (wrap i64 (s1+1)) r2
 else
 none
 else
 some (true,(0:Int)):=by unfold Zx1; rewrite [Y9]; kernel_rfl
theorem Ymf (x:(List UInt8×Bool)):YX2 x=
 Zy1 x.1 x.2:=by kernel_rfl
theorem YRd (s0:List UInt8) (s1:Bool):Zy1 s0 s1=
 Zz1 s0 s1 (0:Int):=by unfold Zy1; rewrite [Y9]; kernel_rfl
theorem YUd (s0:List UInt8) (s1:Bool) (s2:Int):Zz1 s0 s1 s2=
 bif (decide (s2 < (((length s0):Nat):Int))) then
 bif (Ya s2 (length s0)) then
 (YD5 (([0,9,10,13,32,35,47,58,60,62,63,64,91,92,93,94,124]:List UInt8),(((UInt8.toNat (getD s0 (Int.toNat s2) (0:UInt8))):Nat):Int))).bind fun y0=>
 bif y0 then
 some true
 else
 bif s1 then
 bif (Ya s2 (length s0)) then
 bif (decide ((((UInt8.toNat (getD s0 (Int.toNat s2) (0:UInt8))):Nat):Int) < 32)) then
 some true
 else
 bif (Ya s2 (length s0)) then
 bif ((((UInt8.toNat (getD s0 (Int.toNat s2) (0:UInt8))):Nat):Int)==37) then
 some true
 else
 bif (Ya s2 (length s0)) then
 bif ((((UInt8.toNat (getD s0 (Int.toNat s2) (0:UInt8))):Nat):Int)==127) then
 some true
 else
 Zz1 s0 s1 (wrap i64 (s2+1))
 else
 none
 else
 none
 else
 none
 else
 Zz1 s0 s1 (wrap i64 (s2+1))
 else
 none
 else
 some false:=by unfold Zz1; rewrite [Y9]; kernel_rfl
theorem Yso (x:(Int×List UInt8)):YJ5 x=
 Z02 x.1 x.2:=by kernel_rfl
theorem Ycj (s0:Int) (s1:List UInt8):Z02 s0 s1=
 (Y07 s1).bind fun y0=>
 (Ygf (s0,(YM y0))).bind fun y1=>
 some (y1.1,y1.2):=by unfold Z02; rewrite [Y9]; kernel_rfl
theorem Ypo (x:List UInt8):YI5 x=
 Z12 x:=by kernel_rfl
theorem Yij (s0:List UInt8):Z12 s0=
 (Yff s0).bind fun y0=>
 (Y07 (Ym y0)).bind fun y1=>
 some y1:=by unfold Z12; rewrite [Y9]; kernel_rfl
theorem YOo (x:List UInt8):Yd7 x=
 Z22 x:=by kernel_rfl
theorem Yoj (s0:List UInt8):Z22 s0=
 (YG5 s0).bind fun y0=>
 Z32 s0 (0:Int) y0 ([]:List (List UInt8)) ([]:List Int):=by unfold Z22; rewrite [Y9]; kernel_rfl
theorem Yuc (s0:List UInt8) (s1:Int) (r2:List Int) (r3:List (List UInt8)) (r4:List Int):Z32 s0 s1 r2 r3 r4=
 bif (decide (s1 < (((length r2):Nat):Int))) then
 bif (Ya s1 (length r2)) then
 bif ((getD r2 (Int.toNat s1) (Ty.zero (.int .i32)))==46) then
 (YW2 r4).bind fun y0=>
 bif (decide (((length r3)+(length ([y0.1]:List (List UInt8))))<=(lim))) then
 Z32 s0 (wrap i64 (s1+1)) r2 (r3++([y0.1]:List (List UInt8))) ([]:List Int)
 else
 none
 else
 bif (Ya s1 (length r2)) then
 bif ((getD r2 (Int.toNat s1) (Ty.zero (.int .i32)))==12290) then
 (YW2 r4).bind fun y0=>
 bif (decide (((length r3)+(length ([y0.1]:List (List UInt8))))<=(lim))) then
 Z32 s0 (wrap i64 (s1+1)) r2 (r3++([y0.1]:List (List UInt8))) ([]:List Int)
 else
 none
 else
 bif (Ya s1 (length r2)) then
 bif ((getD r2 (Int.toNat s1) (Ty.zero (.int .i32)))==65294) then
 (YW2 r4).bind fun y0=>
 bif (decide (((length r3)+(length ([y0.1]:List (List UInt8))))<=(lim))) then
 Z32 s0 (wrap i64 (s1+1)) r2 (r3++([y0.1]:List (List UInt8))) ([]:List Int)
 else
 none
 else
 bif (Ya s1 (length r2)) then
 bif ((getD r2 (Int.toNat s1) (Ty.zero (.int .i32)))==65377) then
 (YW2 r4).bind fun y0=>
 bif (decide (((length r3)+(length ([y0.1]:List (List UInt8))))<=(lim))) then
 Z32 s0 (wrap i64 (s1+1)) r2 (r3++([y0.1]:List (List UInt8))) ([]:List Int)
 else
 none
 else
 bif (Ya s1 (length r2)) then
 bif (decide (((length r4)+(length ([(getD r2 (Int.toNat s1) (Ty.zero (.int .i32)))]:List Int)))<=(lim))) then
 Z32 s0 (wrap i64 (s1+1)) r2 r3 (r4++([(getD r2 (Int.toNat s1) (Ty.zero (.int .i32)))]:List Int))
 else
 none
 else
 none
 else
 none
 else
 none
 else
 none
 else
 none
 else
 (YW2 r4).bind fun y0=>
 bif (decide (((length r3)+(length ([y0.1]:List (List UInt8))))<=(lim))) then
 some (r3++([y0.1]:List (List UInt8)))
 else
 none:=by unfold Z32; rewrite [Y9]; kernel_rfl
theorem YSo (x:List UInt8):YW9 x=
 Z42 x:=by kernel_rfl
theorem YBj (s0:List UInt8):Z42 s0=
 (Yf7 s0).bind fun y0=>
 bif y0 then
 some (([]:List UInt8),false)
 else
 (YE5 s0).bind fun y1=>
 (Y37 y1).bind fun y2=>
 bif (y2.2 !=0) then
 some (([]:List UInt8),false)
 else
 bif (decide ((((length y2.1):Nat):Int) > 63)) then
 some (([]:List UInt8),false)
 else
 (YL9 y2.1).bind fun y3=>
 bif (y3.2==0) then
 (Yf7 y3.1).bind fun y4=>
 bif (!y4) then
 (Yd7 y3.1).bind fun y5=>
 some (y2.1,((((length y5):Nat):Int)==1))
 else
 some (y2.1,false)
 else
 some (y2.1,false):=by unfold Z42; rewrite [Y9]; kernel_rfl
theorem YRo (x:(List (List UInt8))):YV9 x=
 Z52 x:=by kernel_rfl
theorem YIj (s0:(List (List UInt8))):Z52 s0=
 Z62 s0 ([]:List UInt8) (0:Int):=by unfold Z52; rewrite [Y9]; kernel_rfl
theorem YDc (s0:(List (List UInt8))) (s1:List UInt8) (s2:Int):Z62 s0 s1 s2=
 bif (decide (s2 < (((length s0):Nat):Int))) then
 bif (decide (s2 > 0)) then
 bif (decide (((length s1)+(length ([46]:List UInt8)))<=(2 ^ 62))) then
 Z72 s0 (s1++([46]:List UInt8)) s2
 else
 none
 else
 Z72 s0 s1 s2
 else
 some s1:=by unfold Z62; rewrite [Y9]; kernel_rfl
theorem YSj (s0:(List (List UInt8))) (s1:List UInt8) (s2:Int):Z72 s0 s1 s2=
 bif (Ya s2 (length s0)) then
 bif (decide (((length s1)+(length (getD s0 (Int.toNat s2) (Ty.zero .str))))<=(2 ^ 62))) then
 Z62 s0 (s1++(getD s0 (Int.toNat s2) (Ty.zero .str))) (wrap i64 (s2+1))
 else
 none
 else
 none:=by unfold Z72; rewrite [Y9]; kernel_rfl
theorem Yeo (x:List UInt8):YL9 x=
 Z82 x:=by kernel_rfl
theorem YXj (s0:List UInt8):Z82 s0=
 bif (decide ((((length s0):Nat):Int) < 4)) then
 some (s0,(0:Int))
 else
 bif (Yi none (some (4:Int)) (length s0)) then
 (YT6 ((Yl none (some (4:Int)) s0),([120,110,45,45]:List UInt8))).bind fun y0=>
 bif (!y0) then
 some (s0,(0:Int))
 else
 bif (Yi (some (4:Int)) none (length s0)) then
 (YJ9 (Yl (some (4:Int)) none s0)).bind fun y1=>
 bif (y1.2.1 !=0) then
 some (([]:List UInt8),y1.2.1)
 else
 (Y37 y1.1).bind fun y2=>
 (Y57 y1.1).bind fun y3=>
 bif y3 then
 some (([]:List UInt8),(31:Int))
 else
 bif (y2.2 !=0) then
 some (([]:List UInt8),(31:Int))
 else
 (YT6 (y2.1,s0)).bind fun y4=>
 bif (!y4) then
 some (([]:List UInt8),(31:Int))
 else
 some (y1.1,(0:Int))
 else
 none
 else
 none:=by unfold Z82; rewrite [Y9]; kernel_rfl
theorem YXn (x:List UInt8):YX6 x=
 Z92 x:=by kernel_rfl
theorem Y2k (s0:List UInt8):Z92 s0=
 Za2 s0 (0:Int) ([]:List D181):=by unfold Z92; rewrite [Y9]; kernel_rfl
theorem YMc (s0:List UInt8) (s1:Int) (r2:List D181):Za2 s0 s1 r2=
 bif (decide (s1 < (((length s0):Nat):Int))) then
 (YW6 (s0,(s1,false))).bind fun y0=>
 bif (decide (((length r2)+(length ([y0]:List D181)))<=(lim))) then
 Za2 s0 (wrap i64 (s1+y0.2.1)) (r2++([y0]:List D181))
 else
 none
 else
 some r2:=by unfold Za2; rewrite [Y9]; kernel_rfl
theorem Y2o (x:List UInt8):Y07 x=
 Zb2 x:=by kernel_rfl
theorem Ydk (s0:List UInt8):Zb2 s0=
 (Y4f s0).bind fun y0=>
 (Y8f y0).bind fun y1=>
 some y1:=by unfold Zb2; rewrite [Y9]; kernel_rfl
theorem Yuo (x:(Int×(List Int))):Ygf x=
 Zc2 x.1 x.2:=by kernel_rfl
theorem Ygk (s0:Int) (s1:(List Int)):Zc2 s0 s1=
 (Y97 (s0,(0:Int))).bind fun y0=>
 bif (y0.2 !=0) then
 some (([]:List UInt8),y0.2)
 else
 Zd2 s0 s1 ([]:List UInt8) (0:Int):=by unfold Zc2; rewrite [Y9]; kernel_rfl
theorem YWc (s0:Int) (s1:(List Int)) (s2:List UInt8) (s3:Int):Zd2 s0 s1 s2 s3=
 bif (decide (s3 < (((length s1):Nat):Int))) then
 bif (Ya s3 (length s1)) then
 (Y97 (s0,(getD s1 (Int.toNat s3) (Ty.zero (.int .u8))))).bind fun y0=>
 bif y0.1 then
 bif (Ya s3 (length s1)) then
 (YP9 (getD s1 (Int.toNat s3) (Ty.zero (.int .u8)))).bind fun y1=>
 bif (decide (((length s2)+(length y1))<=(2 ^ 62))) then
 Zd2 s0 s1 (s2++y1) (wrap i64 (s3+1))
 else
 none
 else
 none
 else
 bif (Ya s3 (length s1)) then
 bif (decide (((length s2)+(length (Ym ([(getD s1 (Int.toNat s3) (Ty.zero (.int .u8)))]:List Int))))<=(2 ^ 62))) then
 Zd2 s0 s1 (s2++(Ym ([(getD s1 (Int.toNat s3) (Ty.zero (.int .u8)))]:List Int))) (wrap i64 (s3+1))
 else
 none
 else
 none
 else
 none
 else
 some (s2,(0:Int)):=by unfold Zd2; rewrite [Y9]; kernel_rfl
theorem Yro (x:List UInt8):Yff x=
 Ze2 x:=by kernel_rfl
theorem Ymk (s0:List UInt8):Ze2 s0=
 Zf2 s0 (0:Int) ([]:List Int):=by unfold Ze2; rewrite [Y9]; kernel_rfl
theorem Y3d (s0:List UInt8) (s1:Int) (r2:List Int):Zf2 s0 s1 r2=
 bif (decide (s1 < (((length s0):Nat):Int))) then
 (YQ9 (s0,s1)).bind fun y0=>
 bif (decide (y0>=0)) then
 bif (decide (((length r2)+(length ([(wrap u8 y0)]:List Int)))<=(lim))) then
 Zf2 s0 (wrap i64 ((wrap i64 (s1+2))+1)) (r2++([(wrap u8 y0)]:List Int))
 else
 none
 else
 bif (Ya s1 (length s0)) then
 bif (decide (((length r2)+(length ([(((UInt8.toNat (getD s0 (Int.toNat s1) (0:UInt8))):Nat):Int)]:List Int)))<=(lim))) then
 Zf2 s0 (wrap i64 (s1+1)) (r2++([(((UInt8.toNat (getD s0 (Int.toNat s1) (0:UInt8))):Nat):Int)]:List Int))
 else
 none
 else
 none
 else
 some r2:=by unfold Zf2; rewrite [Y9]; kernel_rfl
theorem YZn (x:List UInt8):YG5 x=
 Zg2 x:=by kernel_rfl
theorem Ywk (s0:List UInt8):Zg2 s0=
 (YX6 s0).bind fun y0=>
 Zh2 s0 (0:Int) ([]:List Int) y0:=by unfold Zg2; rewrite [Y9]; kernel_rfl
theorem Y6d (s0:List UInt8) (s1:Int) (r2:List Int) (r3:List D181):Zh2 s0 s1 r2 r3=
 bif (decide (s1 < (((length r3):Nat):Int))) then
 bif (Ya s1 (length r3)) then
 bif (decide (((length r2)+(length ([(getD r3 (Int.toNat s1) (Ty.zero T181)).2.2.1]:List Int)))<=(lim))) then
 Zh2 s0 (wrap i64 (s1+1)) (r2++([(getD r3 (Int.toNat s1) (Ty.zero T181)).2.2.1]:List Int)) r3
 else
 none
 else
 none
 else
 some r2:=by unfold Zh2; rewrite [Y9]; kernel_rfl
theorem Y0o (x:(List Int)):YW2 x=
 Zi2 x:=by kernel_rfl
theorem YIk (s0:(List Int)):Zi2 s0=
 Zj2 s0 (0:Int):=by unfold Zi2; rewrite [Y9]; kernel_rfl
theorem Ydd (s0:(List Int)) (s1:Int):Zj2 s0 s1=
 bif (decide (s1 < (((length s0):Nat):Int))) then
 bif (Ya s1 (length s0)) then
 (YH4 (getD s0 (Int.toNat s1) (Ty.zero (.int .i32)))).bind fun y0=>
 bif (!y0) then
 some (([]:List UInt8),((23:Int),s1))
 else
 Zj2 s0 (wrap i64 (s1+1))
 else
 none
 else
 (YZe s0).bind fun y0=>
 some (y0,((0:Int),(0:Int))):=by unfold Zj2; rewrite [Y9]; kernel_rfl
theorem Y0p (x:List UInt8):Yf7 x=
 Zk2 x:=by kernel_rfl
theorem YRk (s0:List UInt8):Zk2 s0=
 (YG5 s0).bind fun y0=>
 Zl2 s0 (0:Int) y0:=by unfold Zk2; rewrite [Y9]; kernel_rfl
theorem Yhd (s0:List UInt8) (s1:Int) (r2:List Int):Zl2 s0 s1 r2=
 bif (decide (s1 < (((length r2):Nat):Int))) then
 bif (Ya s1 (length r2)) then
 bif ((getD r2 (Int.toNat s1) (Ty.zero (.int .i32)))==65533) then
 some true
 else
 Zl2 s0 (wrap i64 (s1+1)) r2
 else
 none
 else
 some false:=by unfold Zl2; rewrite [Y9]; kernel_rfl
theorem YOn (x:List UInt8):YE5 x=
 Zm2 x:=by kernel_rfl
theorem Y0l (s0:List UInt8):Zm2 s0=
 Zn2 s0 (0:Int) ([]:List Int):=by unfold Zm2; rewrite [Y9]; kernel_rfl
theorem Ymd (s0:List UInt8) (s1:Int) (r2:List Int):Zn2 s0 s1 r2=
 bif (decide (s1 < (((length s0):Nat):Int))) then
 bif (Ya s1 (length s0)) then
 bif (decide ((((UInt8.toNat (getD s0 (Int.toNat s1) (0:UInt8))):Nat):Int)>=65)) then
 bif (decide ((((UInt8.toNat (getD s0 (Int.toNat s1) (0:UInt8))):Nat):Int)<=90)) then
 Zo2 s0 s1 (wrap u8 ((((UInt8.toNat (getD s0 (Int.toNat s1) (0:UInt8))):Nat):Int)+32)) r2
 else
 Zo2 s0 s1 (((UInt8.toNat (getD s0 (Int.toNat s1) (0:UInt8))):Nat):Int) r2
 else
 Zo2 s0 s1 (((UInt8.toNat (getD s0 (Int.toNat s1) (0:UInt8))):Nat):Int) r2
 else
 none
 else
 some (Ym r2):=by unfold Zn2; rewrite [Y9]; kernel_rfl
theorem Y9l (s0:List UInt8) (s1:Int) (s2:Int) (r3:List Int):Zo2 s0 s1 s2 r3=
 bif (decide (((length r3)+(length ([s2]:List Int)))<=(lim))) then
 Zn2 s0 (wrap i64 (s1+1)) (r3++([s2]:List Int))
 else
 none:=by unfold Zo2; rewrite [Y9]; kernel_rfl
theorem Ydo (x:List UInt8):Y37 x=
 Zp2 x:=by kernel_rfl
theorem Yel (s0:List UInt8):Zp2 s0=
 (YK9 s0).bind fun y0=>
 bif (y0.2 !=0) then
 bif (y0.2 !=0) then
 some (([]:List UInt8),y0.2)
 else
 some (s0,(0:Int))
 else
 (Y57 s0).bind fun y1=>
 bif y1 then
 bif (y0.2 !=0) then
 some (([]:List UInt8),y0.2)
 else
 some (s0,(0:Int))
 else
 bif (decide (((length ([120,110,45,45]:List UInt8))+(length y0.1))<=(2 ^ 62))) then
 some ((([120,110,45,45]:List UInt8)++y0.1),(0:Int))
 else
 none:=by unfold Zp2; rewrite [Y9]; kernel_rfl
theorem YQn (x:(List UInt8×List UInt8)):YT6 x=
 Zq2 x.1 x.2:=by kernel_rfl
theorem Yil (s0:List UInt8) (s1:List UInt8):Zq2 s0 s1=
 (YE5 s0).bind fun y0=>
 (YE5 s1).bind fun y1=>
 some (y0==y1):=by unfold Zq2; rewrite [Y9]; kernel_rfl
theorem Y9o (x:List UInt8):YJ9 x=
 Zr2 x:=by kernel_rfl
theorem Yol (s0:List UInt8):Zr2 s0=
 bif (decide ((((length s0):Nat):Int) > 65536)) then
 some (([]:List UInt8),((5:Int),(0:Int)))
 else
 (Y67 s0).bind fun y0=>
 some (y0.1,(y0.2.1,y0.2.2)):=by unfold Zr2; rewrite [Y9]; kernel_rfl
theorem Yho (x:List UInt8):Y57 x=
 Zs2 x:=by kernel_rfl
theorem Yvl (s0:List UInt8):Zs2 s0=
 Zt2 s0 (0:Int):=by unfold Zs2; rewrite [Y9]; kernel_rfl
theorem YAd (s0:List UInt8) (s1:Int):Zt2 s0 s1=
 bif (decide (s1 < (((length s0):Nat):Int))) then
 bif (Ya s1 (length s0)) then
 bif (decide ((((UInt8.toNat (getD s0 (Int.toNat s1) (0:UInt8))):Nat):Int)>=128)) then
 some false
 else
 Zt2 s0 (wrap i64 (s1+1))
 else
 none
 else
 some true:=by unfold Zt2; rewrite [Y9]; kernel_rfl
theorem YWn (x:(List UInt8×(Int×Bool))):YW6 x=
 Zu2 x.1 x.2.1 x.2.2:=by kernel_rfl
theorem YEl (s0:List UInt8) (s1:Int) (s2:Bool):Zu2 s0 s1 s2=
 Zv2 s0 s1 s2 (1:Int) ((Ty.zero (.int .i64)),((Ty.zero (.int .i64)),((Ty.zero (.int .i32)),(Ty.zero .bool)))):=by unfold Zu2; rewrite [Y9]; kernel_rfl
theorem YHd (s0:List UInt8) (s1:Int) (s2:Bool) (s3:Int) (b4:D181):Zv2 s0 s1 s2 s3 b4=
 bif (decide (s3<=4)) then
 bif (decide ((wrap i64 (s1+s3))<=(((length s0):Nat):Int))) then
 (YI9 (s0,(s1,s3))).bind fun y0=>
 (YH4 y0).bind fun y1=>
 bif y1 then
 (YK2 y0).bind fun y2=>
 bif ((((length y2):Nat):Int)==s3) then
 (YK2 y0).bind fun y3=>
 (YH5 (s0,(s1,y3))).bind fun y4=>
 bif y4 then
 some (s1,(s3,(y0,(Ty.zero .bool))))
 else
 Zv2 s0 s1 s2 (wrap i64 (s3+1)) b4
 else
 Zv2 s0 s1 s2 (wrap i64 (s3+1)) b4
 else
 bif s2 then
 bif (decide (y0>=55296)) then
 bif (decide (y0<=57343)) then
 (YK2 y0).bind fun y2=>
 bif ((((length y2):Nat):Int)==s3) then
 (YK2 y0).bind fun y3=>
 (YH5 (s0,(s1,y3))).bind fun y4=>
 bif y4 then
 some (s1,(s3,(y0,(Ty.zero .bool))))
 else
 Zv2 s0 s1 s2 (wrap i64 (s3+1)) b4
 else
 Zv2 s0 s1 s2 (wrap i64 (s3+1)) b4
 else
 Zv2 s0 s1 s2 (wrap i64 (s3+1)) b4
 else
 Zv2 s0 s1 s2 (wrap i64 (s3+1)) b4
 else
 Zv2 s0 s1 s2 (wrap i64 (s3+1)) b4
 else
 some (s1,((1:Int),((65533:Int),true)))
 else
 some (s1,((1:Int),((65533:Int),true))):=by unfold Zv2; rewrite [Y9]; kernel_rfl
theorem Y3o (x:List UInt8):Y4f x=
 Zw2 x:=by kernel_rfl
theorem YMl (s0:List UInt8):Zw2 s0=
 Zx2 s0 (0:Int) ([]:List D181):=by unfold Zw2; rewrite [Y9]; kernel_rfl
theorem Y59 (s0:List UInt8) (s1:Int) (r2:List D181):Zx2 s0 s1 r2=
 bif (decide (s1 < (((length s0):Nat):Int))) then
 (YW6 (s0,(s1,false))).bind fun y0=>
 bif y0.2.2.2 then
 Zy2 s0 s1 (3:Int) y0 r2
 else
 Zz2 s0 s1 y0 r2
 else
 some r2:=by unfold Zx2; rewrite [Y9]; kernel_rfl
theorem Y69 (s0:List UInt8) (s1:Int) (s2:Int) (b3:D181) (r4:List D181):Zy2 s0 s1 s2 b3 r4=
 bif (decide (s2 > 1)) then
 (Y17 (s0,(s1,s2))).bind fun y0=>
 bif y0 then
 Zz2 s0 s1 (b3.1,(s2,b3.2.2)) r4
 else
 Zy2 s0 s1 (wrap i64 (s2 - 1)) b3 r4
 else
 Zz2 s0 s1 b3 r4:=by unfold Zy2; rewrite [Y9]; kernel_rfl
theorem YXl (s0:List UInt8) (s1:Int) (b2:D181) (r3:List D181):Zz2 s0 s1 b2 r3=
 bif (decide (((length r3)+(length ([b2]:List D181)))<=(lim))) then
 Zx2 s0 (wrap i64 (s1+b2.2.1)) (r3++([b2]:List D181))
 else
 none:=by unfold Zz2; rewrite [Y9]; kernel_rfl
theorem Y8o (x:(List D181)):Y8f x=
 Z03 x:=by kernel_rfl
theorem Ydj (s0:(List D181)):Z03 s0=
 Z13 s0 (0:Int) ([]:List Int):=by unfold Z03; rewrite [Y9]; kernel_rfl
theorem Yrc (s0:(List D181)) (s1:Int) (r2:List Int):Z13 s0 s1 r2=
 bif (decide (s1 < (((length s0):Nat):Int))) then
 bif (Ya s1 (length s0)) then
 (YK2 (getD s0 (Int.toNat s1) (Ty.zero T181)).2.2.1).bind fun y0=>
 bif (decide (((length r2)+(length y0))<=(lim))) then
 Z13 s0 (wrap i64 (s1+1)) (r2++y0)
 else
 none
 else
 none
 else
 some (Ym r2):=by unfold Z13; rewrite [Y9]; kernel_rfl
theorem Yvo (x:(Int×Int)):Y97 x=
 Z23 x.1 x.2:=by kernel_rfl
theorem Ypj (s0:Int) (s1:Int):Z23 s0 s1=
 bif (decide (s0 < 1)) then
 some (false,(42:Int))
 else
 bif (decide (s0 > 8)) then
 some (false,(42:Int))
 else
 bif (decide (s1 < 32)) then
 bif (Ya s0 (length ([false,true,true,true,true,true,true,true,true]:List Bool))) then
 some ((getD ([false,true,true,true,true,true,true,true,true]:List Bool) (Int.toNat s0) (Ty.zero .bool)),(0:Int))
 else
 none
 else
 bif (decide (s1 > 126)) then
 bif (decide (s1 > 126)) then
 bif (Ya s0 (length ([false,(decide (s1 > 126)),true,true,true,true,true,true,true]:List Bool))) then
 some ((getD ([false,(decide (s1 > 126)),true,true,true,true,true,true,true]:List Bool) (Int.toNat s0) (Ty.zero .bool)),(0:Int))
 else
 none
 else
 (YI1 (s1,([32,34,60,62,96]:List UInt8))).bind fun y0=>
 bif (Ya s0 (length ([false,(decide (s1 > 126)),y0,true,true,true,true,true,true]:List Bool))) then
 some ((getD ([false,(decide (s1 > 126)),y0,true,true,true,true,true,true]:List Bool) (Int.toNat s0) (Ty.zero .bool)),(0:Int))
 else
 none
 else
 (YI1 (s1,([32,34,35,60,62]:List UInt8))).bind fun y0=>
 bif y0 then
 bif (decide (s1 > 126)) then
 bif y0 then
 bif (Ya s0 (length ([false,(decide (s1 > 126)),true,y0,true,true,true,true,true]:List Bool))) then
 some ((getD ([false,(decide (s1 > 126)),true,y0,true,true,true,true,true]:List Bool) (Int.toNat s0) (Ty.zero .bool)),(0:Int))
 else
 none
 else
 bif (Ya s0 (length ([false,(decide (s1 > 126)),true,y0,(s1==39),true,true,true,true]:List Bool))) then
 some ((getD ([false,(decide (s1 > 126)),true,y0,(s1==39),true,true,true,true]:List Bool) (Int.toNat s0) (Ty.zero .bool)),(0:Int))
 else
 none
 else
 (YI1 (s1,([32,34,60,62,96]:List UInt8))).bind fun y1=>
 bif y0 then
 bif (Ya s0 (length ([false,(decide (s1 > 126)),y1,y0,true,true,true,true,true]:List Bool))) then
 some ((getD ([false,(decide (s1 > 126)),y1,y0,true,true,true,true,true]:List Bool) (Int.toNat s0) (Ty.zero .bool)),(0:Int))
 else
 none
 else
 bif (Ya s0 (length ([false,(decide (s1 > 126)),y1,y0,(s1==39),true,true,true,true]:List Bool))) then
 some ((getD ([false,(decide (s1 > 126)),y1,y0,(s1==39),true,true,true,true]:List Bool) (Int.toNat s0) (Ty.zero .bool)),(0:Int))
 else
 none
 else
 (YI1 (s1,([63,94,96,123,125]:List UInt8))).bind fun y1=>
 bif y1 then
 bif (decide (s1 > 126)) then
 bif y0 then
 bif (Ya s0 (length ([false,(decide (s1 > 126)),true,y0,true,y1,true,true,true]:List Bool))) then
 some ((getD ([false,(decide (s1 > 126)),true,y0,true,y1,true,true,true]:List Bool) (Int.toNat s0) (Ty.zero .bool)),(0:Int))
 else
 none
 else
 bif (Ya s0 (length ([false,(decide (s1 > 126)),true,y0,(s1==39),y1,true,true,true]:List Bool))) then
 some ((getD ([false,(decide (s1 > 126)),true,y0,(s1==39),y1,true,true,true]:List Bool) (Int.toNat s0) (Ty.zero .bool)),(0:Int))
 else
 none
 else
 (YI1 (s1,([32,34,60,62,96]:List UInt8))).bind fun y2=>
 bif y0 then
 bif (Ya s0 (length ([false,(decide (s1 > 126)),y2,y0,true,y1,true,true,true]:List Bool))) then
 some ((getD ([false,(decide (s1 > 126)),y2,y0,true,y1,true,true,true]:List Bool) (Int.toNat s0) (Ty.zero .bool)),(0:Int))
 else
 none
 else
 bif (Ya s0 (length ([false,(decide (s1 > 126)),y2,y0,(s1==39),y1,true,true,true]:List Bool))) then
 some ((getD ([false,(decide (s1 > 126)),y2,y0,(s1==39),y1,true,true,true]:List Bool) (Int.toNat s0) (Ty.zero .bool)),(0:Int))
 else
 none
 else
 (YI1 (s1,([47,58,59,61,64,91,92,93,124]:List UInt8))).bind fun y2=>
 bif y2 then
 bif (decide (s1 > 126)) then
 bif y0 then
 bif (Ya s0 (length ([false,(decide (s1 > 126)),true,y0,true,y1,y2,true,true]:List Bool))) then
 some ((getD ([false,(decide (s1 > 126)),true,y0,true,y1,y2,true,true]:List Bool) (Int.toNat s0) (Ty.zero .bool)),(0:Int))
 else
 none
 else
 bif (Ya s0 (length ([false,(decide (s1 > 126)),true,y0,(s1==39),y1,y2,true,true]:List Bool))) then
 some ((getD ([false,(decide (s1 > 126)),true,y0,(s1==39),y1,y2,true,true]:List Bool) (Int.toNat s0) (Ty.zero .bool)),(0:Int))
 else
 none
 else
 (YI1 (s1,([32,34,60,62,96]:List UInt8))).bind fun y3=>
 bif y0 then
 bif (Ya s0 (length ([false,(decide (s1 > 126)),y3,y0,true,y1,y2,true,true]:List Bool))) then
 some ((getD ([false,(decide (s1 > 126)),y3,y0,true,y1,y2,true,true]:List Bool) (Int.toNat s0) (Ty.zero .bool)),(0:Int))
 else
 none
 else
 bif (Ya s0 (length ([false,(decide (s1 > 126)),y3,y0,(s1==39),y1,y2,true,true]:List Bool))) then
 some ((getD ([false,(decide (s1 > 126)),y3,y0,(s1==39),y1,y2,true,true]:List Bool) (Int.toNat s0) (Ty.zero .bool)),(0:Int))
 else
 none
 else
 (YI1 (s1,([36,37,38,43,44]:List UInt8))).bind fun y3=>
 bif (decide (s1 > 126)) then
 bif y0 then
 bif y3 then
 bif (Ya s0 (length ([false,(decide (s1 > 126)),true,y0,true,y1,y2,y3,true]:List Bool))) then
 some ((getD ([false,(decide (s1 > 126)),true,y0,true,y1,y2,y3,true]:List Bool) (Int.toNat s0) (Ty.zero .bool)),(0:Int))
 else
 none
 else
 (YI1 (s1,([33,39,40,41,126]:List UInt8))).bind fun y4=>
 bif (Ya s0 (length ([false,(decide (s1 > 126)),true,y0,true,y1,y2,y3,y4]:List Bool))) then
 some ((getD ([false,(decide (s1 > 126)),true,y0,true,y1,y2,y3,y4]:List Bool) (Int.toNat s0) (Ty.zero .bool)),(0:Int))
 else
 none
 else
 bif y3 then
 bif (Ya s0 (length ([false,(decide (s1 > 126)),true,y0,(s1==39),y1,y2,y3,true]:List Bool))) then
 some ((getD ([false,(decide (s1 > 126)),true,y0,(s1==39),y1,y2,y3,true]:List Bool) (Int.toNat s0) (Ty.zero .bool)),(0:Int))
 else
 none
 else
 (YI1 (s1,([33,39,40,41,126]:List UInt8))).bind fun y4=>
 bif (Ya s0 (length ([false,(decide (s1 > 126)),true,y0,(s1==39),y1,y2,y3,y4]:List Bool))) then
 some ((getD ([false,(decide (s1 > 126)),true,y0,(s1==39),y1,y2,y3,y4]:List Bool) (Int.toNat s0) (Ty.zero .bool)),(0:Int))
 else
 none
 else
 (YI1 (s1,([32,34,60,62,96]:List UInt8))).bind fun y4=>
 bif y0 then
 bif y3 then
 bif (Ya s0 (length ([false,(decide (s1 > 126)),y4,y0,true,y1,y2,y3,true]:List Bool))) then
 some ((getD ([false,(decide (s1 > 126)),y4,y0,true,y1,y2,y3,true]:List Bool) (Int.toNat s0) (Ty.zero .bool)),(0:Int))
 else
 none
 else
 (YI1 (s1,([33,39,40,41,126]:List UInt8))).bind fun y5=>
 bif (Ya s0 (length ([false,(decide (s1 > 126)),y4,y0,true,y1,y2,y3,y5]:List Bool))) then
 some ((getD ([false,(decide (s1 > 126)),y4,y0,true,y1,y2,y3,y5]:List Bool) (Int.toNat s0) (Ty.zero .bool)),(0:Int))
 else
 none
 else
 bif y3 then
 bif (Ya s0 (length ([false,(decide (s1 > 126)),y4,y0,(s1==39),y1,y2,y3,true]:List Bool))) then
 some ((getD ([false,(decide (s1 > 126)),y4,y0,(s1==39),y1,y2,y3,true]:List Bool) (Int.toNat s0) (Ty.zero .bool)),(0:Int))
 else
 none
 else
 (YI1 (s1,([33,39,40,41,126]:List UInt8))).bind fun y5=>
 bif (Ya s0 (length ([false,(decide (s1 > 126)),y4,y0,(s1==39),y1,y2,y3,y5]:List Bool))) then
 some ((getD ([false,(decide (s1 > 126)),y4,y0,(s1==39),y1,y2,y3,y5]:List Bool) (Int.toNat s0) (Ty.zero .bool)),(0:Int))
 else
 none:=by unfold Z23; rewrite [Y9]; kernel_rfl
theorem Yyo (x:Int):YP9 x=
 Z33 x:=by kernel_rfl
theorem Yvj (s0:Int):Z33 s0=
 bif (Yi (some (wrap u8 (Int.tdiv s0 (16:Int)))) (some (wrap u8 ((wrap u8 (Int.tdiv s0 (16:Int)))+1))) (length ([48,49,50,51,52,53,54,55,56,57,65,66,67,68,69,70]:List UInt8))) then
 bif (decide (((length ([37]:List UInt8))+(length (Yl (some (wrap u8 (Int.tdiv s0 (16:Int)))) (some (wrap u8 ((wrap u8 (Int.tdiv s0 (16:Int)))+1))) ([48,49,50,51,52,53,54,55,56,57,65,66,67,68,69,70]:List UInt8))))<=(2 ^ 62))) then
 bif (Yi (some (Int.tmod s0 (16:Int))) (some (wrap u8 ((Int.tmod s0 (16:Int))+1))) (length ([48,49,50,51,52,53,54,55,56,57,65,66,67,68,69,70]:List UInt8))) then
 bif (decide (((length (([37]:List UInt8)++(Yl (some (wrap u8 (Int.tdiv s0 (16:Int)))) (some (wrap u8 ((wrap u8 (Int.tdiv s0 (16:Int)))+1))) ([48,49,50,51,52,53,54,55,56,57,65,66,67,68,69,70]:List UInt8))))+(length (Yl (some (Int.tmod s0 (16:Int))) (some (wrap u8 ((Int.tmod s0 (16:Int))+1))) ([48,49,50,51,52,53,54,55,56,57,65,66,67,68,69,70]:List UInt8))))<=(2 ^ 62))) then
 some ((([37]:List UInt8)++(Yl (some (wrap u8 (Int.tdiv s0 (16:Int)))) (some (wrap u8 ((wrap u8 (Int.tdiv s0 (16:Int)))+1))) ([48,49,50,51,52,53,54,55,56,57,65,66,67,68,69,70]:List UInt8)))++(Yl (some (Int.tmod s0 (16:Int))) (some (wrap u8 ((Int.tmod s0 (16:Int))+1))) ([48,49,50,51,52,53,54,55,56,57,65,66,67,68,69,70]:List UInt8)))
 else
 none
 else
 none
 else
 none
 else
 none:=by unfold Z33; rewrite [Y9]; kernel_rfl
theorem YAo (x:(List UInt8×Int)):YQ9 x=
 Z43 x.1 x.2:=by kernel_rfl
theorem YCj (s0:List UInt8) (s1:Int):Z43 s0 s1=
 bif (decide ((wrap i64 (s1+2))>=(((length s0):Nat):Int))) then
 some (-(1:Int))
 else
 bif (Ya s1 (length s0)) then
 bif ((((UInt8.toNat (getD s0 (Int.toNat s1) (0:UInt8))):Nat):Int) !=37) then
 some (-(1:Int))
 else
 bif (Ya (wrap i64 (s1+1)) (length s0)) then
 (YI4 (((UInt8.toNat (getD s0 (Int.toNat (wrap i64 (s1+1))) (0:UInt8))):Nat):Int)).bind fun y0=>
 bif (decide (y0 < 0)) then
 some (-(1:Int))
 else
 bif (Ya (wrap i64 (s1+2)) (length s0)) then
 (YI4 (((UInt8.toNat (getD s0 (Int.toNat (wrap i64 (s1+2))) (0:UInt8))):Nat):Int)).bind fun y1=>
 bif (decide (y1 < 0)) then
 some (-(1:Int))
 else
 bif (Ya (wrap i64 (s1+1)) (length s0)) then
 bif (Ya (wrap i64 (s1+2)) (length s0)) then
 (YI4 (((UInt8.toNat (getD s0 (Int.toNat (wrap i64 (s1+1))) (0:UInt8))):Nat):Int)).bind fun y2=>
 (YI4 (((UInt8.toNat (getD s0 (Int.toNat (wrap i64 (s1+2))) (0:UInt8))):Nat):Int)).bind fun y3=>
 some (wrap i64 ((wrap i64 ((16:Int)*y2))+y3))
 else
 none
 else
 none
 else
 none
 else
 none
 else
 none:=by unfold Z43; rewrite [Y9]; kernel_rfl
theorem YYn (x:Int):YH4 x=
 Z53 x:=by kernel_rfl
theorem YJj (s0:Int):Z53 s0=
 bif (decide (s0>=0)) then
 bif (decide (s0<=1114111)) then
 bif (decide (s0 < 55296)) then
 some true
 else
 some (decide (s0 > 57343))
 else
 some false
 else
 some false:=by unfold Z53; rewrite [Y9]; kernel_rfl
theorem YVn (x:(List Int)):YZe x=
 Z63 x:=by kernel_rfl
theorem YLj (s0:(List Int)):Z63 s0=
 Z73 s0 (0:Int) ([]:List Int):=by unfold Z63; rewrite [Y9]; kernel_rfl
theorem YFc (s0:(List Int)) (s1:Int) (r2:List Int):Z73 s0 s1 r2=
 bif (decide (s1 < (((length s0):Nat):Int))) then
 bif (Ya s1 (length s0)) then
 (YH4 (getD s0 (Int.toNat s1) (Ty.zero (.int .i32)))).bind fun y0=>
 bif (!y0) then
 Z83 s0 s1 (65533:Int) r2
 else
 Z83 s0 s1 (getD s0 (Int.toNat s1) (Ty.zero (.int .i32))) r2
 else
 none
 else
 some (Ym r2):=by unfold Z73; rewrite [Y9]; kernel_rfl
theorem YYj (s0:(List Int)) (s1:Int) (s2:Int) (r3:List Int):Z83 s0 s1 s2 r3=
 (YK2 s2).bind fun y0=>
 bif (decide (((length r3)+(length y0))<=(lim))) then
 Z73 s0 (wrap i64 (s1+1)) (r3++y0)
 else
 none:=by unfold Z83; rewrite [Y9]; kernel_rfl
theorem Ybo (x:List UInt8):YK9 x=
 Z93 x:=by kernel_rfl
theorem Y3k (s0:List UInt8):Z93 s0=
 (YZ6 s0).bind fun y0=>
 bif (!y0.1) then
 some (([]:List UInt8),(21:Int))
 else
 bif (decide ((((length s0):Nat):Int) > 65536)) then
 some (([]:List UInt8),(5:Int))
 else
 (YG5 s0).bind fun y1=>
 (YM9 y1).bind fun y2=>
 (Y67 y2).bind fun y3=>
 bif (y3.2.1==32) then
 some (([]:List UInt8),(32:Int))
 else
 some (y2,(0:Int)):=by unfold Z93; rewrite [Y9]; kernel_rfl
theorem Yio (x:List UInt8):Y67 x=
 Za3 x:=by kernel_rfl
theorem Y8k (s0:List UInt8):Za3 s0=
 Zb3 s0 (0:Int):=by unfold Za3; rewrite [Y9]; kernel_rfl
theorem YOc (s0:List UInt8) (s1:Int):Zb3 s0 s1=
 bif (decide (s1 < (((length s0):Nat):Int))) then
 bif (Ya s1 (length s0)) then
 bif (decide ((((UInt8.toNat (getD s0 (Int.toNat s1) (0:UInt8))):Nat):Int)>=128)) then
 some (([]:List UInt8),((31:Int),s1))
 else
 Zb3 s0 (wrap i64 (s1+1))
 else
 none
 else
 Zc3 s0 (0:Int) (wrap i64 ((((length s0):Nat):Int) - 1)) ([]:List Int):=by unfold Zb3; rewrite [Y9]; kernel_rfl
theorem YRc (s0:List UInt8) (s1:Int) (s2:Int) (r3:List Int):Zc3 s0 s1 s2 r3=
 bif (decide (s2>=0)) then
 bif (Ya s2 (length s0)) then
 bif ((((UInt8.toNat (getD s0 (Int.toNat s2) (0:UInt8))):Nat):Int)==45) then
 Zd3 s0 s2 (0:Int) r3
 else
 Zc3 s0 s1 (wrap i64 (s2 - 1)) r3
 else
 none
 else
 Ze3 s0 s1 (((length r3):Nat):Int) (128:Int) (0:Int) (72:Int) r3:=by unfold Zc3; rewrite [Y9]; kernel_rfl
theorem YXc (s0:List UInt8) (s1:Int) (s2:Int) (r3:List Int):Zd3 s0 s1 s2 r3=
 bif (decide (s2 < s1)) then
 bif (Ya s2 (length s0)) then
 bif (decide (((length r3)+(length ([(wrap i32 (((UInt8.toNat (getD s0 (Int.toNat s2) (0:UInt8))):Nat):Int))]:List Int)))<=(lim))) then
 Zd3 s0 s1 (wrap i64 (s2+1)) (r3++([(wrap i32 (((UInt8.toNat (getD s0 (Int.toNat s2) (0:UInt8))):Nat):Int))]:List Int))
 else
 none
 else
 none
 else
 Ze3 s0 (wrap i64 (s1+1)) (((length r3):Nat):Int) (128:Int) (0:Int) (72:Int) r3:=by unfold Zd3; rewrite [Y9]; kernel_rfl
theorem Y0d (s0:List UInt8) (s1:Int) (s2:Int) (s3:Int) (s4:Int) (s5:Int) (r6:List Int):Ze3 s0 s1 s2 s3 s4 s5 r6=
 bif (decide (s1 < (((length s0):Nat):Int))) then
 Zf3 s0 s1 s2 s3 s4 s5 s1 s4 (1:Int) (36:Int) r6
 else
 (YW2 r6).bind fun y0=>
 some (y0.1,((0:Int),(0:Int))):=by unfold Ze3; rewrite [Y9]; kernel_rfl
theorem Y4d (s0:List UInt8) (s1:Int) (s2:Int) (s3:Int) (s4:Int) (s5:Int) (s6:Int) (s7:Int) (s8:Int) (s9:Int) (r10:List Int):Zf3 s0 s1 s2 s3 s4 s5 s6 s7 s8 s9 r10=
 bif (decide (s1>=(((length s0):Nat):Int))) then
 some (([]:List UInt8),((31:Int),(((length s0):Nat):Int)))
 else
 bif (Ya s1 (length s0)) then
 (YO9 (((UInt8.toNat (getD s0 (Int.toNat s1) (0:UInt8))):Nat):Int)).bind fun y0=>
 bif (decide (y0 < 0)) then
 some (([]:List UInt8),((31:Int),s1))
 else
 bif (decide ((wrap i64 (s4+(wrap i64 (y0*s8)))) > 2147483647)) then
 some (([]:List UInt8),((32:Int),s6))
 else
 (Y87 (s9,s5)).bind fun y1=>
 bif (decide (y0 < y1)) then
 (Y47 ((wrap i64 ((wrap i64 (s4+(wrap i64 (y0*s8)))) - s7)),((wrap i64 ((((length r10):Nat):Int)+1)),((((length r10):Nat):Int)==s2)))).bind fun y2=>
 bif ((wrap i64 ((((length r10):Nat):Int)+1)) !=0) then
 bif (decide ((wrap i64 (s3+(wrap i64 (Int.tdiv (wrap i64 (s4+(wrap i64 (y0*s8)))) (wrap i64 ((((length r10):Nat):Int)+1)))))) > 1114111)) then
 some (([]:List UInt8),((32:Int),s6))
 else
 bif (decide ((wrap i64 (s3+(wrap i64 (Int.tdiv (wrap i64 (s4+(wrap i64 (y0*s8)))) (wrap i64 ((((length r10):Nat):Int)+1))))))>=55296)) then
 bif (decide ((wrap i64 (s3+(wrap i64 (Int.tdiv (wrap i64 (s4+(wrap i64 (y0*s8)))) (wrap i64 ((((length r10):Nat):Int)+1))))))<=57343)) then
 some (([]:List UInt8),((32:Int),s6))
 else
 bif ((wrap i64 ((((length r10):Nat):Int)+1)) !=0) then
 bif (Yi (some (Int.tmod (wrap i64 (s4+(wrap i64 (y0*s8)))) (wrap i64 ((((length r10):Nat):Int)+1)))) none (length r10)) then
 bif (decide ((length (List.drop (Option.getD (Option.map (Int.toNat) (some (Int.tmod (wrap i64 (s4+(wrap i64 (y0*s8)))) (wrap i64 ((((length r10):Nat):Int)+1))))) 0) (List.take (Option.getD (Option.map (Int.toNat) none) (length r10)) r10)))<=(lim))) then
 bif (Yi none (some (Int.tmod (wrap i64 (s4+(wrap i64 (y0*s8)))) (wrap i64 ((((length r10):Nat):Int)+1)))) (length r10)) then
 bif (decide (((length (List.take (Option.getD (Option.map (Int.toNat) (some (Int.tmod (wrap i64 (s4+(wrap i64 (y0*s8)))) (wrap i64 ((((length r10):Nat):Int)+1))))) (length r10)) r10))+(length ([(wrap i32 (wrap i64 (s3+(wrap i64 (Int.tdiv (wrap i64 (s4+(wrap i64 (y0*s8)))) (wrap i64 ((((length r10):Nat):Int)+1)))))))]:List Int)))<=(lim))) then
 bif (decide (((length ((List.take (Option.getD (Option.map (Int.toNat) (some (Int.tmod (wrap i64 (s4+(wrap i64 (y0*s8)))) (wrap i64 ((((length r10):Nat):Int)+1))))) (length r10)) r10)++([(wrap i32 (wrap i64 (s3+(wrap i64 (Int.tdiv (wrap i64 (s4+(wrap i64 (y0*s8)))) (wrap i64 ((((length r10):Nat):Int)+1)))))))]:List Int)))+(length (List.drop (Option.getD (Option.map (Int.toNat) (some (Int.tmod (wrap i64 (s4+(wrap i64 (y0*s8)))) (wrap i64 ((((length r10):Nat):Int)+1))))) 0) (List.take (Option.getD (Option.map (Int.toNat) none) (length r10)) r10))))<=(lim))) then
 Ze3 s0 (wrap i64 (s1+1)) s2 (wrap i64 (s3+(wrap i64 (Int.tdiv (wrap i64 (s4+(wrap i64 (y0*s8)))) (wrap i64 ((((length r10):Nat):Int)+1)))))) (wrap i64 ((Int.tmod (wrap i64 (s4+(wrap i64 (y0*s8)))) (wrap i64 ((((length r10):Nat):Int)+1)))+1)) y2 (((List.take (Option.getD (Option.map (Int.toNat) (some (Int.tmod (wrap i64 (s4+(wrap i64 (y0*s8)))) (wrap i64 ((((length r10):Nat):Int)+1))))) (length r10)) r10)++([(wrap i32 (wrap i64 (s3+(wrap i64 (Int.tdiv (wrap i64 (s4+(wrap i64 (y0*s8)))) (wrap i64 ((((length r10):Nat):Int)+1)))))))]:List Int))++(List.drop (Option.getD (Option.map (Int.toNat) (some (Int.tmod (wrap i64 (s4+(wrap i64 (y0*s8)))) (wrap i64 ((((length r10):Nat):Int)+1))))) 0) (List.take (Option.getD (Option.map (Int.toNat) none) (length r10)) r10)))
 else
 none
 else
 none
 else
 none
 else
 none
 else
 none
 else
 none
 else
 bif ((wrap i64 ((((length r10):Nat):Int)+1)) !=0) then
 bif (Yi (some (Int.tmod (wrap i64 (s4+(wrap i64 (y0*s8)))) (wrap i64 ((((length r10):Nat):Int)+1)))) none (length r10)) then
 bif (decide ((length (List.drop (Option.getD (Option.map (Int.toNat) (some (Int.tmod (wrap i64 (s4+(wrap i64 (y0*s8)))) (wrap i64 ((((length r10):Nat):Int)+1))))) 0) (List.take (Option.getD (Option.map (Int.toNat) none) (length r10)) r10)))<=(lim))) then
 bif (Yi none (some (Int.tmod (wrap i64 (s4+(wrap i64 (y0*s8)))) (wrap i64 ((((length r10):Nat):Int)+1)))) (length r10)) then
 bif (decide (((length (List.take (Option.getD (Option.map (Int.toNat) (some (Int.tmod (wrap i64 (s4+(wrap i64 (y0*s8)))) (wrap i64 ((((length r10):Nat):Int)+1))))) (length r10)) r10))+(length ([(wrap i32 (wrap i64 (s3+(wrap i64 (Int.tdiv (wrap i64 (s4+(wrap i64 (y0*s8)))) (wrap i64 ((((length r10):Nat):Int)+1)))))))]:List Int)))<=(lim))) then
 bif (decide (((length ((List.take (Option.getD (Option.map (Int.toNat) (some (Int.tmod (wrap i64 (s4+(wrap i64 (y0*s8)))) (wrap i64 ((((length r10):Nat):Int)+1))))) (length r10)) r10)++([(wrap i32 (wrap i64 (s3+(wrap i64 (Int.tdiv (wrap i64 (s4+(wrap i64 (y0*s8)))) (wrap i64 ((((length r10):Nat):Int)+1)))))))]:List Int)))+(length (List.drop (Option.getD (Option.map (Int.toNat) (some (Int.tmod (wrap i64 (s4+(wrap i64 (y0*s8)))) (wrap i64 ((((length r10):Nat):Int)+1))))) 0) (List.take (Option.getD (Option.map (Int.toNat) none) (length r10)) r10))))<=(lim))) then
 Ze3 s0 (wrap i64 (s1+1)) s2 (wrap i64 (s3+(wrap i64 (Int.tdiv (wrap i64 (s4+(wrap i64 (y0*s8)))) (wrap i64 ((((length r10):Nat):Int)+1)))))) (wrap i64 ((Int.tmod (wrap i64 (s4+(wrap i64 (y0*s8)))) (wrap i64 ((((length r10):Nat):Int)+1)))+1)) y2 (((List.take (Option.getD (Option.map (Int.toNat) (some (Int.tmod (wrap i64 (s4+(wrap i64 (y0*s8)))) (wrap i64 ((((length r10):Nat):Int)+1))))) (length r10)) r10)++([(wrap i32 (wrap i64 (s3+(wrap i64 (Int.tdiv (wrap i64 (s4+(wrap i64 (y0*s8)))) (wrap i64 ((((length r10):Nat):Int)+1)))))))]:List Int))++(List.drop (Option.getD (Option.map (Int.toNat) (some (Int.tmod (wrap i64 (s4+(wrap i64 (y0*s8)))) (wrap i64 ((((length r10):Nat):Int)+1))))) 0) (List.take (Option.getD (Option.map (Int.toNat) none) (length r10)) r10)))
 else
 none
 else
 none
 else
 none
 else
 none
 else
 none
 else
 none
 else
 none
 else
 bif (decide ((wrap i64 (s8*(wrap i64 ((36:Int) - y1)))) > 2147483647)) then
 some (([]:List UInt8),((32:Int),s6))
 else
 Zf3 s0 (wrap i64 (s1+1)) s2 s3 (wrap i64 (s4+(wrap i64 (y0*s8)))) s5 s6 s7 (wrap i64 (s8*(wrap i64 ((36:Int) - y1)))) (wrap i64 (s9+36)) r10
 else
 none:=by unfold Zf3; rewrite [Y9]; kernel_rfl
theorem Y5o (x:(List UInt8×(Int×Int))):YI9 x=
 Zg3 x.1 x.2.1 x.2.2:=by kernel_rfl
theorem Yxk (s0:List UInt8) (s1:Int) (s2:Int):Zg3 s0 s1 s2=
 bif (Ya s1 (length s0)) then
 bif (Ya s2 (length ([0,127,31,15,7]:List Int))) then
 Zh3 s0 s1 s2 (wrap i32 (bits Go.BinOp.and u8 (((UInt8.toNat (getD s0 (Int.toNat s1) (0:UInt8))):Nat):Int) (getD ([0,127,31,15,7]:List Int) (Int.toNat s2) (Ty.zero (.int .u8))))) (1:Int)
 else
 none
 else
 none:=by unfold Zg3; rewrite [Y9]; kernel_rfl
theorem Y7d (s0:List UInt8) (s1:Int) (s2:Int) (s3:Int) (s4:Int):Zh3 s0 s1 s2 s3 s4=
 bif (decide (s4 < s2)) then
 bif (Ya (wrap i64 (s1+s4)) (length s0)) then
 Zh3 s0 s1 s2 (wrap i32 ((wrap i32 (s3*64))+(wrap i32 (bits Go.BinOp.and u8 (((UInt8.toNat (getD s0 (Int.toNat (wrap i64 (s1+s4))) (0:UInt8))):Nat):Int) (63:Int))))) (wrap i64 (s4+1))
 else
 none
 else
 some s3:=by unfold Zh3; rewrite [Y9]; kernel_rfl
theorem YUn (x:Int):YK2 x=
 Zi3 x:=by kernel_rfl
theorem YJk (s0:Int):Zi3 s0=
 bif (decide (s0 < 128)) then
 some ([(wrap u8 s0)]:List Int)
 else
 bif (decide (s0 < 2048)) then
 some ([(wrap u8 (wrap i32 ((192:Int)+(wrap i32 (Int.tdiv s0 (64:Int)))))),(wrap u8 (wrap i32 ((128:Int)+(Int.tmod s0 (64:Int)))))]:List Int)
 else
 bif (decide (s0 < 65536)) then
 some ([(wrap u8 (wrap i32 ((224:Int)+(wrap i32 (Int.tdiv s0 (4096:Int)))))),(wrap u8 (wrap i32 ((128:Int)+(Int.tmod (wrap i32 (Int.tdiv s0 (64:Int))) (64:Int))))),(wrap u8 (wrap i32 ((128:Int)+(Int.tmod s0 (64:Int)))))]:List Int)
 else
 some ([(wrap u8 (wrap i32 ((240:Int)+(wrap i32 (Int.tdiv s0 (262144:Int)))))),(wrap u8 (wrap i32 ((128:Int)+(Int.tmod (wrap i32 (Int.tdiv s0 (4096:Int))) (64:Int))))),(wrap u8 (wrap i32 ((128:Int)+(Int.tmod (wrap i32 (Int.tdiv s0 (64:Int))) (64:Int))))),(wrap u8 (wrap i32 ((128:Int)+(Int.tmod s0 (64:Int)))))]:List Int):=by unfold Zi3; rewrite [Y9]; kernel_rfl
theorem Y4o (x:(List UInt8×(Int×(List Int)))):YH5 x=
 Zj3 x.1 x.2.1 x.2.2:=by kernel_rfl
theorem YMk (s0:List UInt8) (s1:Int) (s2:(List Int)):Zj3 s0 s1 s2=
 bif (decide ((wrap i64 ((((length s0):Nat):Int) - s1)) < (((length s2):Nat):Int))) then
 some false
 else
 Zk3 s0 s1 s2 (0:Int):=by unfold Zj3; rewrite [Y9]; kernel_rfl
theorem Yed (s0:List UInt8) (s1:Int) (s2:(List Int)) (s3:Int):Zk3 s0 s1 s2 s3=
 bif (decide (s3 < (((length s2):Nat):Int))) then
 bif (Ya (wrap i64 (s1+s3)) (length s0)) then
 bif (Ya s3 (length s2)) then
 bif ((((UInt8.toNat (getD s0 (Int.toNat (wrap i64 (s1+s3))) (0:UInt8))):Nat):Int) !=(getD s2 (Int.toNat s3) (Ty.zero (.int .u8)))) then
 some false
 else
 Zk3 s0 s1 s2 (wrap i64 (s3+1))
 else
 none
 else
 none
 else
 some true:=by unfold Zk3; rewrite [Y9]; kernel_rfl
theorem Y6f (x:(List UInt8×(Int×Int))):Y17 x=
 Zl3 x.1 x.2.1 x.2.2:=by kernel_rfl
theorem Yid (s0:List UInt8) (s1:Int) (s2:Int):Zl3 s0 s1 s2=
 bif (decide ((wrap i64 (s1+s2)) > (((length s0):Nat):Int))) then
 some false
 else
 Zm3 s0 s1 s2 (wrap i64 (s2+1)):=by unfold Zl3; rewrite [Y9]; kernel_rfl
theorem Y39 (s0:List UInt8) (s1:Int) (s2:Int) (s3:Int):Zm3 s0 s1 s2 s3=
 bif (decide (s3<=4)) then
 bif (Ya s1 (length s0)) then
 bif (Ya s3 (length ([0,127,31,15,7]:List Int))) then
 Zn3 s0 s1 s2 s3 (wrap i32 (bits Go.BinOp.and u8 (((UInt8.toNat (getD s0 (Int.toNat s1) (0:UInt8))):Nat):Int) (getD ([0,127,31,15,7]:List Int) (Int.toNat s3) (Ty.zero (.int .u8))))) (wrap i32 (bits Go.BinOp.and u8 (((UInt8.toNat (getD s0 (Int.toNat s1) (0:UInt8))):Nat):Int) (getD ([0,127,31,15,7]:List Int) (Int.toNat s3) (Ty.zero (.int .u8))))) (1:Int)
 else
 none
 else
 none
 else
 some false:=by unfold Zm3; rewrite [Y9]; kernel_rfl
theorem Y49 (s0:List UInt8) (s1:Int) (s2:Int) (s3:Int) (s4:Int) (s5:Int) (s6:Int):Zn3 s0 s1 s2 s3 s4 s5 s6=
 bif (decide (s6 < s3)) then
 bif (decide (s6 < s2)) then
 bif (Ya (wrap i64 (s1+s6)) (length s0)) then
 bif (Ya (wrap i64 (s1+s6)) (length s0)) then
 Zn3 s0 s1 s2 s3 (wrap i32 ((wrap i32 (s4*64))+(wrap i32 (bits Go.BinOp.and u8 (((UInt8.toNat (getD s0 (Int.toNat (wrap i64 (s1+s6))) (0:UInt8))):Nat):Int) (63:Int))))) (wrap i32 ((wrap i32 (s5*64))+(wrap i32 (bits Go.BinOp.and u8 (((UInt8.toNat (getD s0 (Int.toNat (wrap i64 (s1+s6))) (0:UInt8))):Nat):Int) (63:Int))))) (wrap i64 (s6+1))
 else
 none
 else
 none
 else
 Zn3 s0 s1 s2 s3 (wrap i32 (s4*64)) (wrap i32 ((wrap i32 (s5*64))+63)) (wrap i64 (s6+1))
 else
 (Y27 (s0,(s1,(s2,(s3,s4))))).bind fun y0=>
 bif y0 then
 some true
 else
 (Y27 (s0,(s1,(s2,(s3,s5))))).bind fun y1=>
 bif y1 then
 some true
 else
 Zm3 s0 s1 s2 (wrap i64 (s3+1)):=by unfold Zn3; rewrite [Y9]; kernel_rfl
theorem Yxo (x:(Int×List UInt8)):YI1 x=
 Zo3 x.1 x.2:=by kernel_rfl
theorem Yal (s0:Int) (s1:List UInt8):Zo3 s0 s1=
 Zp3 s0 s1 (0:Int):=by unfold Zo3; rewrite [Y9]; kernel_rfl
theorem Ysd (s0:Int) (s1:List UInt8) (s2:Int):Zp3 s0 s1 s2=
 bif (decide (s2 < (((length s1):Nat):Int))) then
 bif (Ya s2 (length s1)) then
 bif ((((UInt8.toNat (getD s1 (Int.toNat s2) (0:UInt8))):Nat):Int)==s0) then
 some true
 else
 Zp3 s0 s1 (wrap i64 (s2+1))
 else
 none
 else
 some false:=by unfold Zp3; rewrite [Y9]; kernel_rfl
theorem Ywo (x:Int):YI4 x=
 Zq3 x:=by kernel_rfl
theorem Yjl (s0:Int):Zq3 s0=
 bif (decide (s0>=48)) then
 bif (decide (s0<=57)) then
 some (wrap i64 (wrap u8 (s0 - 48)))
 else
 bif (decide (s0>=97)) then
 bif (decide (s0<=102)) then
 some (wrap i64 ((wrap i64 (wrap u8 (s0 - 97)))+10))
 else
 bif (decide (s0>=65)) then
 bif (decide (s0<=70)) then
 some (wrap i64 ((wrap i64 (wrap u8 (s0 - 65)))+10))
 else
 some (-(1:Int))
 else
 some (-(1:Int))
 else
 bif (decide (s0>=65)) then
 bif (decide (s0<=70)) then
 some (wrap i64 ((wrap i64 (wrap u8 (s0 - 65)))+10))
 else
 some (-(1:Int))
 else
 some (-(1:Int))
 else
 bif (decide (s0>=97)) then
 bif (decide (s0<=102)) then
 some (wrap i64 ((wrap i64 (wrap u8 (s0 - 97)))+10))
 else
 bif (decide (s0>=65)) then
 bif (decide (s0<=70)) then
 some (wrap i64 ((wrap i64 (wrap u8 (s0 - 65)))+10))
 else
 some (-(1:Int))
 else
 some (-(1:Int))
 else
 bif (decide (s0>=65)) then
 bif (decide (s0<=70)) then
 some (wrap i64 ((wrap i64 (wrap u8 (s0 - 65)))+10))
 else
 some (-(1:Int))
 else
 some (-(1:Int)):=by unfold Zq3; rewrite [Y9]; kernel_rfl
theorem Yko (x:(List Int)):YM9 x=
 Zr3 x:=by kernel_rfl
theorem Ypl (s0:(List Int)):Zr3 s0=
 Zs3 s0 (0:Int) ([]:List Int):=by unfold Zr3; rewrite [Y9]; kernel_rfl
theorem Yxd (s0:(List Int)) (s1:Int) (r2:List Int):Zs3 s0 s1 r2=
 bif (decide (s1 < (((length s0):Nat):Int))) then
 bif (Ya s1 (length s0)) then
 bif (decide ((getD s0 (Int.toNat s1) (Ty.zero (.int .i32))) < 128)) then
 bif (Ya s1 (length s0)) then
 bif (decide (((length r2)+(length ([(wrap u8 (getD s0 (Int.toNat s1) (Ty.zero (.int .i32))))]:List Int)))<=(lim))) then
 Zs3 s0 (wrap i64 (s1+1)) (r2++([(wrap u8 (getD s0 (Int.toNat s1) (Ty.zero (.int .i32))))]:List Int))
 else
 none
 else
 none
 else
 Zs3 s0 (wrap i64 (s1+1)) r2
 else
 none
 else
 bif (decide ((((length r2):Nat):Int) > 0)) then
 bif (decide (((length r2)+(length ([45]:List Int)))<=(lim))) then
 Zt3 s0 (((length r2):Nat):Int) (((length r2):Nat):Int) (r2++([45]:List Int))
 else
 none
 else
 Zt3 s0 (((length r2):Nat):Int) (((length r2):Nat):Int) r2:=by unfold Zs3; rewrite [Y9]; kernel_rfl
theorem YAl (s0:(List Int)) (s1:Int) (s2:Int) (r3:List Int):Zt3 s0 s1 s2 r3=
 Zu3 s0 s1 s2 (128:Int) (72:Int) (0:Int) r3:=by unfold Zt3; rewrite [Y9]; kernel_rfl
theorem YDd (s0:(List Int)) (s1:Int) (s2:Int) (s3:Int) (s4:Int) (s5:Int) (r6:List Int):Zu3 s0 s1 s2 s3 s4 s5 r6=
 bif (decide (s2 < (((length s0):Nat):Int))) then
 Zv3 s0 s1 s2 s3 s4 s5 (1073741824:Int) (0:Int) r6
 else
 some (Ym r6):=by unfold Zu3; rewrite [Y9]; kernel_rfl
theorem YId (s0:(List Int)) (s1:Int) (s2:Int) (s3:Int) (s4:Int) (s5:Int) (s6:Int) (s7:Int) (r8:List Int):Zv3 s0 s1 s2 s3 s4 s5 s6 s7 r8=
 bif (decide (s7 < (((length s0):Nat):Int))) then
 bif (Ya s7 (length s0)) then
 bif (decide ((wrap i64 (getD s0 (Int.toNat s7) (Ty.zero (.int .i32))))>=s3)) then
 bif (Ya s7 (length s0)) then
 bif (decide ((wrap i64 (getD s0 (Int.toNat s7) (Ty.zero (.int .i32)))) < s6)) then
 bif (Ya s7 (length s0)) then
 Zv3 s0 s1 s2 s3 s4 s5 (wrap i64 (getD s0 (Int.toNat s7) (Ty.zero (.int .i32)))) (wrap i64 (s7+1)) r8
 else
 none
 else
 Zv3 s0 s1 s2 s3 s4 s5 s6 (wrap i64 (s7+1)) r8
 else
 none
 else
 Zv3 s0 s1 s2 s3 s4 s5 s6 (wrap i64 (s7+1)) r8
 else
 none
 else
 Zw3 s0 s1 s2 s6 s4 (wrap i64 (s5+(wrap i64 ((wrap i64 (s6 - s3))*(wrap i64 (s2+1)))))) (0:Int) r8:=by unfold Zv3; rewrite [Y9]; kernel_rfl
theorem YLd (s0:(List Int)) (s1:Int) (s2:Int) (s3:Int) (s4:Int) (s5:Int) (s6:Int) (r7:List Int):Zw3 s0 s1 s2 s3 s4 s5 s6 r7=
 bif (decide (s6 < (((length s0):Nat):Int))) then
 bif (Ya s6 (length s0)) then
 bif (decide ((wrap i64 (getD s0 (Int.toNat s6) (Ty.zero (.int .i32)))) < s3)) then
 Zx3 s0 s1 s2 s3 s4 (wrap i64 (s5+1)) s6 r7
 else
 Zx3 s0 s1 s2 s3 s4 s5 s6 r7
 else
 none
 else
 Zu3 s0 s1 s2 (wrap i64 (s3+1)) s4 (wrap i64 (s5+1)) r7:=by unfold Zw3; rewrite [Y9]; kernel_rfl
theorem YPd (s0:(List Int)) (s1:Int) (s2:Int) (s3:Int) (s4:Int) (s5:Int) (s6:Int) (r7:List Int):Zx3 s0 s1 s2 s3 s4 s5 s6 r7=
 bif (Ya s6 (length s0)) then
 bif ((wrap i64 (getD s0 (Int.toNat s6) (Ty.zero (.int .i32)))) !=s3) then
 Zw3 s0 s1 s2 s3 s4 s5 (wrap i64 (s6+1)) r7
 else
 Zy3 s0 s1 s2 s3 s4 s5 s6 s5 (36:Int) r7
 else
 none:=by unfold Zx3; rewrite [Y9]; kernel_rfl
theorem YSd (s0:(List Int)) (s1:Int) (s2:Int) (s3:Int) (s4:Int) (s5:Int) (s6:Int) (s7:Int) (s8:Int) (r9:List Int):Zy3 s0 s1 s2 s3 s4 s5 s6 s7 s8 r9=
 (Y87 (s8,s4)).bind fun y0=>
 bif (decide (s7 < y0)) then
 (Y77 s7).bind fun y1=>
 bif (decide (((length r9)+(length ([y1]:List Int)))<=(lim))) then
 (Y47 (s5,((wrap i64 (s2+1)),(s2==s1)))).bind fun y2=>
 Zw3 s0 s1 (wrap i64 (s2+1)) s3 y2 (0:Int) (wrap i64 (s6+1)) (r9++([y1]:List Int))
 else
 none
 else
 bif ((wrap i64 ((36:Int) - y0)) !=0) then
 (Y77 (wrap i64 (y0+(Int.tmod (wrap i64 (s7 - y0)) (wrap i64 ((36:Int) - y0)))))).bind fun y1=>
 bif (decide (((length r9)+(length ([y1]:List Int)))<=(lim))) then
 bif ((wrap i64 ((36:Int) - y0)) !=0) then
 Zy3 s0 s1 s2 s3 s4 s5 s6 (wrap i64 (Int.tdiv (wrap i64 (s7 - y0)) (wrap i64 ((36:Int) - y0)))) (wrap i64 (s8+36)) (r9++([y1]:List Int))
 else
 none
 else
 none
 else
 none:=by unfold Zy3; rewrite [Y9]; kernel_rfl
theorem Yno (x:Int):YO9 x=
 Zz3 x:=by kernel_rfl
theorem YYl (s0:Int):Zz3 s0=
 bif (decide (s0>=97)) then
 bif (decide (s0<=122)) then
 some (wrap i64 (wrap u8 (s0 - 97)))
 else
 bif (decide (s0>=65)) then
 bif (decide (s0<=90)) then
 some (wrap i64 (wrap u8 (s0 - 65)))
 else
 bif (decide (s0>=48)) then
 bif (decide (s0<=57)) then
 some (wrap i64 ((wrap i64 (wrap u8 (s0 - 48)))+26))
 else
 some (-(1:Int))
 else
 some (-(1:Int))
 else
 bif (decide (s0>=48)) then
 bif (decide (s0<=57)) then
 some (wrap i64 ((wrap i64 (wrap u8 (s0 - 48)))+26))
 else
 some (-(1:Int))
 else
 some (-(1:Int))
 else
 bif (decide (s0>=65)) then
 bif (decide (s0<=90)) then
 some (wrap i64 (wrap u8 (s0 - 65)))
 else
 bif (decide (s0>=48)) then
 bif (decide (s0<=57)) then
 some (wrap i64 ((wrap i64 (wrap u8 (s0 - 48)))+26))
 else
 some (-(1:Int))
 else
 some (-(1:Int))
 else
 bif (decide (s0>=48)) then
 bif (decide (s0<=57)) then
 some (wrap i64 ((wrap i64 (wrap u8 (s0 - 48)))+26))
 else
 some (-(1:Int))
 else
 some (-(1:Int)):=by unfold Zz3; rewrite [Y9]; kernel_rfl
theorem Ymo (x:(Int×Int)):Y87 x=
 Z04 x.1 x.2:=by kernel_rfl
theorem Yej (s0:Int) (s1:Int):Z04 s0 s1=
 bif (decide (s0<=s1)) then
 some (1:Int)
 else
 bif (decide (s0>=(wrap i64 (s1+26)))) then
 some (26:Int)
 else
 some (wrap i64 (s0 - s1)):=by unfold Z04; rewrite [Y9]; kernel_rfl
theorem Ygo (x:(Int×(Int×Bool))):Y47 x=
 Z14 x.1 x.2.1 x.2.2:=by kernel_rfl
theorem Yjj (s0:Int) (s1:Int) (s2:Bool):Z14 s0 s1 s2=
 bif s2 then
 Z24 (wrap i64 (Int.tdiv s0 (700:Int))) s1 s2
 else
 Z24 (wrap i64 (Int.tdiv s0 (2:Int))) s1 s2:=by unfold Z14; rewrite [Y9]; kernel_rfl
theorem Yqj (s0:Int) (s1:Int) (s2:Bool):Z24 s0 s1 s2=
 bif (s1 !=0) then
 Z34 (wrap i64 (s0+(wrap i64 (Int.tdiv s0 s1)))) s1 s2 (0:Int)
 else
 none:=by unfold Z24; rewrite [Y9]; kernel_rfl
theorem Yvc (s0:Int) (s1:Int) (s2:Bool) (s3:Int):Z34 s0 s1 s2 s3=
 bif (decide (s0 > 455)) then
 Z34 (wrap i64 (Int.tdiv s0 (35:Int))) s1 s2 (wrap i64 (s3+36))
 else
 bif ((wrap i64 (s0+38)) !=0) then
 some (wrap i64 (s3+(wrap i64 (Int.tdiv (wrap i64 ((36:Int)*s0)) (wrap i64 (s0+38))))))
 else
 none:=by unfold Z34; rewrite [Y9]; kernel_rfl
theorem Y7o (x:(List UInt8×(Int×(Int×(Int×Int))))):Y27 x=
 Z44 x.1 x.2.1 x.2.2.1 x.2.2.2.1 x.2.2.2.2:=by kernel_rfl
theorem YDj (s0:List UInt8) (s1:Int) (s2:Int) (s3:Int) (s4:Int):Z44 s0 s1 s2 s3 s4=
 Z54 s0 s1 s2 s3 s4 (0:Int) ([0,0,128,2048,65536]:List Int):=by unfold Z44; rewrite [Y9]; kernel_rfl
theorem YY8 (s0:List UInt8) (s1:Int) (s2:Int) (s3:Int) (s4:Int) (s5:Int) (r6:List Int):Z54 s0 s1 s2 s3 s4 s5 r6=
 bif (decide (s5 < 2)) then
 bif (s5==1) then
 bif (Ya s3 (length r6)) then
 bif (decide (s4 < (getD r6 (Int.toNat s3) (Ty.zero (.int .i32))))) then
 bif (Ya s3 (length r6)) then
 Z64 s0 s1 s2 s3 s4 s5 (getD r6 (Int.toNat s3) (Ty.zero (.int .i32))) r6
 else
 none
 else
 Z64 s0 s1 s2 s3 s4 s5 s4 r6
 else
 none
 else
 Z64 s0 s1 s2 s3 s4 s5 s4 r6
 else
 some false:=by unfold Z54; rewrite [Y9]; kernel_rfl
theorem YMj (s0:List UInt8) (s1:Int) (s2:Int) (s3:Int) (s4:Int) (s5:Int) (s6:Int) (r7:List Int):Z64 s0 s1 s2 s3 s4 s5 s6 r7=
 (YH4 s6).bind fun y0=>
 bif y0 then
 (YK2 s6).bind fun y1=>
 bif ((((length y1):Nat):Int)==s3) then
 (YK2 s6).bind fun y2=>
 bif (Yi none (some s2) (length y2)) then
 (YH5 (s0,(s1,(List.drop (Option.getD (Option.map (Int.toNat) none) 0) (List.take (Option.getD (Option.map (Int.toNat) (some s2)) (length y2)) y2))))).bind fun y3=>
 bif y3 then
 some true
 else
 Z54 s0 s1 s2 s3 s4 (wrap i64 (s5+1)) r7
 else
 none
 else
 Z54 s0 s1 s2 s3 s4 (wrap i64 (s5+1)) r7
 else
 Z54 s0 s1 s2 s3 s4 (wrap i64 (s5+1)) r7:=by unfold Z64; rewrite [Y9]; kernel_rfl
theorem Yjo (x:Int):Y77 x=
 Z74 x:=by kernel_rfl
theorem YTj (s0:Int):Z74 s0=
 bif (decide (s0 < 26)) then
 some (wrap u8 (wrap i64 ((97:Int)+s0)))
 else
 some (wrap u8 (wrap i64 ((wrap i64 ((48:Int)+s0)) - 26))):=by unfold Z74; rewrite [Y9]; kernel_rfl
end
end Go.Abs
