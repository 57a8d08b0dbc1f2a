/- Part Q1 of the proof: see the last text of the claim. No condition of its own. -/
import Derived.Test.YtddagflhafkbnaaGreatDoorK8
import Derived.Test.YtddagflhafkbnaaGreatDoorE1
set_option linter.all false
set_option autoImplicit false
namespace Go.Abs
noncomputable section
open IntKind List
def Yq9 (x:List UInt8):Option (Int×Int):=Abs.Call E 40 x
def Z3 (s0:List UInt8):Option (Int×Int):=(Abs.Run E 40 (E.at 40 []) ⟨Y7 [(0,(.val .str s0))],Ye [],Yf []⟩)
def Z4 (s0:List UInt8) (s1:Int) (s2:Int) (r3:List Int) (r4:List (List UInt8)):Option (Int×Int):=(Abs.Run E 40 (E.at 40 [1,1,1,1,0,1,0,7]) ⟨Y7 [(0,(.val .str s0)),(5,(.row 0)),(19,(.row 1)),(20,(.val (.int .i64) s1)),(21,(.val (.int .i64) s2))],Yc [],Yd [.mk (.int .i64) .live r3,.mk .str .live r4]⟩)
def Z5 (s0:List UInt8) (s1:Int) (s56lo_2:Nat) (s56hi_3:Nat) (s4:Int) (s5:Int) (r6:List Int):Option (Int×Int):=(Abs.Run E 40 (E.at 40 [1,1,1,1,1,1,1,1,0,1,0,7]) ⟨Y7 [(0,(.val .str s0)),(11,(.val (.int .i64) s1)),(56,(.part 0 s56lo_2 s56hi_3)),(57,(.val (.int .i64) s4)),(58,(.val (.int .i64) s5))],Yc [],Yd [.mk (.int .i64) .live r6]⟩)
def YM5 (x:List UInt8):Option (Int×Int):=Abs.Call E 41 x
def Z6 (s0:List UInt8):Option (Int×Int):=(Abs.Run E 41 (E.at 41 []) ⟨Y7 [(0,(.val .str s0))],Ye [],Yf []⟩)
def Z7 (s0:List UInt8) (s1:Int) (r2:List (List UInt8)) (r3:List Int):Option (Int×Int):=(Abs.Run E 41 (E.at 41 [1,1,1,1,0,1,0,7]) ⟨Y7 [(0,(.val .str s0)),(4,(.row 0)),(5,(.row 1)),(6,(.val (.int .i64) s1))],Yc [],Yd [.mk .str .live r2,.mk (.int .i64) .live r3]⟩)
def Z8 (s0:List UInt8) (s1:Int) (s2:Int) (r3:List Int):Option (Int×Int):=(Abs.Run E 41 (E.at 41 [1,1,1,1,1,1,0,1,0,7]) ⟨Y7 [(0,(.val .str s0)),(5,(.row 0)),(8,(.val (.int .i64) s1)),(9,(.val (.int .i64) s2))],Yc [],Yd [.mk (.int .i64) .live r3]⟩)
def Yr9 (x:List UInt8):Option ((List Int)×Int):=Abs.Call E 42 x
def Z9 (s0:List UInt8):Option ((List Int)×Int):=(Abs.Run E 42 (E.at 42 []) ⟨Y7 [(0,(.val .str s0))],Ye [],Yf []⟩)
def YU9 (x:List UInt8):Option ((List Int)×Int):=Abs.Call E 43 x
def Za (s0:List UInt8):Option ((List Int)×Int):=(Abs.Run E 43 (E.at 43 []) ⟨Y7 [(0,(.val .str s0))],Ye [],Yf []⟩)
def Zb (s0:List UInt8) (s1:Int) (s2:Int) (b3:(List Int)) (b4:(List Int)):Option ((List Int)×Int):=(Abs.Run E 43 (E.at 43 [1,1,1,0,1,0,7]) ⟨Y7 [(0,(.val .str s0)),(2,(.addr (.box 0) [])),(4,(.addr (.box 1) [])),(5,(.val (.int .i64) s1)),(6,(.val (.int .i64) s2))],Yc [.cells (.arr 8 (.int .u16)) .live (.val (.arr 8 (.int .u16)) b3),.cells (.arr 8 (.int .u16)) .live (.val (.arr 8 (.int .u16)) b4)],Yd []⟩)
def Zc (s0:List UInt8) (s1:Int) (b2:(List Int)) (b3:(List Int)) (r4:List Int):Option ((List Int)×Int):=(Abs.Run E 43 (E.at 43 [1,1,1,1,0,1,0,1,1,0,1,0,7]) ⟨Y7 [(0,(.val .str s0)),(2,(.addr (.box 0) [])),(4,(.addr (.box 1) [])),(7,(.row 0)),(9,(.val (.int .i64) s1))],Yc [.cells (.arr 8 (.int .u16)) .live (.val (.arr 8 (.int .u16)) b2),.cells (.arr 8 (.int .u16)) .live (.val (.arr 8 (.int .u16)) b3)],Yd [.mk (.int .u16) .live r4]⟩)
def Zd (s0:List UInt8) (s1:Int) (b2:(List Int)) (b3:(List Int)) (r4:List Int) (r5:List Int):Option ((List Int)×Int):=(Abs.Run E 43 (E.at 43 [1,1,1,1,1,1,1,1,0,1,0,7]) ⟨Y7 [(0,(.val .str s0)),(2,(.addr (.box 0) [])),(4,(.addr (.box 1) [])),(10,(.row 0)),(12,(.row 1)),(14,(.val (.int .i64) s1))],Yc [.cells (.arr 8 (.int .u16)) .live (.val (.arr 8 (.int .u16)) b2),.cells (.arr 8 (.int .u16)) .live (.val (.arr 8 (.int .u16)) b3)],Yd [.mk (.int .u16) .live r4,.mk (.int .u16) .live r5]⟩)
def Ze (s0:List UInt8) (s1:Int) (b2:(List Int)) (b3:(List Int)) (r4:List Int):Option ((List Int)×Int):=(Abs.Run E 43 (E.at 43 [1,1,1,1,1,1,1,1,1,0,1,0,7]) ⟨Y7 [(0,(.val .str s0)),(2,(.addr (.box 0) [])),(4,(.addr (.box 1) [])),(12,(.row 0)),(15,(.val (.int .i64) s1))],Yc [.cells (.arr 8 (.int .u16)) .live (.val (.arr 8 (.int .u16)) b2),.cells (.arr 8 (.int .u16)) .live (.val (.arr 8 (.int .u16)) b3)],Yd [.mk (.int .u16) .live r4]⟩)
def Yp9 (x:List UInt8):Option Bool:=Abs.Call E 45 x
def Zf (s0:List UInt8):Option Bool:=(Abs.Run E 45 (E.at 45 []) ⟨Y7 [(0,(.val .str s0))],Ye [],Yf []⟩)
def YL5 (x:List UInt8):Option Bool:=Abs.Call E 46 x
def Zg (s0:List UInt8):Option Bool:=(Abs.Run E 46 (E.at 46 []) ⟨Y7 [(0,(.val .str s0))],Ye [],Yf []⟩)
def Zh (s0:List UInt8) (s1:List UInt8) (s2:Bool) (s3:Int):Option Bool:=(Abs.Run E 46 (E.at 46 [1,1,1,1,1,0,1,0,7]) ⟨Y7 [(0,(.val .str s0)),(4,(.val .str s1)),(5,(.val .bool s2)),(6,(.val (.int .i64) s3))],Yc [],Yd []⟩)
def Zi (s0:List UInt8) (s1:List UInt8) (s2:Bool) (s3:Bool) (s4:Int):Option Bool:=(Abs.Run E 46 (E.at 46 [1,1,1,1,1,1,1,0,1,0,7]) ⟨Y7 [(0,(.val .str s0)),(4,(.val .str s1)),(5,(.val .bool s2)),(7,(.val .bool s3)),(8,(.val (.int .i64) s4))],Yc [],Yd []⟩)
def YV6 (x:List UInt8):Option (List (List UInt8)):=Abs.Call E 112 x
def Zj (s0:List UInt8):Option (List (List UInt8)):=(Abs.Run E 112 (E.at 112 []) ⟨Y7 [(0,(.val .str s0))],Ye [],Yf []⟩)
def Y74 (x:List UInt8):Option (Int×Bool):=Abs.Call E 113 x
def Zk (s0:List UInt8):Option (Int×Bool):=(Abs.Run E 113 (E.at 113 []) ⟨Y7 [(0,(.val .str s0))],Ye [],Yf []⟩)
def Zl (s0:List UInt8) (s1:Int):Option (Int×Bool):=(Abs.Run E 113 (E.at 113 [1,1,0,0,1,9]) ⟨Y7 [(0,(.val .str s0)),(4,(.val (.int .i64) s1))],Yc [],Yd []⟩)
def Zm (s0:List UInt8) (s1:Int):Option (Int×Bool):=(Abs.Run E 113 (E.at 113 [1,1,0,0,1,1,1,9]) ⟨Y7 [(0,(.val .str s0)),(4,(.val (.int .i64) s1))],Yc [],Yd []⟩)
def Zn (s0:List UInt8) (s1:Int) (s2:Int) (s3:Int) (s4:Int):Option (Int×Bool):=(Abs.Run E 113 (E.at 113 [1,1,1,1,0,1,0,7]) ⟨Y7 [(0,(.val .str s0)),(4,(.val (.int .i64) s1)),(5,(.val (.int .i64) s2)),(40,(.val (.int .i64) s3)),(41,(.val (.int .i64) s4))],Yc [],Yd []⟩)
def Yp7 (x:List UInt8):Option (List (List UInt8)):=Abs.Call E 114 x
def Zo (s0:List UInt8):Option (List (List UInt8)):=(Abs.Run E 114 (E.at 114 []) ⟨Y7 [(0,(.val .str s0))],Ye [],Yf []⟩)
def YZ9 (x:List UInt8):Option Int:=Abs.Call E 115 x
def Zp (s0:List UInt8):Option Int:=(Abs.Run E 115 (E.at 115 []) ⟨Y7 [(0,(.val .str s0))],Ye [],Yf []⟩)
def Zq (s0:List UInt8) (s1:Int):Option Int:=(Abs.Run E 115 (E.at 115 [1,1,0,0,1,9]) ⟨Y7 [(0,(.val .str s0)),(3,(.val (.int .i64) s1))],Yc [],Yd []⟩)
def Zr (s0:List UInt8) (s1:Int):Option Int:=(Abs.Run E 115 (E.at 115 [1,1,0,0,1,1,1,1,1,9]) ⟨Y7 [(0,(.val .str s0)),(3,(.val (.int .i64) s1))],Yc [],Yd []⟩)
def Zs (s0:List UInt8) (s1:Int) (s2:Int) (s3:Int):Option Int:=(Abs.Run E 115 (E.at 115 [1,1,1,1,0,1,0,7]) ⟨Y7 [(0,(.val .str s0)),(3,(.val (.int .i64) s1)),(4,(.val (.int .i64) s2)),(5,(.val (.int .i64) s3))],Yc [],Yd []⟩)
def Y8a (x:(List UInt8×List UInt8)):Option (List UInt8×(List UInt8×Bool)):=Abs.Call E 116 x
def Zt (s0:List UInt8) (s1:List UInt8):Option (List UInt8×(List UInt8×Bool)):=(Abs.Run E 116 (E.at 116 []) ⟨Y7 [(1,(.val .str s1)),(0,(.val .str s0))],Ye [],Yf []⟩)
def Y03 (x:(List UInt8×Bool)):Option ((List Int)×Bool):=Abs.Call E 117 x
def Zu (s0:List UInt8) (s1:Bool):Option ((List Int)×Bool):=(Abs.Run E 117 (E.at 117 []) ⟨Y7 [(1,(.val .bool s1)),(0,(.val .str s0))],Ye [],Yf []⟩)
def Zv (s0:List UInt8) (s1:Bool) (s2:Int) (s3:Int) (r4:List Int) (r5:List (List UInt8)):Option ((List Int)×Bool):=(Abs.Run E 117 (E.at 117 [1,1,1,1,0,1,0,7]) ⟨Y7 [(0,(.val .str s0)),(1,(.val .bool s1)),(6,(.row 0)),(7,(.row 1)),(18,(.row 1)),(19,(.val (.int .i64) s2)),(20,(.val (.int .i64) s3))],Yc [],Yd [.mk (.int .u16) .live r4,.mk .str .live r5]⟩)
def Yp2 (x:(List UInt8×Bool)):Option ((List Int)×Bool):=Abs.Call E 118 x
def Zw (s0:List UInt8) (s1:Bool):Option ((List Int)×Bool):=(Abs.Run E 118 (E.at 118 []) ⟨Y7 [(1,(.val .bool s1)),(0,(.val .str s0))],Ye [],Yf []⟩)
def Zx (s0:List UInt8) (s1:Bool) (s2:Int) (r3:List (List UInt8)) (r4:List Int):Option ((List Int)×Bool):=(Abs.Run E 118 (E.at 118 [1,1,1,1,0,1,0,7]) ⟨Y7 [(0,(.val .str s0)),(1,(.val .bool s1)),(6,(.row 0)),(7,(.row 1)),(8,(.val (.int .i64) s2))],Yc [],Yd [.mk .str .live r3,.mk (.int .u16) .live r4]⟩)
def Zy (s0:List UInt8) (s1:Bool) (s2:Int) (s3:Int) (s4:Int) (r5:List (List UInt8)) (r6:List Int) (r7:List (List UInt8)):Option ((List Int)×Bool):=(Abs.Run E 118 (E.at 118 [1,1,1,1,0,1,0,0,1,0,0,0,1,0,1,1,1,0,1,0,7]) ⟨Y7 [(0,(.val .str s0)),(1,(.val .bool s1)),(6,(.row 0)),(7,(.row 1)),(8,(.val (.int .i64) s2)),(9,(.row 2)),(10,(.val (.int .i64) s3)),(11,(.val (.int .i64) s4))],Yc [],Yd [.mk .str .live r5,.mk (.int .u16) .live r6,.mk .str .live r7]⟩)
def Zz (s0:List UInt8) (s1:Bool) (s2:Int) (s3:Int) (s4:Int) (r5:List (List UInt8)) (r6:List Int):Option ((List Int)×Bool):=(Abs.Run E 118 (E.at 118 [1,1,1,1,0,1,0,0,1,0,0,1,1,1,0,1,0,7]) ⟨Y7 [(0,(.val .str s0)),(1,(.val .bool s1)),(6,(.row 0)),(7,(.row 1)),(8,(.val (.int .i64) s2)),(13,(.val (.int .i64) s3)),(14,(.val (.int .i64) s4))],Yc [],Yd [.mk .str .live r5,.mk (.int .u16) .live r6]⟩)
def Yu3 (x:List UInt8):Option (List UInt8):=Abs.Call E 119 x
def Z01 (s0:List UInt8):Option (List UInt8):=(Abs.Run E 119 (E.at 119 []) ⟨Y7 [(0,(.val .str s0))],Ye [],Yf []⟩)
def YO4 (x:(List UInt8×List UInt8)):Option Bool:=Abs.Call E 120 x
def Z11 (s0:List UInt8) (s1:List UInt8):Option Bool:=(Abs.Run E 120 (E.at 120 []) ⟨Y7 [(1,(.val .str s1)),(0,(.val .str s0))],Ye [],Yf []⟩)
def YI4 (x:(List UInt8×List UInt8)):Option Bool:=Abs.Call E 121 x
def Z21 (s0:List UInt8) (s1:List UInt8):Option Bool:=(Abs.Run E 121 (E.at 121 []) ⟨Y7 [(1,(.val .str s1)),(0,(.val .str s0))],Ye [],Yf []⟩)
def YF5 (x:Int):Option Int:=Abs.Call E 122 x
def Z31 (s0:Int):Option Int:=(Abs.Run E 122 (E.at 122 []) ⟨Y7 [(0,(.val (.int .u8) s0))],Ye [],Yf []⟩)
def YL4 (x:(List UInt8×Int)):Option (List (List UInt8)):=Abs.Call E 142 x
def Z41 (s0:List UInt8) (s1:Int):Option (List (List UInt8)):=(Abs.Run E 142 (E.at 142 []) ⟨Y7 [(1,(.val (.int .u8) s1)),(0,(.val .str s0))],Ye [],Yf []⟩)
def Z51 (s0:List UInt8) (s1:Int) (s2:Int) (s3:Int) (s4:Int) (r5:List (List UInt8)):Option (List (List UInt8)):=(Abs.Run E 142 (E.at 142 [1,1,1,0,1,0,7]) ⟨Y7 [(0,(.val .str s0)),(1,(.val (.int .u8) s1)),(5,(.row 0)),(6,(.val (.int .i64) s2)),(9,(.val (.int .i64) s3)),(10,(.val (.int .i64) s4))],Yc [],Yd [.mk .str .live r5]⟩)
def Ya4 (x:(List UInt8×Int)):Option (List (List UInt8)):=Abs.Call E 144 x
def Z61 (s0:List UInt8) (s1:Int):Option (List (List UInt8)):=(Abs.Run E 144 (E.at 144 []) ⟨Y7 [(1,(.val (.int .u8) s1)),(0,(.val .str s0))],Ye [],Yf []⟩)
def Z71 (s0:List UInt8) (s1:Int) (s2:Int) (s3:Int) (r4:List (List UInt8)):Option (List (List UInt8)):=(Abs.Run E 144 (E.at 144 [1,1,1,0,1,0,7]) ⟨Y7 [(0,(.val .str s0)),(1,(.val (.int .u8) s1)),(5,(.row 0)),(6,(.val (.int .i64) s2)),(7,(.val (.int .i64) s3))],Yc [],Yd [.mk .str .live r4]⟩)
def Yoe (x:(List UInt8×List UInt8)):Option (List UInt8×(List UInt8×Bool)):=Abs.Call E 169 x
def Z81 (s0:List UInt8) (s1:List UInt8):Option (List UInt8×(List UInt8×Bool)):=(Abs.Run E 169 (E.at 169 []) ⟨Y7 [(1,(.val .str s1)),(0,(.val .str s0))],Ye [],Yf []⟩)
def Y7a (x:(List UInt8×List UInt8)):Option Bool:=Abs.Call E 170 x
def Z91 (s0:List UInt8) (s1:List UInt8):Option Bool:=(Abs.Run E 170 (E.at 170 []) ⟨Y7 [(1,(.val .str s1)),(0,(.val .str s0))],Ye [],Yf []⟩)
def Yw9 (x:List UInt8):Option ((List Int)×Bool):=Abs.Call E 171 x
def Za1 (s0:List UInt8):Option ((List Int)×Bool):=(Abs.Run E 171 (E.at 171 []) ⟨Y7 [(0,(.val .str s0))],Ye [],Yf []⟩)
def Zb1 (s0:List UInt8) (s1:Int) (s2:Int) (b3:(List Int)) (r4:List (List UInt8)):Option ((List Int)×Bool):=(Abs.Run E 171 (E.at 171 [1,1,1,1,0,1,0,7]) ⟨Y7 [(0,(.val .str s0)),(5,(.addr (.box 0) [])),(14,(.row 0)),(15,(.val (.int .i64) s1)),(16,(.val (.int .i64) s2))],Yc [.cells (.arr 4 (.int .u16)) .live (.val (.arr 4 (.int .u16)) b3)],Yd [.mk .str .live r4]⟩)
def Zc1 (s0:List UInt8) (s1:Int) (s2:List UInt8) (s3:Int) (s4:Int) (s5:Int) (s6:Int) (b7:(List Int)) (r8:List (List UInt8)):Option ((List Int)×Bool):=(Abs.Run E 171 (E.at 171 [1,1,1,1,0,1,0,0,1,1,0,0,1,1,0,1,0,7]) ⟨Y7 [(0,(.val .str s0)),(5,(.addr (.box 0) [])),(6,(.val (.int .i64) s1)),(7,(.val .str s2)),(14,(.row 0)),(15,(.val (.int .i64) s3)),(16,(.val (.int .i64) s4)),(44,(.val (.int .i64) s5)),(45,(.val (.int .i64) s6))],Yc [.cells (.arr 4 (.int .u16)) .live (.val (.arr 4 (.int .u16)) b7)],Yd [.mk .str .live r8]⟩)
def YD5 (x:(List UInt8×Int)):Option Bool:=Abs.Call E 52 x
def Zd1 (s0:List UInt8) (s1:Int):Option Bool:=(Abs.Run E 52 (E.at 52 []) ⟨Y7 [(1,(.val (.int .u8) s1)),(0,(.val .str s0))],Ye [],Yf []⟩)
def Ze1 (s0:List UInt8) (s1:Int) (s2:Int):Option Bool:=(Abs.Run E 52 (E.at 52 [1,0,1,0,7]) ⟨Y7 [(0,(.val .str s0)),(1,(.val (.int .u8) s1)),(5,(.val (.int .i64) s2))],Yc [],Yd []⟩)
def Y1a (x:List UInt8):Option Int:=Abs.Call E 172 x
def Zf1 (s0:List UInt8):Option Int:=(Abs.Run E 172 (E.at 172 []) ⟨Y7 [(0,(.val .str s0))],Ye [],Yf []⟩)
def Zg1 (s0:List UInt8) (s1:Int) (s2:Int):Option Int:=(Abs.Run E 172 (E.at 172 [1,1,1,0,1,0,7]) ⟨Y7 [(0,(.val .str s0)),(3,(.val (.int .i64) s1)),(4,(.val (.int .i64) s2))],Yc [],Yd []⟩)
def Yue (x:(List UInt8×(Int×Int))):Option (List UInt8):=Abs.Call E 129 x
def Zh1 (s0:List UInt8) (s1:Int) (s2:Int):Option (List UInt8):=(Abs.Run E 129 (E.at 129 []) ⟨Y7 [(2,(.val (.int .u8) s2)),(1,(.val (.int .u8) s1)),(0,(.val .str s0))],Ye [],Yf []⟩)
def Zi1 (s0:List UInt8) (s1:Int) (s2:Int) (s3:Int) (s4:Int) (r5:List Int):Option (List UInt8):=(Abs.Run E 129 (E.at 129 [1,1,0,1,0,7]) ⟨Y7 [(0,(.val .str s0)),(1,(.val (.int .u8) s1)),(2,(.val (.int .u8) s2)),(7,(.row 0)),(12,(.row 0)),(13,(.val (.int .i64) s3)),(14,(.val (.int .i64) s4))],Yc [],Yd [.mk (.int .u8) .live r5]⟩)
def Ype (x:(List UInt8×List UInt8)):Option Bool:=Abs.Call E 173 x
def Zj1 (s0:List UInt8) (s1:List UInt8):Option Bool:=(Abs.Run E 173 (E.at 173 []) ⟨Y7 [(1,(.val .str s1)),(0,(.val .str s0))],Ye [],Yf []⟩)
def Yv9 (x:(List UInt8×List UInt8)):Option (List UInt8):=Abs.Call E 175 x
def Zk1 (s0:List UInt8) (s1:List UInt8):Option (List UInt8):=(Abs.Run E 175 (E.at 175 []) ⟨Y7 [(1,(.val .str s1)),(0,(.val .str s0))],Ye [],Yf []⟩)
def Zl1 (s0:List UInt8) (s1:List UInt8) (t2:List UInt8) (n3:Nat):Option (List UInt8):=(Abs.Run E 175 (E.at 175 [1,0,1,0,7]) ⟨Y7 [(0,(.val .str s0)),(1,(.val .str s1)),(11,(.addr (.box 0) []))],Yc [.iter t2 n3],Yd []⟩)
def Zm1 (s0:List UInt8) (s1:List UInt8) (s2:Int) (s3:Int) (s4:Bool) (t5:List UInt8) (n6:Nat) (t7:List UInt8) (n8:Nat):Option (List UInt8):=(Abs.Run E 175 (E.at 175 [1,0,1,0,0,1,1,0,1,1,0,1,0,7]) ⟨Y7 [(0,(.val .str s0)),(1,(.val .str s1)),(5,(.val (.int .i64) s2)),(6,(.val (.int .i32) s3)),(7,(.val .bool s4)),(11,(.addr (.box 0) [])),(17,(.addr (.box 1) []))],Yc [.iter t5 n6,.iter t7 n8],Yd []⟩)
def Yie (x:(List UInt8×List UInt8)):Option (List UInt8):=Abs.Call E 174 x
def Zn1 (s0:List UInt8) (s1:List UInt8):Option (List UInt8):=(Abs.Run E 174 (E.at 174 []) ⟨Y7 [(1,(.val .str s1)),(0,(.val .str s0))],Ye [],Yf []⟩)
def Zo1 (s0:List UInt8) (s1:List UInt8):Option (List UInt8):=(Abs.Run E 174 (E.at 174 [1,0,0,7]) ⟨Y7 [(0,(.val .str s0)),(1,(.val .str s1))],Yc [],Yd []⟩)
def Zp1 (s0:List UInt8) (s1:List UInt8) (s2:Int) (s3:Int) (s4:Bool) (t5:List UInt8) (n6:Nat):Option (List UInt8):=(Abs.Run E 174 (E.at 174 [1,0,0,0,1,0,1,1,0,1,0,7]) ⟨Y7 [(0,(.val .str s0)),(1,(.val .str s1)),(5,(.val (.int .i32) s2)),(6,(.val (.int .i64) s3)),(7,(.val .bool s4)),(19,(.addr (.box 0) []))],Yc [.iter t5 n6],Yd []⟩)
def YI9 (x:Int):Option Bool:=Abs.Call E 176 x
def Zq1 (s0:Int):Option Bool:=(Abs.Run E 176 (E.at 176 []) ⟨Y7 [(0,(.val (.int .u8) s0))],Ye [],Yf []⟩)
def Ynf (x:List UInt8):Option (Int×Int):=Abs.Call E 215 x
def Yd4 (x:(List UInt8×Int)):Option Int:=Abs.Call E 126 x
def Yre (x:(List UInt8×List UInt8)):Option Int:=Abs.Call E 213 x
def Ycf (x:(List UInt8×List UInt8)):Option Int:=Abs.Call E 214 x
theorem Ywm (x:List UInt8):Yq9 x=
 Z3 x:=by kernel_rfl
theorem Ycj (s0:List UInt8):Z3 s0=
 (YV6 s0).bind fun y0=>
 bif (decide ((((length y0):Nat):Int) > 4)) then
 some ((0:Int),(3:Int))
 else
 Z4 s0 (((length y0):Nat):Int) (0:Int) ([]:List Int) y0:=by unfold Z3; rewrite [Y8]; kernel_rfl
theorem Yxc (s0:List UInt8) (s1:Int) (s2:Int) (r3:List Int) (r4:List (List UInt8)):Z4 s0 s1 s2 r3 r4=
 bif (decide (s2 < s1)) then
 bif (Ya s2 (length r4)) then
 (Y74 (getD r4 (Int.toNat s2) (Ty.zero .str))).bind fun y0=>
 bif (!y0.2) then
 some ((0:Int),(54:Int))
 else
 bif (decide (((length r3)+(length ([y0.1]:List Int)))<=(lim))) then
 Z4 s0 s1 (wrap i64 (s2+1)) (r3++([y0.1]:List Int)) r4
 else
 none
 else
 none
 else
 bif (Ya (wrap i64 ((((length r3):Nat):Int) - 1)) (length r3)) then
 bif (decide ((0:Int)<=(wrap i64 ((8:Int)*(wrap i64 ((5:Int) - (((length r3):Nat):Int))))))) then
 bif (decide ((getD r3 (Int.toNat (wrap i64 ((((length r3):Nat):Int) - 1))) (Ty.zero (.int .i64)))>=(shl i64 (1:Int) (wrap i64 ((8:Int)*(wrap i64 ((5:Int) - (((length r3):Nat):Int)))))))) then
 some ((0:Int),(4:Int))
 else
 bif (Ya (wrap i64 ((((length r3):Nat):Int) - 1)) (length r3)) then
 bif (Yi none (some (wrap i64 ((((length r3):Nat):Int) - 1))) (length r3)) then
 Z5 s0 (getD r3 (Int.toNat (wrap i64 ((((length r3):Nat):Int) - 1))) (Ty.zero (.int .i64))) (Option.getD (Option.map (Int.toNat) none) 0) (Option.getD (Option.map (Int.toNat) (some (wrap i64 ((((length r3):Nat):Int) - 1)))) (length r3)) ((((Option.getD (Option.map (Int.toNat) (some (wrap i64 ((((length r3):Nat):Int) - 1)))) (length r3)) - (Option.getD (Option.map (Int.toNat) none) 0)):Nat):Int) (0:Int) r3
 else
 none
 else
 none
 else
 none
 else
 none:=by unfold Z4; rewrite [Y8]; kernel_rfl
theorem YCc (s0:List UInt8) (s1:Int) (s56lo_2:Nat) (s56hi_3:Nat) (s4:Int) (s5:Int) (r6:List Int):Z5 s0 s1 s56lo_2 s56hi_3 s4 s5 r6=
 bif (decide (s5 < s4)) then
 bif (Ya s5 (s56hi_3 - s56lo_2)) then
 bif (decide ((getD r6 (s56lo_2+(Int.toNat s5)) (Ty.zero (.int .i64))) > 255)) then
 some ((0:Int),(4:Int))
 else
 bif (decide ((0:Int)<=(wrap i64 ((8:Int)*(wrap i64 ((3:Int) - s5)))))) then
 Z5 s0 (wrap i64 (s1+(shl i64 (getD r6 (s56lo_2+(Int.toNat s5)) (Ty.zero (.int .i64))) (wrap i64 ((8:Int)*(wrap i64 ((3:Int) - s5))))))) s56lo_2 s56hi_3 s4 (wrap i64 (s5+1)) r6
 else
 none
 else
 none
 else
 some ((wrap u32 s1),(0:Int)):=by unfold Z5; rewrite [Y8]; kernel_rfl
theorem Yzo (x:List UInt8):YM5 x=
 Z6 x:=by kernel_rfl
theorem Ytj (s0:List UInt8):Z6 s0=
 (Yp7 s0).bind fun y0=>
 bif (decide ((((length y0):Nat):Int) > 4)) then
 some ((0:Int),(3:Int))
 else
 Z7 s0 (0:Int) y0 ([]:List Int):=by unfold Z6; rewrite [Y8]; kernel_rfl
theorem YGc (s0:List UInt8) (s1:Int) (r2:List (List UInt8)) (r3:List Int):Z7 s0 s1 r2 r3=
 bif (decide (s1 < (((length r2):Nat):Int))) then
 bif (Ya s1 (length r2)) then
 (YZ9 (getD r2 (Int.toNat s1) (Ty.zero .str))).bind fun y0=>
 bif (decide (y0 < 0)) then
 some ((0:Int),(54:Int))
 else
 bif (decide (((length r3)+(length ([y0]:List Int)))<=(lim))) then
 Z7 s0 (wrap i64 (s1+1)) r2 (r3++([y0]:List Int))
 else
 none
 else
 none
 else
 Z8 s0 (0:Int) (0:Int) r3:=by unfold Z7; rewrite [Y8]; kernel_rfl
theorem YHc (s0:List UInt8) (s1:Int) (s2:Int) (r3:List Int):Z8 s0 s1 s2 r3=
 bif (decide (s2 < (wrap i64 ((((length r3):Nat):Int) - 1)))) then
 bif (Ya s2 (length r3)) then
 bif (decide ((getD r3 (Int.toNat s2) (Ty.zero (.int .i64))) > 255)) then
 some ((0:Int),(4:Int))
 else
 bif (Ya s2 (length r3)) then
 bif (decide ((0:Int)<=(wrap u64 (wrap i64 ((8:Int)*(wrap i64 ((3:Int) - s2))))))) then
 Z8 s0 (wrap i64 (s1+(shl i64 (getD r3 (Int.toNat s2) (Ty.zero (.int .i64))) (wrap u64 (wrap i64 ((8:Int)*(wrap i64 ((3:Int) - s2)))))))) (wrap i64 (s2+1)) r3
 else
 none
 else
 none
 else
 none
 else
 bif (Ya (wrap i64 ((((length r3):Nat):Int) - 1)) (length r3)) then
 bif (decide ((0:Int)<=(wrap u64 (wrap i64 ((8:Int)*(wrap i64 ((5:Int) - (((length r3):Nat):Int)))))))) then
 bif (decide ((getD r3 (Int.toNat (wrap i64 ((((length r3):Nat):Int) - 1))) (Ty.zero (.int .i64)))>=(shl i64 (1:Int) (wrap u64 (wrap i64 ((8:Int)*(wrap i64 ((5:Int) - (((length r3):Nat):Int))))))))) then
 some ((0:Int),(4:Int))
 else
 some ((wrap u32 (wrap i64 (s1+(getD r3 (Int.toNat (wrap i64 ((((length r3):Nat):Int) - 1))) (Ty.zero (.int .i64)))))),(0:Int))
 else
 none
 else
 none:=by unfold Z8; rewrite [Y8]; kernel_rfl
theorem Yym (x:List UInt8):Yr9 x=
 Z9 x:=by kernel_rfl
theorem YMj (s0:List UInt8):Z9 s0=
 (Y8a (s0,([58,58]:List UInt8))).bind fun y0=>
 (Y03 (y0.1,(!y0.2.2))).bind fun y1=>
 (Y03 (y0.2.1,true)).bind fun y2=>
 bif (!y1.2) then
 some ((Ty.zero (.arr 8 (.int .u16))),(55:Int))
 else
 bif (!y2.2) then
 some ((Ty.zero (.arr 8 (.int .u16))),(55:Int))
 else
 bif y0.2.2 then
 bif (decide ((wrap i64 ((((length y1.1):Nat):Int)+(((length y2.1):Nat):Int))) > 7)) then
 some ((Ty.zero (.arr 8 (.int .u16))),(55:Int))
 else
 bif (!y0.2.2) then
 bif ((wrap i64 ((((length y1.1):Nat):Int)+(((length y2.1):Nat):Int))) !=8) then
 some ((Ty.zero (.arr 8 (.int .u16))),(55:Int))
 else
 bif (Yi (some (wrap i64 ((8:Int) - (((length y2.1):Nat):Int)))) none 8) then
 some ((((List.take (Option.getD (Option.map (Int.toNat) (some (wrap i64 ((8:Int) - (((length y2.1):Nat):Int))))) 0) (((List.take (Option.getD (Option.map (Int.toNat) none) 0) (Ty.zero (.arr 8 (.int .u16))))++(List.take ((Option.getD (Option.map (Int.toNat) none) 8) - (Option.getD (Option.map (Int.toNat) none) 0)) y1.1))++(List.drop ((Option.getD (Option.map (Int.toNat) none) 0)+(Min.min (length y1.1) ((Option.getD (Option.map (Int.toNat) none) 8) - (Option.getD (Option.map (Int.toNat) none) 0)))) (Ty.zero (.arr 8 (.int .u16))))))++(List.take ((Option.getD (Option.map (Int.toNat) none) 8) - (Option.getD (Option.map (Int.toNat) (some (wrap i64 ((8:Int) - (((length y2.1):Nat):Int))))) 0)) y2.1))++(List.drop ((Option.getD (Option.map (Int.toNat) (some (wrap i64 ((8:Int) - (((length y2.1):Nat):Int))))) 0)+(Min.min (length y2.1) ((Option.getD (Option.map (Int.toNat) none) 8) - (Option.getD (Option.map (Int.toNat) (some (wrap i64 ((8:Int) - (((length y2.1):Nat):Int))))) 0)))) (((List.take (Option.getD (Option.map (Int.toNat) none) 0) (Ty.zero (.arr 8 (.int .u16))))++(List.take ((Option.getD (Option.map (Int.toNat) none) 8) - (Option.getD (Option.map (Int.toNat) none) 0)) y1.1))++(List.drop ((Option.getD (Option.map (Int.toNat) none) 0)+(Min.min (length y1.1) ((Option.getD (Option.map (Int.toNat) none) 8) - (Option.getD (Option.map (Int.toNat) none) 0)))) (Ty.zero (.arr 8 (.int .u16))))))),(0:Int))
 else
 none
 else
 bif (Yi (some (wrap i64 ((8:Int) - (((length y2.1):Nat):Int)))) none 8) then
 some ((((List.take (Option.getD (Option.map (Int.toNat) (some (wrap i64 ((8:Int) - (((length y2.1):Nat):Int))))) 0) (((List.take (Option.getD (Option.map (Int.toNat) none) 0) (Ty.zero (.arr 8 (.int .u16))))++(List.take ((Option.getD (Option.map (Int.toNat) none) 8) - (Option.getD (Option.map (Int.toNat) none) 0)) y1.1))++(List.drop ((Option.getD (Option.map (Int.toNat) none) 0)+(Min.min (length y1.1) ((Option.getD (Option.map (Int.toNat) none) 8) - (Option.getD (Option.map (Int.toNat) none) 0)))) (Ty.zero (.arr 8 (.int .u16))))))++(List.take ((Option.getD (Option.map (Int.toNat) none) 8) - (Option.getD (Option.map (Int.toNat) (some (wrap i64 ((8:Int) - (((length y2.1):Nat):Int))))) 0)) y2.1))++(List.drop ((Option.getD (Option.map (Int.toNat) (some (wrap i64 ((8:Int) - (((length y2.1):Nat):Int))))) 0)+(Min.min (length y2.1) ((Option.getD (Option.map (Int.toNat) none) 8) - (Option.getD (Option.map (Int.toNat) (some (wrap i64 ((8:Int) - (((length y2.1):Nat):Int))))) 0)))) (((List.take (Option.getD (Option.map (Int.toNat) none) 0) (Ty.zero (.arr 8 (.int .u16))))++(List.take ((Option.getD (Option.map (Int.toNat) none) 8) - (Option.getD (Option.map (Int.toNat) none) 0)) y1.1))++(List.drop ((Option.getD (Option.map (Int.toNat) none) 0)+(Min.min (length y1.1) ((Option.getD (Option.map (Int.toNat) none) 8) - (Option.getD (Option.map (Int.toNat) none) 0)))) (Ty.zero (.arr 8 (.int .u16))))))),(0:Int))
 else
 none
 else
 bif (!y0.2.2) then
 bif ((wrap i64 ((((length y1.1):Nat):Int)+(((length y2.1):Nat):Int))) !=8) then
 some ((Ty.zero (.arr 8 (.int .u16))),(55:Int))
 else
 bif (Yi (some (wrap i64 ((8:Int) - (((length y2.1):Nat):Int)))) none 8) then
 some ((((List.take (Option.getD (Option.map (Int.toNat) (some (wrap i64 ((8:Int) - (((length y2.1):Nat):Int))))) 0) (((List.take (Option.getD (Option.map (Int.toNat) none) 0) (Ty.zero (.arr 8 (.int .u16))))++(List.take ((Option.getD (Option.map (Int.toNat) none) 8) - (Option.getD (Option.map (Int.toNat) none) 0)) y1.1))++(List.drop ((Option.getD (Option.map (Int.toNat) none) 0)+(Min.min (length y1.1) ((Option.getD (Option.map (Int.toNat) none) 8) - (Option.getD (Option.map (Int.toNat) none) 0)))) (Ty.zero (.arr 8 (.int .u16))))))++(List.take ((Option.getD (Option.map (Int.toNat) none) 8) - (Option.getD (Option.map (Int.toNat) (some (wrap i64 ((8:Int) - (((length y2.1):Nat):Int))))) 0)) y2.1))++(List.drop ((Option.getD (Option.map (Int.toNat) (some (wrap i64 ((8:Int) - (((length y2.1):Nat):Int))))) 0)+(Min.min (length y2.1) ((Option.getD (Option.map (Int.toNat) none) 8) - (Option.getD (Option.map (Int.toNat) (some (wrap i64 ((8:Int) - (((length y2.1):Nat):Int))))) 0)))) (((List.take (Option.getD (Option.map (Int.toNat) none) 0) (Ty.zero (.arr 8 (.int .u16))))++(List.take ((Option.getD (Option.map (Int.toNat) none) 8) - (Option.getD (Option.map (Int.toNat) none) 0)) y1.1))++(List.drop ((Option.getD (Option.map (Int.toNat) none) 0)+(Min.min (length y1.1) ((Option.getD (Option.map (Int.toNat) none) 8) - (Option.getD (Option.map (Int.toNat) none) 0)))) (Ty.zero (.arr 8 (.int .u16))))))),(0:Int))
 else
 none
 else
 bif (Yi (some (wrap i64 ((8:Int) - (((length y2.1):Nat):Int)))) none 8) then
 some ((((List.take (Option.getD (Option.map (Int.toNat) (some (wrap i64 ((8:Int) - (((length y2.1):Nat):Int))))) 0) (((List.take (Option.getD (Option.map (Int.toNat) none) 0) (Ty.zero (.arr 8 (.int .u16))))++(List.take ((Option.getD (Option.map (Int.toNat) none) 8) - (Option.getD (Option.map (Int.toNat) none) 0)) y1.1))++(List.drop ((Option.getD (Option.map (Int.toNat) none) 0)+(Min.min (length y1.1) ((Option.getD (Option.map (Int.toNat) none) 8) - (Option.getD (Option.map (Int.toNat) none) 0)))) (Ty.zero (.arr 8 (.int .u16))))))++(List.take ((Option.getD (Option.map (Int.toNat) none) 8) - (Option.getD (Option.map (Int.toNat) (some (wrap i64 ((8:Int) - (((length y2.1):Nat):Int))))) 0)) y2.1))++(List.drop ((Option.getD (Option.map (Int.toNat) (some (wrap i64 ((8:Int) - (((length y2.1):Nat):Int))))) 0)+(Min.min (length y2.1) ((Option.getD (Option.map (Int.toNat) none) 8) - (Option.getD (Option.map (Int.toNat) (some (wrap i64 ((8:Int) - (((length y2.1):Nat):Int))))) 0)))) (((List.take (Option.getD (Option.map (Int.toNat) none) 0) (Ty.zero (.arr 8 (.int .u16))))++(List.take ((Option.getD (Option.map (Int.toNat) none) 8) - (Option.getD (Option.map (Int.toNat) none) 0)) y1.1))++(List.drop ((Option.getD (Option.map (Int.toNat) none) 0)+(Min.min (length y1.1) ((Option.getD (Option.map (Int.toNat) none) 8) - (Option.getD (Option.map (Int.toNat) none) 0)))) (Ty.zero (.arr 8 (.int .u16))))))),(0:Int))
 else
 none:=by unfold Z9; rewrite [Y8]; kernel_rfl
theorem YBo (x:List UInt8):YU9 x=
 Za x:=by kernel_rfl
theorem YTj (s0:List UInt8):Za s0=
 Zb s0 (-(1:Int)) (0:Int) (Ty.zero (.arr 8 (.int .u16))) (Ty.zero (.arr 8 (.int .u16))):=by unfold Za; rewrite [Y8]; kernel_rfl
theorem Y09 (s0:List UInt8) (s1:Int) (s2:Int) (b3:(List Int)) (b4:(List Int)):Zb s0 s1 s2 b3 b4=
 bif (decide ((wrap i64 (s2+1)) < (((length s0):Nat):Int))) then
 bif (Ya s2 (length s0)) then
 bif ((((UInt8.toNat (getD s0 (Int.toNat s2) (0:UInt8))):Nat):Int)==58) then
 bif (Ya (wrap i64 (s2+1)) (length s0)) then
 bif ((((UInt8.toNat (getD s0 (Int.toNat (wrap i64 (s2+1))) (0:UInt8))):Nat):Int)==58) then
 bif (decide (s2 < 0)) then
 (Yp2 (s0,true)).bind fun y0=>
 bif (!y0.2) then
 some (b4,(55:Int))
 else
 bif ((((length y0.1):Nat):Int) !=8) then
 some (b4,(55:Int))
 else
 Zc s0 (0:Int) b3 b4 y0.1
 else
 bif (Yi none (some s2) (length s0)) then
 (Yp2 ((Ym none (some s2) s0),false)).bind fun y0=>
 bif (Yi (some (wrap i64 (s2+2))) none (length s0)) then
 (Yp2 ((Ym (some (wrap i64 (s2+2))) none s0),true)).bind fun y1=>
 bif (!y0.2) then
 some (b4,(55:Int))
 else
 bif (!y1.2) then
 some (b4,(55:Int))
 else
 bif (decide ((wrap i64 ((((length y0.1):Nat):Int)+(((length y1.1):Nat):Int))) > 7)) then
 some (b4,(55:Int))
 else
 Zd s0 (0:Int) b3 b4 y0.1 y1.1
 else
 none
 else
 none
 else
 Zb s0 s1 (wrap i64 (s2+1)) b3 b4
 else
 none
 else
 Zb s0 s1 (wrap i64 (s2+1)) b3 b4
 else
 none
 else
 bif (decide (s1 < 0)) then
 (Yp2 (s0,true)).bind fun y0=>
 bif (!y0.2) then
 some (b4,(55:Int))
 else
 bif ((((length y0.1):Nat):Int) !=8) then
 some (b4,(55:Int))
 else
 Zc s0 (0:Int) b3 b4 y0.1
 else
 bif (Yi none (some s1) (length s0)) then
 (Yp2 ((Ym none (some s1) s0),false)).bind fun y0=>
 bif (Yi (some (wrap i64 (s1+2))) none (length s0)) then
 (Yp2 ((Ym (some (wrap i64 (s1+2))) none s0),true)).bind fun y1=>
 bif (!y0.2) then
 some (b4,(55:Int))
 else
 bif (!y1.2) then
 some (b4,(55:Int))
 else
 bif (decide ((wrap i64 ((((length y0.1):Nat):Int)+(((length y1.1):Nat):Int))) > 7)) then
 some (b4,(55:Int))
 else
 Zd s0 (0:Int) b3 b4 y0.1 y1.1
 else
 none
 else
 none:=by unfold Zb; rewrite [Y8]; kernel_rfl
theorem YSc (s0:List UInt8) (s1:Int) (b2:(List Int)) (b3:(List Int)) (r4:List Int):Zc s0 s1 b2 b3 r4=
 bif (decide (s1 < 8)) then
 bif (Ya s1 (length r4)) then
 bif (Ya s1 8) then
 Zc s0 (wrap i64 (s1+1)) b2 (List.set b3 (Int.toNat s1) (getD r4 (Int.toNat s1) (Ty.zero (.int .u16)))) r4
 else
 none
 else
 none
 else
 some (b3,(0:Int)):=by unfold Zc; rewrite [Y8]; kernel_rfl
theorem YZc (s0:List UInt8) (s1:Int) (b2:(List Int)) (b3:(List Int)) (r4:List Int) (r5:List Int):Zd s0 s1 b2 b3 r4 r5=
 bif (decide (s1 < (((length r4):Nat):Int))) then
 bif (Ya s1 (length r4)) then
 bif (Ya s1 8) then
 Zd s0 (wrap i64 (s1+1)) b2 (List.set b3 (Int.toNat s1) (getD r4 (Int.toNat s1) (Ty.zero (.int .u16)))) r4 r5
 else
 none
 else
 none
 else
 Ze s0 (0:Int) b2 b3 r5:=by unfold Zd; rewrite [Y8]; kernel_rfl
theorem Y2d (s0:List UInt8) (s1:Int) (b2:(List Int)) (b3:(List Int)) (r4:List Int):Ze s0 s1 b2 b3 r4=
 bif (decide (s1 < (((length r4):Nat):Int))) then
 bif (Ya s1 (length r4)) then
 bif (Ya (wrap i64 ((wrap i64 ((8:Int) - (((length r4):Nat):Int)))+s1)) 8) then
 Ze s0 (wrap i64 (s1+1)) b2 (List.set b3 (Int.toNat (wrap i64 ((wrap i64 ((8:Int) - (((length r4):Nat):Int)))+s1))) (getD r4 (Int.toNat s1) (Ty.zero (.int .u16)))) r4
 else
 none
 else
 none
 else
 some (b3,(0:Int)):=by unfold Ze; rewrite [Y8]; kernel_rfl
theorem Yum (x:List UInt8):Yp9 x=
 Zf x:=by kernel_rfl
theorem Yak (s0:List UInt8):Zf s0=
 bif (s0==([]:List UInt8)) then
 some false
 else
 (YV6 s0).bind fun y0=>
 bif (Ya (wrap i64 ((((length y0):Nat):Int) - 1)) (length y0)) then
 (Yu3 (getD y0 (Int.toNat (wrap i64 ((((length y0):Nat):Int) - 1))) (Ty.zero .str))).bind fun y1=>
 (YO4 (y1,([48,120]:List UInt8))).bind fun y2=>
 bif y2 then
 bif (Yi (some (2:Int)) none (length y1)) then
 (YI4 ((Ym (some (2:Int)) none y1),([48,49,50,51,52,53,54,55,56,57,97,98,99,100,101,102]:List UInt8))).bind fun y3=>
 some y3
 else
 none
 else
 bif (!(y1==([]:List UInt8))) then
 (YI4 (y1,([48,49,50,51,52,53,54,55,56,57]:List UInt8))).bind fun y3=>
 some y3
 else
 some false
 else
 none:=by unfold Zf; rewrite [Y8]; kernel_rfl
theorem Yxo (x:List UInt8):YL5 x=
 Zg x:=by kernel_rfl
theorem Ydk (s0:List UInt8):Zg s0=
 bif (s0==([]:List UInt8)) then
 some false
 else
 (Yp7 s0).bind fun y0=>
 bif (Ya (wrap i64 ((((length y0):Nat):Int) - 1)) (length y0)) then
 Zh s0 (getD y0 (Int.toNat (wrap i64 ((((length y0):Nat):Int) - 1))) (Ty.zero .str)) (!((getD y0 (Int.toNat (wrap i64 ((((length y0):Nat):Int) - 1))) (Ty.zero .str))==([]:List UInt8))) (0:Int)
 else
 none:=by unfold Zg; rewrite [Y8]; kernel_rfl
theorem Ycd (s0:List UInt8) (s1:List UInt8) (s2:Bool) (s3:Int):Zh s0 s1 s2 s3=
 bif (decide (s3 < (((length s1):Nat):Int))) then
 bif s2 then
 bif (Ya s3 (length s1)) then
 bif (decide ((((UInt8.toNat (getD s1 (Int.toNat s3) (0:UInt8))):Nat):Int)>=48)) then
 bif (Ya s3 (length s1)) then
 Zh s0 s1 (decide ((((UInt8.toNat (getD s1 (Int.toNat s3) (0:UInt8))):Nat):Int)<=57)) (wrap i64 (s3+1))
 else
 none
 else
 Zh s0 s1 false (wrap i64 (s3+1))
 else
 none
 else
 Zh s0 s1 false (wrap i64 (s3+1))
 else
 bif (decide ((((length s1):Nat):Int)>=2)) then
 bif (Ya (0:Int) (length s1)) then
 bif ((((UInt8.toNat (getD s1 (Int.toNat (0:Int)) (0:UInt8))):Nat):Int)==48) then
 bif (Ya (1:Int) (length s1)) then
 bif ((((UInt8.toNat (getD s1 (Int.toNat (1:Int)) (0:UInt8))):Nat):Int)==120) then
 Zi s0 s1 s2 true (2:Int)
 else
 bif (Ya (1:Int) (length s1)) then
 Zi s0 s1 s2 ((((UInt8.toNat (getD s1 (Int.toNat (1:Int)) (0:UInt8))):Nat):Int)==88) (2:Int)
 else
 none
 else
 none
 else
 Zi s0 s1 s2 false (2:Int)
 else
 none
 else
 Zi s0 s1 s2 false (2:Int):=by unfold Zh; rewrite [Y8]; kernel_rfl
theorem YI6 (s0:List UInt8) (s1:List UInt8) (s2:Bool) (s3:Bool) (s4:Int):Zi s0 s1 s2 s3 s4=
 bif (decide (s4 < (((length s1):Nat):Int))) then
 bif s3 then
 bif (Ya s4 (length s1)) then
 (YF5 (((UInt8.toNat (getD s1 (Int.toNat s4) (0:UInt8))):Nat):Int)).bind fun y0=>
 Zi s0 s1 s2 (decide (y0>=0)) (wrap i64 (s4+1))
 else
 none
 else
 Zi s0 s1 s2 false (wrap i64 (s4+1))
 else
 bif s2 then
 some true
 else
 some s3:=by unfold Zi; rewrite [Y8]; kernel_rfl
theorem YSm (x:List UInt8):YV6 x=
 Zj x:=by kernel_rfl
theorem Ytk (s0:List UInt8):Zj s0=
 (YL4 (s0,(46:Int))).bind fun y0=>
 bif (decide ((((length y0):Nat):Int) > 1)) then
 bif (Ya (wrap i64 ((((length y0):Nat):Int) - 1)) (length y0)) then
 bif ((getD y0 (Int.toNat (wrap i64 ((((length y0):Nat):Int) - 1))) (Ty.zero .str))==([]:List UInt8)) then
 bif (Yi none (some (wrap i64 ((((length y0):Nat):Int) - 1))) (length y0)) then
 some (List.take (Option.getD (Option.map (Int.toNat) (some (wrap i64 ((((length y0):Nat):Int) - 1)))) (length y0)) y0)
 else
 none
 else
 some y0
 else
 none
 else
 some y0:=by unfold Zj; rewrite [Y8]; kernel_rfl
theorem YRm (x:List UInt8):Y74 x=
 Zk x:=by kernel_rfl
theorem YBk (s0:List UInt8):Zk s0=
 bif (decide ((((length s0):Nat):Int)>=2)) then
 bif (Ya (0:Int) (length s0)) then
 bif ((((UInt8.toNat (getD s0 (Int.toNat (0:Int)) (0:UInt8))):Nat):Int)==48) then
 bif (Ya (1:Int) (length s0)) then
 bif ((bits Go.BinOp.or u8 (((UInt8.toNat (getD s0 (Int.toNat (1:Int)) (0:UInt8))):Nat):Int) (32:Int))==120) then
 bif (Yi (some (2:Int)) none (length s0)) then
 Zl (Ym (some (2:Int)) none s0) (16:Int)
 else
 none
 else
 bif (decide ((((length s0):Nat):Int)>=2)) then
 bif (Ya (0:Int) (length s0)) then
 bif ((((UInt8.toNat (getD s0 (Int.toNat (0:Int)) (0:UInt8))):Nat):Int)==48) then
 bif (Yi (some (1:Int)) none (length s0)) then
 Zm (Ym (some (1:Int)) none s0) (8:Int)
 else
 none
 else
 bif (s0==([]:List UInt8)) then
 some ((0:Int),false)
 else
 Zm s0 (10:Int)
 else
 none
 else
 bif (s0==([]:List UInt8)) then
 some ((0:Int),false)
 else
 Zm s0 (10:Int)
 else
 none
 else
 bif (decide ((((length s0):Nat):Int)>=2)) then
 bif (Ya (0:Int) (length s0)) then
 bif ((((UInt8.toNat (getD s0 (Int.toNat (0:Int)) (0:UInt8))):Nat):Int)==48) then
 bif (Yi (some (1:Int)) none (length s0)) then
 Zm (Ym (some (1:Int)) none s0) (8:Int)
 else
 none
 else
 bif (s0==([]:List UInt8)) then
 some ((0:Int),false)
 else
 Zm s0 (10:Int)
 else
 none
 else
 bif (s0==([]:List UInt8)) then
 some ((0:Int),false)
 else
 Zm s0 (10:Int)
 else
 none
 else
 bif (decide ((((length s0):Nat):Int)>=2)) then
 bif (Ya (0:Int) (length s0)) then
 bif ((((UInt8.toNat (getD s0 (Int.toNat (0:Int)) (0:UInt8))):Nat):Int)==48) then
 bif (Yi (some (1:Int)) none (length s0)) then
 Zm (Ym (some (1:Int)) none s0) (8:Int)
 else
 none
 else
 bif (s0==([]:List UInt8)) then
 some ((0:Int),false)
 else
 Zm s0 (10:Int)
 else
 none
 else
 bif (s0==([]:List UInt8)) then
 some ((0:Int),false)
 else
 Zm s0 (10:Int):=by unfold Zk; rewrite [Y8]; kernel_rfl
theorem YFk (s0:List UInt8) (s1:Int):Zl s0 s1=
 Zn s0 s1 (0:Int) (((length s0):Nat):Int) (0:Int):=by unfold Zl; rewrite [Y8]; kernel_rfl
theorem Ymd (s0:List UInt8) (s1:Int):Zm s0 s1=
 Zl s0 s1:=by unfold Zm; rewrite [Y8]; kernel_rfl
theorem Ynd (s0:List UInt8) (s1:Int) (s2:Int) (s3:Int) (s4:Int):Zn s0 s1 s2 s3 s4=
 bif (decide (s4 < s3)) then
 bif (Yi (some s4) (some (wrap i64 (s4+1))) (length s0)) then
 (Yu3 (Ym (some s4) (some (wrap i64 (s4+1))) s0)).bind fun y0=>
 bif (Ya (0:Int) (length y0)) then
 (Yd4 (([48,49,50,51,52,53,54,55,56,57,97,98,99,100,101,102]:List UInt8),(((UInt8.toNat (getD y0 (Int.toNat (0:Int)) (0:UInt8))):Nat):Int))).bind fun y1=>
 bif (decide (y1 < 0)) then
 some ((0:Int),false)
 else
 bif (decide (y1>=s1)) then
 some ((0:Int),false)
 else
 Zn s0 s1 (if ((wrap i64 ((wrap i64 (s2*s1))+y1)) < 1099511627776) then (wrap i64 ((wrap i64 (s2*s1))+y1)) else (1099511627776:Int)) s3 (wrap i64 (s4+1))
 else
 none
 else
 none
 else
 some (s2,true):=by unfold Zn; rewrite [Y8]; kernel_rfl
theorem YPo (x:List UInt8):Yp7 x=
 Zo x:=by kernel_rfl
theorem YWk (s0:List UInt8):Zo s0=
 (Ya4 (s0,(46:Int))).bind fun y0=>
 bif (decide ((((length y0):Nat):Int) > 1)) then
 bif (Ya (wrap i64 ((((length y0):Nat):Int) - 1)) (length y0)) then
 bif ((getD y0 (Int.toNat (wrap i64 ((((length y0):Nat):Int) - 1))) (Ty.zero .str))==([]:List UInt8)) then
 bif (Yi none (some (wrap i64 ((((length y0):Nat):Int) - 1))) (length y0)) then
 some (List.take (Option.getD (Option.map (Int.toNat) (some (wrap i64 ((((length y0):Nat):Int) - 1)))) (length y0)) y0)
 else
 none
 else
 some y0
 else
 none
 else
 some y0:=by unfold Zo; rewrite [Y8]; kernel_rfl
theorem YNo (x:List UInt8):YZ9 x=
 Zp x:=by kernel_rfl
theorem Y2l (s0:List UInt8):Zp s0=
 bif ((((length s0):Nat):Int)==0) then
 some (-(1:Int))
 else
 bif (decide ((((length s0):Nat):Int)>=2)) then
 bif (Ya (0:Int) (length s0)) then
 bif ((((UInt8.toNat (getD s0 (Int.toNat (0:Int)) (0:UInt8))):Nat):Int)==48) then
 bif (Ya (1:Int) (length s0)) then
 bif ((((UInt8.toNat (getD s0 (Int.toNat (1:Int)) (0:UInt8))):Nat):Int)==120) then
 bif (Yi (some (2:Int)) none (length s0)) then
 Zq (Ym (some (2:Int)) none s0) (16:Int)
 else
 none
 else
 bif (Ya (1:Int) (length s0)) then
 bif ((((UInt8.toNat (getD s0 (Int.toNat (1:Int)) (0:UInt8))):Nat):Int)==88) then
 bif (Yi (some (2:Int)) none (length s0)) then
 Zq (Ym (some (2:Int)) none s0) (16:Int)
 else
 none
 else
 bif (decide ((((length s0):Nat):Int)>=2)) then
 bif (Ya (0:Int) (length s0)) then
 bif ((((UInt8.toNat (getD s0 (Int.toNat (0:Int)) (0:UInt8))):Nat):Int)==48) then
 bif (Yi (some (1:Int)) none (length s0)) then
 Zr (Ym (some (1:Int)) none s0) (8:Int)
 else
 none
 else
 Zr s0 (10:Int)
 else
 none
 else
 Zr s0 (10:Int)
 else
 none
 else
 none
 else
 bif (decide ((((length s0):Nat):Int)>=2)) then
 bif (Ya (0:Int) (length s0)) then
 bif ((((UInt8.toNat (getD s0 (Int.toNat (0:Int)) (0:UInt8))):Nat):Int)==48) then
 bif (Yi (some (1:Int)) none (length s0)) then
 Zr (Ym (some (1:Int)) none s0) (8:Int)
 else
 none
 else
 Zr s0 (10:Int)
 else
 none
 else
 Zr s0 (10:Int)
 else
 none
 else
 bif (decide ((((length s0):Nat):Int)>=2)) then
 bif (Ya (0:Int) (length s0)) then
 bif ((((UInt8.toNat (getD s0 (Int.toNat (0:Int)) (0:UInt8))):Nat):Int)==48) then
 bif (Yi (some (1:Int)) none (length s0)) then
 Zr (Ym (some (1:Int)) none s0) (8:Int)
 else
 none
 else
 Zr s0 (10:Int)
 else
 none
 else
 Zr s0 (10:Int):=by unfold Zp; rewrite [Y8]; kernel_rfl
theorem Yal (s0:List UInt8) (s1:Int):Zq s0 s1=
 Zs s0 s1 (0:Int) (0:Int):=by unfold Zq; rewrite [Y8]; kernel_rfl
theorem Yud (s0:List UInt8) (s1:Int):Zr s0 s1=
 Zq s0 s1:=by unfold Zr; rewrite [Y8]; kernel_rfl
theorem Yxd (s0:List UInt8) (s1:Int) (s2:Int) (s3:Int):Zs s0 s1 s2 s3=
 bif (decide (s3 < (((length s0):Nat):Int))) then
 bif (Ya s3 (length s0)) then
 (YF5 (((UInt8.toNat (getD s0 (Int.toNat s3) (0:UInt8))):Nat):Int)).bind fun y0=>
 bif (decide (y0 < 0)) then
 some (-(1:Int))
 else
 bif (decide (y0>=s1)) then
 some (-(1:Int))
 else
 bif (decide ((wrap i64 ((wrap i64 (s2*s1))+y0)) > 1099511627776)) then
 Zs s0 s1 (1099511627776:Int) (wrap i64 (s3+1))
 else
 Zs s0 s1 (wrap i64 ((wrap i64 (s2*s1))+y0)) (wrap i64 (s3+1))
 else
 none
 else
 some s2:=by unfold Zs; rewrite [Y8]; kernel_rfl
theorem Y5p (x:(List UInt8×List UInt8)):Y8a x=
 Zt x.1 x.2:=by kernel_rfl
theorem Yql (s0:List UInt8) (s1:List UInt8):Zt s0 s1=
 (Yoe (s0,s1)).bind fun y0=>
 some (y0.1,(y0.2.1,y0.2.2)):=by unfold Zt; rewrite [Y8]; kernel_rfl
theorem YTm (x:(List UInt8×Bool)):Y03 x=
 Zu x.1 x.2:=by kernel_rfl
theorem Yul (s0:List UInt8) (s1:Bool):Zu s0 s1=
 bif (s0==([]:List UInt8)) then
 some (([]:List Int),true)
 else
 (YL4 (s0,(58:Int))).bind fun y0=>
 Zv s0 s1 (((length y0):Nat):Int) (0:Int) ([]:List Int) y0:=by unfold Zu; rewrite [Y8]; kernel_rfl
theorem YGd (s0:List UInt8) (s1:Bool) (s2:Int) (s3:Int) (r4:List Int) (r5:List (List UInt8)):Zv s0 s1 s2 s3 r4 r5=
 bif (decide (s3 < s2)) then
 bif (Ya s3 (length r5)) then
 bif s1 then
 bif (s3==(wrap i64 ((((length r5):Nat):Int) - 1))) then
 (Y7a ((getD r5 (Int.toNat s3) (Ty.zero .str)),([46]:List UInt8))).bind fun y0=>
 bif y0 then
 (Yw9 (getD r5 (Int.toNat s3) (Ty.zero .str))).bind fun y1=>
 bif (decide (((length r4)+(length y1.1))<=(lim))) then
 some ((r4++y1.1),y1.2)
 else
 none
 else
 bif ((getD r5 (Int.toNat s3) (Ty.zero .str))==([]:List UInt8)) then
 some (([]:List Int),false)
 else
 bif (decide ((((length (getD r5 (Int.toNat s3) (Ty.zero .str))):Nat):Int) > 4)) then
 some (([]:List Int),false)
 else
 bif (decide (((length ([48,120]:List UInt8))+(length (getD r5 (Int.toNat s3) (Ty.zero .str))))<=(2 ^ 62))) then
 (Y74 (([48,120]:List UInt8)++(getD r5 (Int.toNat s3) (Ty.zero .str)))).bind fun y1=>
 bif (!y1.2) then
 some (([]:List Int),false)
 else
 bif (decide (((length r4)+(length ([(wrap u16 y1.1)]:List Int)))<=(lim))) then
 Zv s0 s1 s2 (wrap i64 (s3+1)) (r4++([(wrap u16 y1.1)]:List Int)) r5
 else
 none
 else
 none
 else
 bif ((getD r5 (Int.toNat s3) (Ty.zero .str))==([]:List UInt8)) then
 some (([]:List Int),false)
 else
 bif (decide ((((length (getD r5 (Int.toNat s3) (Ty.zero .str))):Nat):Int) > 4)) then
 some (([]:List Int),false)
 else
 bif (decide (((length ([48,120]:List UInt8))+(length (getD r5 (Int.toNat s3) (Ty.zero .str))))<=(2 ^ 62))) then
 (Y74 (([48,120]:List UInt8)++(getD r5 (Int.toNat s3) (Ty.zero .str)))).bind fun y0=>
 bif (!y0.2) then
 some (([]:List Int),false)
 else
 bif (decide (((length r4)+(length ([(wrap u16 y0.1)]:List Int)))<=(lim))) then
 Zv s0 s1 s2 (wrap i64 (s3+1)) (r4++([(wrap u16 y0.1)]:List Int)) r5
 else
 none
 else
 none
 else
 bif ((getD r5 (Int.toNat s3) (Ty.zero .str))==([]:List UInt8)) then
 some (([]:List Int),false)
 else
 bif (decide ((((length (getD r5 (Int.toNat s3) (Ty.zero .str))):Nat):Int) > 4)) then
 some (([]:List Int),false)
 else
 bif (decide (((length ([48,120]:List UInt8))+(length (getD r5 (Int.toNat s3) (Ty.zero .str))))<=(2 ^ 62))) then
 (Y74 (([48,120]:List UInt8)++(getD r5 (Int.toNat s3) (Ty.zero .str)))).bind fun y0=>
 bif (!y0.2) then
 some (([]:List Int),false)
 else
 bif (decide (((length r4)+(length ([(wrap u16 y0.1)]:List Int)))<=(lim))) then
 Zv s0 s1 s2 (wrap i64 (s3+1)) (r4++([(wrap u16 y0.1)]:List Int)) r5
 else
 none
 else
 none
 else
 none
 else
 some (r4,true):=by unfold Zv; rewrite [Y8]; kernel_rfl
theorem YQo (x:(List UInt8×Bool)):Yp2 x=
 Zw x.1 x.2:=by kernel_rfl
theorem YDl (s0:List UInt8) (s1:Bool):Zw s0 s1=
 bif (s0==([]:List UInt8)) then
 some (([]:List Int),true)
 else
 (Ya4 (s0,(58:Int))).bind fun y0=>
 Zx s0 s1 (0:Int) y0 ([]:List Int):=by unfold Zw; rewrite [Y8]; kernel_rfl
theorem Y59 (s0:List UInt8) (s1:Bool) (s2:Int) (r3:List (List UInt8)) (r4:List Int):Zx s0 s1 s2 r3 r4=
 bif (decide (s2 < (((length r3):Nat):Int))) then
 bif s1 then
 bif (s2==(wrap i64 ((((length r3):Nat):Int) - 1))) then
 bif (Ya s2 (length r3)) then
 (YD5 ((getD r3 (Int.toNat s2) (Ty.zero .str)),(46:Int))).bind fun y0=>
 bif y0 then
 bif (Ya s2 (length r3)) then
 (Ya4 ((getD r3 (Int.toNat s2) (Ty.zero .str)),(46:Int))).bind fun y1=>
 bif ((((length y1):Nat):Int) !=4) then
 some (([]:List Int),false)
 else
 Zy s0 s1 s2 (0:Int) (0:Int) r3 r4 y1
 else
 none
 else
 bif (Ya s2 (length r3)) then
 bif (decide ((((length (getD r3 (Int.toNat s2) (Ty.zero .str))):Nat):Int) < 1)) then
 some (([]:List Int),false)
 else
 bif (Ya s2 (length r3)) then
 bif (decide ((((length (getD r3 (Int.toNat s2) (Ty.zero .str))):Nat):Int) > 4)) then
 some (([]:List Int),false)
 else
 Zz s0 s1 s2 (0:Int) (0:Int) r3 r4
 else
 none
 else
 none
 else
 none
 else
 bif (Ya s2 (length r3)) then
 bif (decide ((((length (getD r3 (Int.toNat s2) (Ty.zero .str))):Nat):Int) < 1)) then
 some (([]:List Int),false)
 else
 bif (Ya s2 (length r3)) then
 bif (decide ((((length (getD r3 (Int.toNat s2) (Ty.zero .str))):Nat):Int) > 4)) then
 some (([]:List Int),false)
 else
 Zz s0 s1 s2 (0:Int) (0:Int) r3 r4
 else
 none
 else
 none
 else
 bif (Ya s2 (length r3)) then
 bif (decide ((((length (getD r3 (Int.toNat s2) (Ty.zero .str))):Nat):Int) < 1)) then
 some (([]:List Int),false)
 else
 bif (Ya s2 (length r3)) then
 bif (decide ((((length (getD r3 (Int.toNat s2) (Ty.zero .str))):Nat):Int) > 4)) then
 some (([]:List Int),false)
 else
 Zz s0 s1 s2 (0:Int) (0:Int) r3 r4
 else
 none
 else
 none
 else
 some (r4,true):=by unfold Zx; rewrite [Y8]; kernel_rfl
theorem YLd (s0:List UInt8) (s1:Bool) (s2:Int) (s3:Int) (s4:Int) (r5:List (List UInt8)) (r6:List Int) (r7:List (List UInt8)):Zy s0 s1 s2 s3 s4 r5 r6 r7=
 bif (decide (s4 < 4)) then
 bif (Ya s4 (length r7)) then
 (Y1a (getD r7 (Int.toNat s4) (Ty.zero .str))).bind fun y0=>
 bif (decide (y0 < 0)) then
 some (([]:List Int),false)
 else
 Zy s0 s1 s2 (wrap i64 ((shl i64 s3 (8:Int))+y0)) (wrap i64 (s4+1)) r5 r6 r7
 else
 none
 else
 bif (decide (((length r6)+(length ([(wrap u16 (shr i64 s3 (16:Int))),(wrap u16 (bits Go.BinOp.and i64 s3 (65535:Int)))]:List Int)))<=(lim))) then
 Zx s0 s1 (wrap i64 (s2+1)) r5 (r6++([(wrap u16 (shr i64 s3 (16:Int))),(wrap u16 (bits Go.BinOp.and i64 s3 (65535:Int)))]:List Int))
 else
 none:=by unfold Zy; rewrite [Y8]; kernel_rfl
theorem YPd (s0:List UInt8) (s1:Bool) (s2:Int) (s3:Int) (s4:Int) (r5:List (List UInt8)) (r6:List Int):Zz s0 s1 s2 s3 s4 r5 r6=
 bif (Ya s2 (length r5)) then
 bif (decide (s4 < (((length (getD r5 (Int.toNat s2) (Ty.zero .str))):Nat):Int))) then
 bif (Ya s2 (length r5)) then
 bif (Ya s4 (length (getD r5 (Int.toNat s2) (Ty.zero .str)))) then
 (YF5 (((UInt8.toNat (getD (getD r5 (Int.toNat s2) (Ty.zero .str)) (Int.toNat s4) (0:UInt8))):Nat):Int)).bind fun y0=>
 bif (decide (y0 < 0)) then
 some (([]:List Int),false)
 else
 Zz s0 s1 s2 (wrap i64 ((shl i64 s3 (4:Int))+y0)) (wrap i64 (s4+1)) r5 r6
 else
 none
 else
 none
 else
 bif (decide (((length r6)+(length ([(wrap u16 s3)]:List Int)))<=(lim))) then
 Zx s0 s1 (wrap i64 (s2+1)) r5 (r6++([(wrap u16 s3)]:List Int))
 else
 none
 else
 none:=by unfold Zz; rewrite [Y8]; kernel_rfl
theorem Y5n (x:List UInt8):Yu3 x=
 Z01 x:=by kernel_rfl
theorem YQi (s0:List UInt8):Z01 s0=
 (Yue (s0,((65:Int),(90:Int)))).bind fun y0=>
 some y0:=by unfold Z01; rewrite [Y8]; kernel_rfl
theorem Y7p (x:(List UInt8×List UInt8)):YO4 x=
 Z11 x.1 x.2:=by kernel_rfl
theorem YWi (s0:List UInt8) (s1:List UInt8):Z11 s0 s1=
 (Ype (s0,s1)).bind fun y0=>
 some y0:=by unfold Z11; rewrite [Y8]; kernel_rfl
theorem YGm (x:(List UInt8×List UInt8)):YI4 x=
 Z21 x.1 x.2:=by kernel_rfl
theorem Y2j (s0:List UInt8) (s1:List UInt8):Z21 s0 s1=
 (Yv9 (s0,s1)).bind fun y0=>
 (Yie (y0,s1)).bind fun y1=>
 some (y1==([]:List UInt8)):=by unfold Z21; rewrite [Y8]; kernel_rfl
theorem YIn (x:Int):YF5 x=
 Z31 x:=by kernel_rfl
theorem Y9j (s0:Int):Z31 s0=
 (YI9 s0).bind fun y0=>
 bif y0 then
 some (wrap i64 (wrap u8 (s0 - 48)))
 else
 bif (decide (s0>=97)) then
 bif (decide (s0<=102)) then
 some (wrap i64 ((wrap i64 (wrap u8 (s0 - 97)))+10))
 else
 bif (decide (s0>=65)) then
 bif (decide (s0<=70)) then
 some (wrap i64 ((wrap i64 (wrap u8 (s0 - 65)))+10))
 else
 some (-(1:Int))
 else
 some (-(1:Int))
 else
 bif (decide (s0>=65)) then
 bif (decide (s0<=70)) then
 some (wrap i64 ((wrap i64 (wrap u8 (s0 - 65)))+10))
 else
 some (-(1:Int))
 else
 some (-(1:Int)):=by unfold Z31; rewrite [Y8]; kernel_rfl
theorem Y8n (x:(List UInt8×Int)):YL4 x=
 Z41 x.1 x.2:=by kernel_rfl
theorem Ydj (s0:List UInt8) (s1:Int):Z41 s0 s1=
 Z51 s0 s1 (0:Int) (((length s0):Nat):Int) (0:Int) ([]:List (List UInt8)):=by unfold Z41; rewrite [Y8]; kernel_rfl
theorem Yyc (s0:List UInt8) (s1:Int) (s2:Int) (s3:Int) (s4:Int) (r5:List (List UInt8)):Z51 s0 s1 s2 s3 s4 r5=
 bif (decide (s4 < s3)) then
 bif (Ya s4 (length s0)) then
 bif ((((UInt8.toNat (getD s0 (Int.toNat s4) (0:UInt8))):Nat):Int)==s1) then
 bif (Yi (some s2) (some s4) (length s0)) then
 bif (decide (((length r5)+(length ([(Ym (some s2) (some s4) s0)]:List (List UInt8))))<=(lim))) then
 Z51 s0 s1 (wrap i64 (s4+1)) s3 (wrap i64 (s4+1)) (r5++([(Ym (some s2) (some s4) s0)]:List (List UInt8)))
 else
 none
 else
 none
 else
 Z51 s0 s1 s2 s3 (wrap i64 (s4+1)) r5
 else
 none
 else
 bif (Yi (some s2) none (length s0)) then
 bif (decide (((length r5)+(length ([(Ym (some s2) none s0)]:List (List UInt8))))<=(lim))) then
 some (r5++([(Ym (some s2) none s0)]:List (List UInt8)))
 else
 none
 else
 none:=by unfold Z51; rewrite [Y8]; kernel_rfl
theorem YKn (x:(List UInt8×Int)):Ya4 x=
 Z61 x.1 x.2:=by kernel_rfl
theorem Ymj (s0:List UInt8) (s1:Int):Z61 s0 s1=
 Z71 s0 s1 (0:Int) (0:Int) ([]:List (List UInt8)):=by unfold Z61; rewrite [Y8]; kernel_rfl
theorem YEc (s0:List UInt8) (s1:Int) (s2:Int) (s3:Int) (r4:List (List UInt8)):Z71 s0 s1 s2 s3 r4=
 bif (decide (s3 < (((length s0):Nat):Int))) then
 bif (Ya s3 (length s0)) then
 bif ((((UInt8.toNat (getD s0 (Int.toNat s3) (0:UInt8))):Nat):Int)==s1) then
 bif (Yi (some s2) (some s3) (length s0)) then
 bif (decide (((length r4)+(length ([(Ym (some s2) (some s3) s0)]:List (List UInt8))))<=(lim))) then
 Z71 s0 s1 (wrap i64 (s3+1)) (wrap i64 (s3+1)) (r4++([(Ym (some s2) (some s3) s0)]:List (List UInt8)))
 else
 none
 else
 none
 else
 Z71 s0 s1 s2 (wrap i64 (s3+1)) r4
 else
 none
 else
 bif (Yi (some s2) none (length s0)) then
 bif (decide (((length r4)+(length ([(Ym (some s2) none s0)]:List (List UInt8))))<=(lim))) then
 some (r4++([(Ym (some s2) none s0)]:List (List UInt8)))
 else
 none
 else
 none:=by unfold Z71; rewrite [Y8]; kernel_rfl
theorem YXm (x:(List UInt8×List UInt8)):Yoe x=
 Z81 x.1 x.2:=by kernel_rfl
theorem YAj (s0:List UInt8) (s1:List UInt8):Z81 s0 s1=
 (Yre (s0,s1)).bind fun y0=>
 bif (decide (y0>=0)) then
 bif (Yi none (some y0) (length s0)) then
 bif (Yi (some (wrap i64 (y0+(((length s1):Nat):Int)))) none (length s0)) then
 some ((Ym none (some y0) s0),((Ym (some (wrap i64 (y0+(((length s1):Nat):Int)))) none s0),true))
 else
 none
 else
 none
 else
 some (s0,(([]:List UInt8),false)):=by unfold Z81; rewrite [Y8]; kernel_rfl
theorem Y3p (x:(List UInt8×List UInt8)):Y7a x=
 Z91 x.1 x.2:=by kernel_rfl
theorem YHj (s0:List UInt8) (s1:List UInt8):Z91 s0 s1=
 (Ycf (s0,s1)).bind fun y0=>
 some (decide (y0>=0)):=by unfold Z91; rewrite [Y8]; kernel_rfl
theorem YUm (x:List UInt8):Yw9 x=
 Za1 x:=by kernel_rfl
theorem YNj (s0:List UInt8):Za1 s0=
 (YL4 (s0,(46:Int))).bind fun y0=>
 bif ((((length y0):Nat):Int) !=4) then
 some (([]:List Int),false)
 else
 Zb1 s0 (((length y0):Nat):Int) (0:Int) (Ty.zero (.arr 4 (.int .u16))) y0:=by unfold Za1; rewrite [Y8]; kernel_rfl
theorem YMc (s0:List UInt8) (s1:Int) (s2:Int) (b3:(List Int)) (r4:List (List UInt8)):Zb1 s0 s1 s2 b3 r4=
 bif (decide (s2 < s1)) then
 bif (Ya s2 (length r4)) then
 bif ((getD r4 (Int.toNat s2) (Ty.zero .str))==([]:List UInt8)) then
 some (([]:List Int),false)
 else
 bif (decide ((((length (getD r4 (Int.toNat s2) (Ty.zero .str))):Nat):Int) > 3)) then
 some (([]:List Int),false)
 else
 (YI4 ((getD r4 (Int.toNat s2) (Ty.zero .str)),([48,49,50,51,52,53,54,55,56,57]:List UInt8))).bind fun y0=>
 bif (!y0) then
 some (([]:List Int),false)
 else
 bif (Ya (0:Int) (length (getD r4 (Int.toNat s2) (Ty.zero .str)))) then
 bif ((((UInt8.toNat (getD (getD r4 (Int.toNat s2) (Ty.zero .str)) (Int.toNat (0:Int)) (0:UInt8))):Nat):Int)==48) then
 bif (decide ((((length (getD r4 (Int.toNat s2) (Ty.zero .str))):Nat):Int) > 1)) then
 some (([]:List Int),false)
 else
 Zc1 s0 s2 (getD r4 (Int.toNat s2) (Ty.zero .str)) s1 s2 (((length (getD r4 (Int.toNat s2) (Ty.zero .str))):Nat):Int) (0:Int) b3 r4
 else
 Zc1 s0 s2 (getD r4 (Int.toNat s2) (Ty.zero .str)) s1 s2 (((length (getD r4 (Int.toNat s2) (Ty.zero .str))):Nat):Int) (0:Int) b3 r4
 else
 none
 else
 none
 else
 some (([(bits Go.BinOp.or u16 (shl u16 (getD b3 (Int.toNat (0:Int)) (Ty.zero (.int .u16))) (8:Int)) (getD b3 (Int.toNat (1:Int)) (Ty.zero (.int .u16)))),(bits Go.BinOp.or u16 (shl u16 (getD b3 (Int.toNat (2:Int)) (Ty.zero (.int .u16))) (8:Int)) (getD b3 (Int.toNat (3:Int)) (Ty.zero (.int .u16))))]:List Int),true):=by unfold Zb1; rewrite [Y8]; kernel_rfl
theorem YPc (s0:List UInt8) (s1:Int) (s2:List UInt8) (s3:Int) (s4:Int) (s5:Int) (s6:Int) (b7:(List Int)) (r8:List (List UInt8)):Zc1 s0 s1 s2 s3 s4 s5 s6 b7 r8=
 bif (decide (s6 < s5)) then
 bif (Ya s1 4) then
 bif (Ya s6 (length s2)) then
 bif (Ya s1 4) then
 Zc1 s0 s1 s2 s3 s4 s5 (wrap i64 (s6+1)) (List.set b7 (Int.toNat s1) (wrap u16 ((wrap u16 ((10:Int)*(getD b7 (Int.toNat s1) (Ty.zero (.int .u16)))))+(wrap u16 (wrap u8 ((((UInt8.toNat (getD s2 (Int.toNat s6) (0:UInt8))):Nat):Int) - 48)))))) r8
 else
 none
 else
 none
 else
 none
 else
 bif (Ya s1 4) then
 bif (decide ((getD b7 (Int.toNat s1) (Ty.zero (.int .u16))) > 255)) then
 some (([]:List Int),false)
 else
 Zb1 s0 s3 (wrap i64 (s4+1)) b7 r8
 else
 none:=by unfold Zc1; rewrite [Y8]; kernel_rfl
theorem YFe (x:(List UInt8×Int)):YD5 x=
 Zd1 x.1 x.2:=by kernel_rfl
theorem YTc (s0:List UInt8) (s1:Int):Zd1 s0 s1=
 Ze1 s0 s1 (0:Int):=by unfold Zd1; rewrite [Y8]; kernel_rfl
theorem YH6 (s0:List UInt8) (s1:Int) (s2:Int):Ze1 s0 s1 s2=
 bif (decide (s2 < (((length s0):Nat):Int))) then
 bif (Ya s2 (length s0)) then
 bif ((((UInt8.toNat (getD s0 (Int.toNat s2) (0:UInt8))):Nat):Int)==s1) then
 some true
 else
 Ze1 s0 s1 (wrap i64 (s2+1))
 else
 none
 else
 some false:=by unfold Ze1; rewrite [Y8]; kernel_rfl
theorem YRo (x:List UInt8):Y1a x=
 Zf1 x:=by kernel_rfl
theorem Y7k (s0:List UInt8):Zf1 s0=
 bif ((((length s0):Nat):Int)==0) then
 some (-(1:Int))
 else
 bif (decide ((((length s0):Nat):Int) > 3)) then
 some (-(1:Int))
 else
 bif (Ya (0:Int) (length s0)) then
 bif ((((UInt8.toNat (getD s0 (Int.toNat (0:Int)) (0:UInt8))):Nat):Int)==48) then
 bif (decide ((((length s0):Nat):Int) > 1)) then
 some (-(1:Int))
 else
 Zg1 s0 (0:Int) (0:Int)
 else
 Zg1 s0 (0:Int) (0:Int)
 else
 none:=by unfold Zf1; rewrite [Y8]; kernel_rfl
theorem Y6d (s0:List UInt8) (s1:Int) (s2:Int):Zg1 s0 s1 s2=
 bif (decide (s2 < (((length s0):Nat):Int))) then
 bif (Ya s2 (length s0)) then
 bif (decide ((((UInt8.toNat (getD s0 (Int.toNat s2) (0:UInt8))):Nat):Int) < 48)) then
 some (-(1:Int))
 else
 bif (Ya s2 (length s0)) then
 bif (decide ((((UInt8.toNat (getD s0 (Int.toNat s2) (0:UInt8))):Nat):Int) > 57)) then
 some (-(1:Int))
 else
 bif (Ya s2 (length s0)) then
 Zg1 s0 (wrap i64 ((wrap i64 (s1*10))+(wrap i64 (wrap u8 ((((UInt8.toNat (getD s0 (Int.toNat s2) (0:UInt8))):Nat):Int) - 48))))) (wrap i64 (s2+1))
 else
 none
 else
 none
 else
 none
 else
 bif (decide (s1 > 255)) then
 some (-(1:Int))
 else
 some s1:=by unfold Zg1; rewrite [Y8]; kernel_rfl
theorem Y9n (x:(List UInt8×(Int×Int))):Yue x=
 Zh1 x.1 x.2.1 x.2.2:=by kernel_rfl
theorem Yek (s0:List UInt8) (s1:Int) (s2:Int):Zh1 s0 s1 s2=
 Zi1 s0 s1 s2 (((length (YL s0)):Nat):Int) (0:Int) (YL s0):=by unfold Zh1; rewrite [Y8]; kernel_rfl
theorem Ydd (s0:List UInt8) (s1:Int) (s2:Int) (s3:Int) (s4:Int) (r5:List Int):Zi1 s0 s1 s2 s3 s4 r5=
 bif (decide (s4 < s3)) then
 bif (Ya s4 (length r5)) then
 bif (decide ((getD r5 (Int.toNat s4) (Ty.zero (.int .u8)))>=s1)) then
 bif (decide ((getD r5 (Int.toNat s4) (Ty.zero (.int .u8)))<=s2)) then
 bif (Ya s4 (length r5)) then
 Zi1 s0 s1 s2 s3 (wrap i64 (s4+1)) (List.set r5 (Int.toNat s4) (bits Go.BinOp.xor u8 (getD r5 (Int.toNat s4) (Ty.zero (.int .u8))) (32:Int)))
 else
 none
 else
 Zi1 s0 s1 s2 s3 (wrap i64 (s4+1)) r5
 else
 Zi1 s0 s1 s2 s3 (wrap i64 (s4+1)) r5
 else
 none
 else
 some (Yn r5):=by unfold Zi1; rewrite [Y8]; kernel_rfl
theorem YYm (x:(List UInt8×List UInt8)):Ype x=
 Zj1 x.1 x.2:=by kernel_rfl
theorem Ypk (s0:List UInt8) (s1:List UInt8):Zj1 s0 s1=
 bif (decide ((((length s0):Nat):Int)>=(((length s1):Nat):Int))) then
 bif (Yi none (some (((length s1):Nat):Int)) (length s0)) then
 some ((Ym none (some (((length s1):Nat):Int)) s0)==s1)
 else
 none
 else
 some false:=by unfold Zj1; rewrite [Y8]; kernel_rfl
theorem YKm (x:(List UInt8×List UInt8)):Yv9 x=
 Zk1 x.1 x.2:=by kernel_rfl
theorem Yuk (s0:List UInt8) (s1:List UInt8):Zk1 s0 s1=
 Zl1 s0 s1 s0 0:=by unfold Zk1; rewrite [Y8]; kernel_rfl
theorem Yhd (s0:List UInt8) (s1:List UInt8) (t2:List UInt8) (n3:Nat):Zl1 s0 s1 t2 n3=
 bif (decide (n3 < (length t2))) then
 Zm1 s0 s1 ((n3:Nat):Int) (((Yx t2 n3).1:Nat):Int) false t2 (n3+(Yx t2 n3).2) s1 0
 else
 some ([]:List UInt8):=by unfold Zl1; rewrite [Y8]; kernel_rfl
theorem Yld (s0:List UInt8) (s1:List UInt8) (s2:Int) (s3:Int) (s4:Bool) (t5:List UInt8) (n6:Nat) (t7:List UInt8) (n8:Nat):Zm1 s0 s1 s2 s3 s4 t5 n6 t7 n8=
 bif (decide (n8 < (length t7))) then
 bif s4 then
 Zm1 s0 s1 s2 s3 true t5 n6 t7 (n8+(Yx t7 n8).2)
 else
 Zm1 s0 s1 s2 s3 (s3==(((Yx t7 n8).1:Nat):Int)) t5 n6 t7 (n8+(Yx t7 n8).2)
 else
 bif (!s4) then
 bif (Yi (some s2) none (length s0)) then
 some (Ym (some s2) none s0)
 else
 none
 else
 Zl1 s0 s1 t5 n6:=by unfold Zm1; rewrite [Y8]; kernel_rfl
theorem YMm (x:(List UInt8×List UInt8)):Yie x=
 Zn1 x.1 x.2:=by kernel_rfl
theorem YMk (s0:List UInt8) (s1:List UInt8):Zn1 s0 s1=
 Zo1 s0 s1:=by unfold Zn1; rewrite [Y8]; kernel_rfl
theorem Yod (s0:List UInt8) (s1:List UInt8):Zo1 s0 s1=
 bif (decide ((((length s0):Nat):Int) > 0)) then
 (Ynf s0).bind fun y0=>
 Zp1 s0 s1 y0.1 y0.2 false s1 0
 else
 some s0:=by unfold Zo1; rewrite [Y8]; kernel_rfl
theorem Yrd (s0:List UInt8) (s1:List UInt8) (s2:Int) (s3:Int) (s4:Bool) (t5:List UInt8) (n6:Nat):Zp1 s0 s1 s2 s3 s4 t5 n6=
 bif (decide (n6 < (length t5))) then
 bif s4 then
 Zp1 s0 s1 s2 s3 true t5 (n6+(Yx t5 n6).2)
 else
 Zp1 s0 s1 s2 s3 (s2==(((Yx t5 n6).1:Nat):Int)) t5 (n6+(Yx t5 n6).2)
 else
 bif (!s4) then
 some s0
 else
 bif (Yi none (some (wrap i64 ((((length s0):Nat):Int) - s3))) (length s0)) then
 Zo1 (Ym none (some (wrap i64 ((((length s0):Nat):Int) - s3))) s0) s1
 else
 none:=by unfold Zp1; rewrite [Y8]; kernel_rfl
theorem YLn (x:Int):YI9 x=
 Zq1 x:=by kernel_rfl
theorem Y3l (s0:Int):Zq1 s0=
 bif (decide (s0>=48)) then
 some (decide (s0<=57))
 else
 some false:=by unfold Zq1; rewrite [Y8]; kernel_rfl
theorem Ymp (x:List UInt8):Ynf x=Yv4 x:=by kernel_rfl
theorem YP4 (x:(List UInt8×Int)):Yd4 x=YB2 x:=by kernel_rfl
theorem Y0n (x:(List UInt8×List UInt8)):Yre x=Yl2 x:=by kernel_rfl
theorem Ycp (x:(List UInt8×List UInt8)):Ycf x=Yl2 x:=by kernel_rfl
end
end Go.Abs
