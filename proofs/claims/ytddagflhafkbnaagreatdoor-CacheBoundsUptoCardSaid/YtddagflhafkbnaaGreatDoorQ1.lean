/- Part Q1 of the proof: see the last text of the claim. No condition of its own. -/
import Derived.Test.YtddagflhafkbnaaGreatDoorK8
import Derived.Test.YtddagflhafkbnaaGreatDoorE1
set_option linter.all false
set_option autoImplicit false
namespace Go.Abs
noncomputable section
open IntKind List
def Yx7 (x:List UInt8):Option (Int×Int):=Abs.Call E 40 x
def Z3 (s0:List UInt8):Option (Int×Int):=(Abs.Run E 40 (E.at 40 []) ⟨Y7 [(0,(.val .str s0))],Yc [],Yd []⟩)
def Z4 (s0:List UInt8) (s1:Int) (s2:Int) (r3:List Int) (r4:List (List UInt8)):Option (Int×Int):=(Abs.Run E 40 (E.at 40 [1,1,1,1,0,1,0,7]) ⟨Y7 [(0,(.val .str s0)),(5,(.row 0)),(19,(.row 1)),(20,(.val (.int .i64) s1)),(21,(.val (.int .i64) s2))],Yf [],Yg [.mk (.int .i64) .live r3,.mk .str .live r4]⟩)
def Z5 (s0:List UInt8) (s1:Int) (s56lo_2:Nat) (s56hi_3:Nat) (s4:Int) (s5:Int) (r6:List Int):Option (Int×Int):=(Abs.Run E 40 (E.at 40 [1,1,1,1,1,1,1,1,0,1,0,7]) ⟨Y7 [(0,(.val .str s0)),(11,(.val (.int .i64) s1)),(56,(.part 0 s56lo_2 s56hi_3)),(57,(.val (.int .i64) s4)),(58,(.val (.int .i64) s5))],Yf [],Yg [.mk (.int .i64) .live r6]⟩)
def Yy7 (x:List UInt8):Option ((List Int)×Int):=Abs.Call E 42 x
def Z6 (s0:List UInt8):Option ((List Int)×Int):=(Abs.Run E 42 (E.at 42 []) ⟨Y7 [(0,(.val .str s0))],Yc [],Yd []⟩)
def Yw7 (x:List UInt8):Option Bool:=Abs.Call E 45 x
def Z7 (s0:List UInt8):Option Bool:=(Abs.Run E 45 (E.at 45 []) ⟨Y7 [(0,(.val .str s0))],Yc [],Yd []⟩)
def YB5 (x:List UInt8):Option (List (List UInt8)):=Abs.Call E 112 x
def Z8 (s0:List UInt8):Option (List (List UInt8)):=(Abs.Run E 112 (E.at 112 []) ⟨Y7 [(0,(.val .str s0))],Yc [],Yd []⟩)
def Yf3 (x:List UInt8):Option (Int×Bool):=Abs.Call E 113 x
def Z9 (s0:List UInt8):Option (Int×Bool):=(Abs.Run E 113 (E.at 113 []) ⟨Y7 [(0,(.val .str s0))],Yc [],Yd []⟩)
def Za (s0:List UInt8) (s1:Int):Option (Int×Bool):=(Abs.Run E 113 (E.at 113 [1,1,0,0,1,9]) ⟨Y7 [(0,(.val .str s0)),(4,(.val (.int .i64) s1))],Yf [],Yg []⟩)
def Zb (s0:List UInt8) (s1:Int):Option (Int×Bool):=(Abs.Run E 113 (E.at 113 [1,1,0,0,1,1,1,9]) ⟨Y7 [(0,(.val .str s0)),(4,(.val (.int .i64) s1))],Yf [],Yg []⟩)
def Zc (s0:List UInt8) (s1:Int) (s2:Int) (s3:Int) (s4:Int):Option (Int×Bool):=(Abs.Run E 113 (E.at 113 [1,1,1,1,0,1,0,7]) ⟨Y7 [(0,(.val .str s0)),(4,(.val (.int .i64) s1)),(5,(.val (.int .i64) s2)),(40,(.val (.int .i64) s3)),(41,(.val (.int .i64) s4))],Yf [],Yg []⟩)
def YS7 (x:(List UInt8×List UInt8)):Option (List UInt8×(List UInt8×Bool)):=Abs.Call E 116 x
def Zd (s0:List UInt8) (s1:List UInt8):Option (List UInt8×(List UInt8×Bool)):=(Abs.Run E 116 (E.at 116 []) ⟨Y7 [(1,(.val .str s1)),(0,(.val .str s0))],Yc [],Yd []⟩)
def Yl2 (x:(List UInt8×Bool)):Option ((List Int)×Bool):=Abs.Call E 117 x
def Ze (s0:List UInt8) (s1:Bool):Option ((List Int)×Bool):=(Abs.Run E 117 (E.at 117 []) ⟨Y7 [(1,(.val .bool s1)),(0,(.val .str s0))],Yc [],Yd []⟩)
def Zf (s0:List UInt8) (s1:Bool) (s2:Int) (s3:Int) (r4:List Int) (r5:List (List UInt8)):Option ((List Int)×Bool):=(Abs.Run E 117 (E.at 117 [1,1,1,1,0,1,0,7]) ⟨Y7 [(0,(.val .str s0)),(1,(.val .bool s1)),(6,(.row 0)),(7,(.row 1)),(18,(.row 1)),(19,(.val (.int .i64) s2)),(20,(.val (.int .i64) s3))],Yf [],Yg [.mk (.int .u16) .live r4,.mk .str .live r5]⟩)
def YH2 (x:List UInt8):Option (List UInt8):=Abs.Call E 119 x
def Zg (s0:List UInt8):Option (List UInt8):=(Abs.Run E 119 (E.at 119 []) ⟨Y7 [(0,(.val .str s0))],Yc [],Yd []⟩)
def YX3 (x:(List UInt8×List UInt8)):Option Bool:=Abs.Call E 120 x
def Zh (s0:List UInt8) (s1:List UInt8):Option Bool:=(Abs.Run E 120 (E.at 120 []) ⟨Y7 [(1,(.val .str s1)),(0,(.val .str s0))],Yc [],Yd []⟩)
def YT3 (x:(List UInt8×List UInt8)):Option Bool:=Abs.Call E 121 x
def Zi (s0:List UInt8) (s1:List UInt8):Option Bool:=(Abs.Run E 121 (E.at 121 []) ⟨Y7 [(1,(.val .str s1)),(0,(.val .str s0))],Yc [],Yd []⟩)
def YW3 (x:(List UInt8×Int)):Option (List (List UInt8)):=Abs.Call E 142 x
def Zj (s0:List UInt8) (s1:Int):Option (List (List UInt8)):=(Abs.Run E 142 (E.at 142 []) ⟨Y7 [(1,(.val (.int .u8) s1)),(0,(.val .str s0))],Yc [],Yd []⟩)
def Zk (s0:List UInt8) (s1:Int) (s2:Int) (s3:Int) (s4:Int) (r5:List (List UInt8)):Option (List (List UInt8)):=(Abs.Run E 142 (E.at 142 [1,1,1,0,1,0,7]) ⟨Y7 [(0,(.val .str s0)),(1,(.val (.int .u8) s1)),(5,(.row 0)),(6,(.val (.int .i64) s2)),(9,(.val (.int .i64) s3)),(10,(.val (.int .i64) s4))],Yf [],Yg [.mk .str .live r5]⟩)
def Y4b (x:(List UInt8×List UInt8)):Option (List UInt8×(List UInt8×Bool)):=Abs.Call E 169 x
def Zl (s0:List UInt8) (s1:List UInt8):Option (List UInt8×(List UInt8×Bool)):=(Abs.Run E 169 (E.at 169 []) ⟨Y7 [(1,(.val .str s1)),(0,(.val .str s0))],Yc [],Yd []⟩)
def YR7 (x:(List UInt8×List UInt8)):Option Bool:=Abs.Call E 170 x
def Zm (s0:List UInt8) (s1:List UInt8):Option Bool:=(Abs.Run E 170 (E.at 170 []) ⟨Y7 [(1,(.val .str s1)),(0,(.val .str s0))],Yc [],Yd []⟩)
def YD7 (x:List UInt8):Option ((List Int)×Bool):=Abs.Call E 171 x
def Zn (s0:List UInt8):Option ((List Int)×Bool):=(Abs.Run E 171 (E.at 171 []) ⟨Y7 [(0,(.val .str s0))],Yc [],Yd []⟩)
def Zo (s0:List UInt8) (s1:Int) (s2:Int) (b3:(List Int)) (r4:List (List UInt8)):Option ((List Int)×Bool):=(Abs.Run E 171 (E.at 171 [1,1,1,1,0,1,0,7]) ⟨Y7 [(0,(.val .str s0)),(5,(.addr (.box 0) [])),(14,(.row 0)),(15,(.val (.int .i64) s1)),(16,(.val (.int .i64) s2))],Yf [.cells (.arr 4 (.int .u16)) .live (.val (.arr 4 (.int .u16)) b3)],Yg [.mk .str .live r4]⟩)
def Zp (s0:List UInt8) (s1:Int) (s2:List UInt8) (s3:Int) (s4:Int) (s5:Int) (s6:Int) (b7:(List Int)) (r8:List (List UInt8)):Option ((List Int)×Bool):=(Abs.Run E 171 (E.at 171 [1,1,1,1,0,1,0,0,1,1,0,0,1,1,0,1,0,7]) ⟨Y7 [(0,(.val .str s0)),(5,(.addr (.box 0) [])),(6,(.val (.int .i64) s1)),(7,(.val .str s2)),(14,(.row 0)),(15,(.val (.int .i64) s3)),(16,(.val (.int .i64) s4)),(44,(.val (.int .i64) s5)),(45,(.val (.int .i64) s6))],Yf [.cells (.arr 4 (.int .u16)) .live (.val (.arr 4 (.int .u16)) b7)],Yg [.mk .str .live r8]⟩)
def Yab (x:(List UInt8×(Int×Int))):Option (List UInt8):=Abs.Call E 129 x
def Zq (s0:List UInt8) (s1:Int) (s2:Int):Option (List UInt8):=(Abs.Run E 129 (E.at 129 []) ⟨Y7 [(2,(.val (.int .u8) s2)),(1,(.val (.int .u8) s1)),(0,(.val .str s0))],Yc [],Yd []⟩)
def Zr (s0:List UInt8) (s1:Int) (s2:Int) (s3:Int) (s4:Int) (r5:List Int):Option (List UInt8):=(Abs.Run E 129 (E.at 129 [1,1,0,1,0,7]) ⟨Y7 [(0,(.val .str s0)),(1,(.val (.int .u8) s1)),(2,(.val (.int .u8) s2)),(7,(.row 0)),(12,(.row 0)),(13,(.val (.int .i64) s3)),(14,(.val (.int .i64) s4))],Yf [],Yg [.mk (.int .u8) .live r5]⟩)
def Y5b (x:(List UInt8×List UInt8)):Option Bool:=Abs.Call E 173 x
def Zs (s0:List UInt8) (s1:List UInt8):Option Bool:=(Abs.Run E 173 (E.at 173 []) ⟨Y7 [(1,(.val .str s1)),(0,(.val .str s0))],Yc [],Yd []⟩)
def YC7 (x:(List UInt8×List UInt8)):Option (List UInt8):=Abs.Call E 175 x
def Zt (s0:List UInt8) (s1:List UInt8):Option (List UInt8):=(Abs.Run E 175 (E.at 175 []) ⟨Y7 [(1,(.val .str s1)),(0,(.val .str s0))],Yc [],Yd []⟩)
def Zu (s0:List UInt8) (s1:List UInt8) (t2:List UInt8) (n3:Nat):Option (List UInt8):=(Abs.Run E 175 (E.at 175 [1,0,1,0,7]) ⟨Y7 [(0,(.val .str s0)),(1,(.val .str s1)),(11,(.addr (.box 0) []))],Yf [.iter t2 n3],Yg []⟩)
def Zv (s0:List UInt8) (s1:List UInt8) (s2:Int) (s3:Int) (s4:Bool) (t5:List UInt8) (n6:Nat) (t7:List UInt8) (n8:Nat):Option (List UInt8):=(Abs.Run E 175 (E.at 175 [1,0,1,0,0,1,1,0,1,1,0,1,0,7]) ⟨Y7 [(0,(.val .str s0)),(1,(.val .str s1)),(5,(.val (.int .i64) s2)),(6,(.val (.int .i32) s3)),(7,(.val .bool s4)),(11,(.addr (.box 0) [])),(17,(.addr (.box 1) []))],Yf [.iter t5 n6,.iter t7 n8],Yg []⟩)
def YYa (x:(List UInt8×List UInt8)):Option (List UInt8):=Abs.Call E 174 x
def Zw (s0:List UInt8) (s1:List UInt8):Option (List UInt8):=(Abs.Run E 174 (E.at 174 []) ⟨Y7 [(1,(.val .str s1)),(0,(.val .str s0))],Yc [],Yd []⟩)
def Zx (s0:List UInt8) (s1:List UInt8):Option (List UInt8):=(Abs.Run E 174 (E.at 174 [1,0,0,7]) ⟨Y7 [(0,(.val .str s0)),(1,(.val .str s1))],Yf [],Yg []⟩)
def Zy (s0:List UInt8) (s1:List UInt8) (s2:Int) (s3:Int) (s4:Bool) (t5:List UInt8) (n6:Nat):Option (List UInt8):=(Abs.Run E 174 (E.at 174 [1,0,0,0,1,0,1,1,0,1,0,7]) ⟨Y7 [(0,(.val .str s0)),(1,(.val .str s1)),(5,(.val (.int .i32) s2)),(6,(.val (.int .i64) s3)),(7,(.val .bool s4)),(19,(.addr (.box 0) []))],Yf [.iter t5 n6],Yg []⟩)
def YAb (x:List UInt8):Option (Int×Int):=Abs.Call E 215 x
def Yk3 (x:(List UInt8×Int)):Option Int:=Abs.Call E 126 x
def Y7b (x:(List UInt8×List UInt8)):Option Int:=Abs.Call E 213 x
def Ypb (x:(List UInt8×List UInt8)):Option Int:=Abs.Call E 214 x
theorem YSg (x:List UInt8):Yx7 x=
 Z3 x:=by kernel_rfl
theorem YFe (s0:List UInt8):Z3 s0=
 (YB5 s0).bind fun y0=>
 bif (decide ((((length y0):Nat):Int) > 4)) then
 some ((0:Int),(3:Int))
 else
 Z4 s0 (((length y0):Nat):Int) (0:Int) ([]:List Int) y0:=by unfold Z3; rewrite [Y8]; kernel_rfl
theorem YR9 (s0:List UInt8) (s1:Int) (s2:Int) (r3:List Int) (r4:List (List UInt8)):Z4 s0 s1 s2 r3 r4=
 bif (decide (s2 < s1)) then
 bif (Yb s2 (length r4)) then
 (Yf3 (getD r4 (Int.toNat s2) (Ty.zero .str))).bind fun y0=>
 bif (!y0.2) then
 some ((0:Int),(54:Int))
 else
 bif (decide (((length r3)+(length ([y0.1]:List Int)))<=(lim))) then
 Z4 s0 s1 (wrap i64 (s2+1)) (r3++([y0.1]:List Int)) r4
 else
 none
 else
 none
 else
 bif (Yb (wrap i64 ((((length r3):Nat):Int) - 1)) (length r3)) then
 bif (decide ((0:Int)<=(wrap i64 ((8:Int)*(wrap i64 ((5:Int) - (((length r3):Nat):Int))))))) then
 bif (decide ((getD r3 (Int.toNat (wrap i64 ((((length r3):Nat):Int) - 1))) (Ty.zero (.int .i64)))>=(shl i64 (1:Int) (wrap i64 ((8:Int)*(wrap i64 ((5:Int) - (((length r3):Nat):Int)))))))) then
 some ((0:Int),(4:Int))
 else
 bif (Yb (wrap i64 ((((length r3):Nat):Int) - 1)) (length r3)) then
 bif (Yh none (some (wrap i64 ((((length r3):Nat):Int) - 1))) (length r3)) then
 Z5 s0 (getD r3 (Int.toNat (wrap i64 ((((length r3):Nat):Int) - 1))) (Ty.zero (.int .i64))) (Option.getD (Option.map (Int.toNat) none) 0) (Option.getD (Option.map (Int.toNat) (some (wrap i64 ((((length r3):Nat):Int) - 1)))) (length r3)) ((((Option.getD (Option.map (Int.toNat) (some (wrap i64 ((((length r3):Nat):Int) - 1)))) (length r3)) - (Option.getD (Option.map (Int.toNat) none) 0)):Nat):Int) (0:Int) r3
 else
 none
 else
 none
 else
 none
 else
 none:=by unfold Z4; rewrite [Y8]; kernel_rfl
theorem YU9 (s0:List UInt8) (s1:Int) (s56lo_2:Nat) (s56hi_3:Nat) (s4:Int) (s5:Int) (r6:List Int):Z5 s0 s1 s56lo_2 s56hi_3 s4 s5 r6=
 bif (decide (s5 < s4)) then
 bif (Yb s5 (s56hi_3 - s56lo_2)) then
 bif (decide ((getD r6 (s56lo_2+(Int.toNat s5)) (Ty.zero (.int .i64))) > 255)) then
 some ((0:Int),(4:Int))
 else
 bif (decide ((0:Int)<=(wrap i64 ((8:Int)*(wrap i64 ((3:Int) - s5)))))) then
 Z5 s0 (wrap i64 (s1+(shl i64 (getD r6 (s56lo_2+(Int.toNat s5)) (Ty.zero (.int .i64))) (wrap i64 ((8:Int)*(wrap i64 ((3:Int) - s5))))))) s56lo_2 s56hi_3 s4 (wrap i64 (s5+1)) r6
 else
 none
 else
 none
 else
 some ((wrap u32 s1),(0:Int)):=by unfold Z5; rewrite [Y8]; kernel_rfl
theorem YUg (x:List UInt8):Yy7 x=
 Z6 x:=by kernel_rfl
theorem YPe (s0:List UInt8):Z6 s0=
 (YS7 (s0,([58,58]:List UInt8))).bind fun y0=>
 (Yl2 (y0.1,(!y0.2.2))).bind fun y1=>
 (Yl2 (y0.2.1,true)).bind fun y2=>
 bif (!y1.2) then
 some ((Ty.zero (.arr 8 (.int .u16))),(55:Int))
 else
 bif (!y2.2) then
 some ((Ty.zero (.arr 8 (.int .u16))),(55:Int))
 else
 bif y0.2.2 then
 bif (decide ((wrap i64 ((((length y1.1):Nat):Int)+(((length y2.1):Nat):Int))) > 7)) then
 some ((Ty.zero (.arr 8 (.int .u16))),(55:Int))
 else
 bif (!y0.2.2) then
 bif ((wrap i64 ((((length y1.1):Nat):Int)+(((length y2.1):Nat):Int))) !=8) then
 some ((Ty.zero (.arr 8 (.int .u16))),(55:Int))
 else
 bif (Yh (some (wrap i64 ((8:Int) - (((length y2.1):Nat):Int)))) none 8) then
 some ((((List.take (Option.getD (Option.map (Int.toNat) (some (wrap i64 ((8:Int) - (((length y2.1):Nat):Int))))) 0) (((List.take (Option.getD (Option.map (Int.toNat) none) 0) (Ty.zero (.arr 8 (.int .u16))))++(List.take ((Option.getD (Option.map (Int.toNat) none) 8) - (Option.getD (Option.map (Int.toNat) none) 0)) y1.1))++(List.drop ((Option.getD (Option.map (Int.toNat) none) 0)+(Min.min (length y1.1) ((Option.getD (Option.map (Int.toNat) none) 8) - (Option.getD (Option.map (Int.toNat) none) 0)))) (Ty.zero (.arr 8 (.int .u16))))))++(List.take ((Option.getD (Option.map (Int.toNat) none) 8) - (Option.getD (Option.map (Int.toNat) (some (wrap i64 ((8:Int) - (((length y2.1):Nat):Int))))) 0)) y2.1))++(List.drop ((Option.getD (Option.map (Int.toNat) (some (wrap i64 ((8:Int) - (((length y2.1):Nat):Int))))) 0)+(Min.min (length y2.1) ((Option.getD (Option.map (Int.toNat) none) 8) - (Option.getD (Option.map (Int.toNat) (some (wrap i64 ((8:Int) - (((length y2.1):Nat):Int))))) 0)))) (((List.take (Option.getD (Option.map (Int.toNat) none) 0) (Ty.zero (.arr 8 (.int .u16))))++(List.take ((Option.getD (Option.map (Int.toNat) none) 8) - (Option.getD (Option.map (Int.toNat) none) 0)) y1.1))++(List.drop ((Option.getD (Option.map (Int.toNat) none) 0)+(Min.min (length y1.1) ((Option.getD (Option.map (Int.toNat) none) 8) - (Option.getD (Option.map (Int.toNat) none) 0)))) (Ty.zero (.arr 8 (.int .u16))))))),(0:Int))
 else
 none
 else
 bif (Yh (some (wrap i64 ((8:Int) - (((length y2.1):Nat):Int)))) none 8) then
 some ((((List.take (Option.getD (Option.map (Int.toNat) (some (wrap i64 ((8:Int) - (((length y2.1):Nat):Int))))) 0) (((List.take (Option.getD (Option.map (Int.toNat) none) 0) (Ty.zero (.arr 8 (.int .u16))))++(List.take ((Option.getD (Option.map (Int.toNat) none) 8) - (Option.getD (Option.map (Int.toNat) none) 0)) y1.1))++(List.drop ((Option.getD (Option.map (Int.toNat) none) 0)+(Min.min (length y1.1) ((Option.getD (Option.map (Int.toNat) none) 8) - (Option.getD (Option.map (Int.toNat) none) 0)))) (Ty.zero (.arr 8 (.int .u16))))))++(List.take ((Option.getD (Option.map (Int.toNat) none) 8) - (Option.getD (Option.map (Int.toNat) (some (wrap i64 ((8:Int) - (((length y2.1):Nat):Int))))) 0)) y2.1))++(List.drop ((Option.getD (Option.map (Int.toNat) (some (wrap i64 ((8:Int) - (((length y2.1):Nat):Int))))) 0)+(Min.min (length y2.1) ((Option.getD (Option.map (Int.toNat) none) 8) - (Option.getD (Option.map (Int.toNat) (some (wrap i64 ((8:Int) - (((length y2.1):Nat):Int))))) 0)))) (((List.take (Option.getD (Option.map (Int.toNat) none) 0) (Ty.zero (.arr 8 (.int .u16))))++(List.take ((Option.getD (Option.map (Int.toNat) none) 8) - (Option.getD (Option.map (Int.toNat) none) 0)) y1.1))++(List.drop ((Option.getD (Option.map (Int.toNat) none) 0)+(Min.min (length y1.1) ((Option.getD (Option.map (Int.toNat) none) 8) - (Option.getD (Option.map (Int.toNat) none) 0)))) (Ty.zero (.arr 8 (.int .u16))))))),(0:Int))
 else
 none
 else
 bif (!y0.2.2) then
 bif ((wrap i64 ((((length y1.1):Nat):Int)+(((length y2.1):Nat):Int))) !=8) then
 some ((Ty.zero (.arr 8 (.int .u16))),(55:Int))
 else
 bif (Yh (some (wrap i64 ((8:Int) - (((length y2.1):Nat):Int)))) none 8) then
 some ((((List.take (Option.getD (Option.map (Int.toNat) (some (wrap i64 ((8:Int) - (((length y2.1):Nat):Int))))) 0) (((List.take (Option.getD (Option.map (Int.toNat) none) 0) (Ty.zero (.arr 8 (.int .u16))))++(List.take ((Option.getD (Option.map (Int.toNat) none) 8) - (Option.getD (Option.map (Int.toNat) none) 0)) y1.1))++(List.drop ((Option.getD (Option.map (Int.toNat) none) 0)+(Min.min (length y1.1) ((Option.getD (Option.map (Int.toNat) none) 8) - (Option.getD (Option.map (Int.toNat) none) 0)))) (Ty.zero (.arr 8 (.int .u16))))))++(List.take ((Option.getD (Option.map (Int.toNat) none) 8) - (Option.getD (Option.map (Int.toNat) (some (wrap i64 ((8:Int) - (((length y2.1):Nat):Int))))) 0)) y2.1))++(List.drop ((Option.getD (Option.map (Int.toNat) (some (wrap i64 ((8:Int) - (((length y2.1):Nat):Int))))) 0)+(Min.min (length y2.1) ((Option.getD (Option.map (Int.toNat) none) 8) - (Option.getD (Option.map (Int.toNat) (some (wrap i64 ((8:Int) - (((length y2.1):Nat):Int))))) 0)))) (((List.take (Option.getD (Option.map (Int.toNat) none) 0) (Ty.zero (.arr 8 (.int .u16))))++(List.take ((Option.getD (Option.map (Int.toNat) none) 8) - (Option.getD (Option.map (Int.toNat) none) 0)) y1.1))++(List.drop ((Option.getD (Option.map (Int.toNat) none) 0)+(Min.min (length y1.1) ((Option.getD (Option.map (Int.toNat) none) 8) - (Option.getD (Option.map (Int.toNat) none) 0)))) (Ty.zero (.arr 8 (.int .u16))))))),(0:Int))
 else
 none
 else
 bif (Yh (some (wrap i64 ((8:Int) - (((length y2.1):Nat):Int)))) none 8) then
 some ((((List.take (Option.getD (Option.map (Int.toNat) (some (wrap i64 ((8:Int) - (((length y2.1):Nat):Int))))) 0) (((List.take (Option.getD (Option.map (Int.toNat) none) 0) (Ty.zero (.arr 8 (.int .u16))))++(List.take ((Option.getD (Option.map (Int.toNat) none) 8) - (Option.getD (Option.map (Int.toNat) none) 0)) y1.1))++(List.drop ((Option.getD (Option.map (Int.toNat) none) 0)+(Min.min (length y1.1) ((Option.getD (Option.map (Int.toNat) none) 8) - (Option.getD (Option.map (Int.toNat) none) 0)))) (Ty.zero (.arr 8 (.int .u16))))))++(List.take ((Option.getD (Option.map (Int.toNat) none) 8) - (Option.getD (Option.map (Int.toNat) (some (wrap i64 ((8:Int) - (((length y2.1):Nat):Int))))) 0)) y2.1))++(List.drop ((Option.getD (Option.map (Int.toNat) (some (wrap i64 ((8:Int) - (((length y2.1):Nat):Int))))) 0)+(Min.min (length y2.1) ((Option.getD (Option.map (Int.toNat) none) 8) - (Option.getD (Option.map (Int.toNat) (some (wrap i64 ((8:Int) - (((length y2.1):Nat):Int))))) 0)))) (((List.take (Option.getD (Option.map (Int.toNat) none) 0) (Ty.zero (.arr 8 (.int .u16))))++(List.take ((Option.getD (Option.map (Int.toNat) none) 8) - (Option.getD (Option.map (Int.toNat) none) 0)) y1.1))++(List.drop ((Option.getD (Option.map (Int.toNat) none) 0)+(Min.min (length y1.1) ((Option.getD (Option.map (Int.toNat) none) 8) - (Option.getD (Option.map (Int.toNat) none) 0)))) (Ty.zero (.arr 8 (.int .u16))))))),(0:Int))
 else
 none:=by unfold Z6; rewrite [Y8]; kernel_rfl
theorem YQg (x:List UInt8):Yw7 x=
 Z7 x:=by kernel_rfl
theorem YUe (s0:List UInt8):Z7 s0=
 bif (s0==([]:List UInt8)) then
 some false
 else
 (YB5 s0).bind fun y0=>
 bif (Yb (wrap i64 ((((length y0):Nat):Int) - 1)) (length y0)) then
 (YH2 (getD y0 (Int.toNat (wrap i64 ((((length y0):Nat):Int) - 1))) (Ty.zero .str))).bind fun y1=>
 (YX3 (y1,([48,120]:List UInt8))).bind fun y2=>
 bif y2 then
 bif (Yh (some (2:Int)) none (length y1)) then
 (YT3 ((Yn (some (2:Int)) none y1),([48,49,50,51,52,53,54,55,56,57,97,98,99,100,101,102]:List UInt8))).bind fun y3=>
 some y3
 else
 none
 else
 bif (!(y1==([]:List UInt8))) then
 (YT3 (y1,([48,49,50,51,52,53,54,55,56,57]:List UInt8))).bind fun y3=>
 some y3
 else
 some false
 else
 none:=by unfold Z7; rewrite [Y8]; kernel_rfl
theorem Yeh (x:List UInt8):YB5 x=
 Z8 x:=by kernel_rfl
theorem YXe (s0:List UInt8):Z8 s0=
 (YW3 (s0,(46:Int))).bind fun y0=>
 bif (decide ((((length y0):Nat):Int) > 1)) then
 bif (Yb (wrap i64 ((((length y0):Nat):Int) - 1)) (length y0)) then
 bif ((getD y0 (Int.toNat (wrap i64 ((((length y0):Nat):Int) - 1))) (Ty.zero .str))==([]:List UInt8)) then
 bif (Yh none (some (wrap i64 ((((length y0):Nat):Int) - 1))) (length y0)) then
 some (List.take (Option.getD (Option.map (Int.toNat) (some (wrap i64 ((((length y0):Nat):Int) - 1)))) (length y0)) y0)
 else
 none
 else
 some y0
 else
 none
 else
 some y0:=by unfold Z8; rewrite [Y8]; kernel_rfl
theorem Ydh (x:List UInt8):Yf3 x=
 Z9 x:=by kernel_rfl
theorem Y1f (s0:List UInt8):Z9 s0=
 bif (decide ((((length s0):Nat):Int)>=2)) then
 bif (Yb (0:Int) (length s0)) then
 bif ((((UInt8.toNat (getD s0 (Int.toNat (0:Int)) (0:UInt8))):Nat):Int)==48) then
 bif (Yb (1:Int) (length s0)) then
 bif ((bits Go.BinOp.or u8 (((UInt8.toNat (getD s0 (Int.toNat (1:Int)) (0:UInt8))):Nat):Int) (32:Int))==120) then
 bif (Yh (some (2:Int)) none (length s0)) then
 Za (Yn (some (2:Int)) none s0) (16:Int)
 else
 none
 else
 bif (decide ((((length s0):Nat):Int)>=2)) then
 bif (Yb (0:Int) (length s0)) then
 bif ((((UInt8.toNat (getD s0 (Int.toNat (0:Int)) (0:UInt8))):Nat):Int)==48) then
 bif (Yh (some (1:Int)) none (length s0)) then
 Zb (Yn (some (1:Int)) none s0) (8:Int)
 else
 none
 else
 bif (s0==([]:List UInt8)) then
 some ((0:Int),false)
 else
 Zb s0 (10:Int)
 else
 none
 else
 bif (s0==([]:List UInt8)) then
 some ((0:Int),false)
 else
 Zb s0 (10:Int)
 else
 none
 else
 bif (decide ((((length s0):Nat):Int)>=2)) then
 bif (Yb (0:Int) (length s0)) then
 bif ((((UInt8.toNat (getD s0 (Int.toNat (0:Int)) (0:UInt8))):Nat):Int)==48) then
 bif (Yh (some (1:Int)) none (length s0)) then
 Zb (Yn (some (1:Int)) none s0) (8:Int)
 else
 none
 else
 bif (s0==([]:List UInt8)) then
 some ((0:Int),false)
 else
 Zb s0 (10:Int)
 else
 none
 else
 bif (s0==([]:List UInt8)) then
 some ((0:Int),false)
 else
 Zb s0 (10:Int)
 else
 none
 else
 bif (decide ((((length s0):Nat):Int)>=2)) then
 bif (Yb (0:Int) (length s0)) then
 bif ((((UInt8.toNat (getD s0 (Int.toNat (0:Int)) (0:UInt8))):Nat):Int)==48) then
 bif (Yh (some (1:Int)) none (length s0)) then
 Zb (Yn (some (1:Int)) none s0) (8:Int)
 else
 none
 else
 bif (s0==([]:List UInt8)) then
 some ((0:Int),false)
 else
 Zb s0 (10:Int)
 else
 none
 else
 bif (s0==([]:List UInt8)) then
 some ((0:Int),false)
 else
 Zb s0 (10:Int):=by unfold Z9; rewrite [Y8]; kernel_rfl
theorem Y6f (s0:List UInt8) (s1:Int):Za s0 s1=
 Zc s0 s1 (0:Int) (((length s0):Nat):Int) (0:Int):=by unfold Za; rewrite [Y8]; kernel_rfl
theorem Y1a (s0:List UInt8) (s1:Int):Zb s0 s1=
 Za s0 s1:=by unfold Zb; rewrite [Y8]; kernel_rfl
theorem Y2a (s0:List UInt8) (s1:Int) (s2:Int) (s3:Int) (s4:Int):Zc s0 s1 s2 s3 s4=
 bif (decide (s4 < s3)) then
 bif (Yh (some s4) (some (wrap i64 (s4+1))) (length s0)) then
 (YH2 (Yn (some s4) (some (wrap i64 (s4+1))) s0)).bind fun y0=>
 bif (Yb (0:Int) (length y0)) then
 (Yk3 (([48,49,50,51,52,53,54,55,56,57,97,98,99,100,101,102]:List UInt8),(((UInt8.toNat (getD y0 (Int.toNat (0:Int)) (0:UInt8))):Nat):Int))).bind fun y1=>
 bif (decide (y1 < 0)) then
 some ((0:Int),false)
 else
 bif (decide (y1>=s1)) then
 some ((0:Int),false)
 else
 Zc s0 s1 (if ((wrap i64 ((wrap i64 (s2*s1))+y1)) < 1099511627776) then (wrap i64 ((wrap i64 (s2*s1))+y1)) else (1099511627776:Int)) s3 (wrap i64 (s4+1))
 else
 none
 else
 none
 else
 some (s2,true):=by unfold Zc; rewrite [Y8]; kernel_rfl
theorem Yai (x:(List UInt8×List UInt8)):YS7 x=
 Zd x.1 x.2:=by kernel_rfl
theorem Ydf (s0:List UInt8) (s1:List UInt8):Zd s0 s1=
 (Y4b (s0,s1)).bind fun y0=>
 some (y0.1,(y0.2.1,y0.2.2)):=by unfold Zd; rewrite [Y8]; kernel_rfl
theorem Yfh (x:(List UInt8×Bool)):Yl2 x=
 Ze x.1 x.2:=by kernel_rfl
theorem Yhf (s0:List UInt8) (s1:Bool):Ze s0 s1=
 bif (s0==([]:List UInt8)) then
 some (([]:List Int),true)
 else
 (YW3 (s0,(58:Int))).bind fun y0=>
 Zf s0 s1 (((length y0):Nat):Int) (0:Int) ([]:List Int) y0:=by unfold Ze; rewrite [Y8]; kernel_rfl
theorem Y5a (s0:List UInt8) (s1:Bool) (s2:Int) (s3:Int) (r4:List Int) (r5:List (List UInt8)):Zf s0 s1 s2 s3 r4 r5=
 bif (decide (s3 < s2)) then
 bif (Yb s3 (length r5)) then
 bif s1 then
 bif (s3==(wrap i64 ((((length r5):Nat):Int) - 1))) then
 (YR7 ((getD r5 (Int.toNat s3) (Ty.zero .str)),([46]:List UInt8))).bind fun y0=>
 bif y0 then
 (YD7 (getD r5 (Int.toNat s3) (Ty.zero .str))).bind fun y1=>
 bif (decide (((length r4)+(length y1.1))<=(lim))) then
 some ((r4++y1.1),y1.2)
 else
 none
 else
 bif ((getD r5 (Int.toNat s3) (Ty.zero .str))==([]:List UInt8)) then
 some (([]:List Int),false)
 else
 bif (decide ((((length (getD r5 (Int.toNat s3) (Ty.zero .str))):Nat):Int) > 4)) then
 some (([]:List Int),false)
 else
 bif (decide (((length ([48,120]:List UInt8))+(length (getD r5 (Int.toNat s3) (Ty.zero .str))))<=(2 ^ 62))) then
 (Yf3 (([48,120]:List UInt8)++(getD r5 (Int.toNat s3) (Ty.zero .str)))).bind fun y1=>
 bif (!y1.2) then
 some (([]:List Int),false)
 else
 bif (decide (((length r4)+(length ([(wrap u16 y1.1)]:List Int)))<=(lim))) then
 Zf s0 s1 s2 (wrap i64 (s3+1)) (r4++([(wrap u16 y1.1)]:List Int)) r5
 else
 none
 else
 none
 else
 bif ((getD r5 (Int.toNat s3) (Ty.zero .str))==([]:List UInt8)) then
 some (([]:List Int),false)
 else
 bif (decide ((((length (getD r5 (Int.toNat s3) (Ty.zero .str))):Nat):Int) > 4)) then
 some (([]:List Int),false)
 else
 bif (decide (((length ([48,120]:List UInt8))+(length (getD r5 (Int.toNat s3) (Ty.zero .str))))<=(2 ^ 62))) then
 (Yf3 (([48,120]:List UInt8)++(getD r5 (Int.toNat s3) (Ty.zero .str)))).bind fun y0=>
 bif (!y0.2) then
 some (([]:List Int),false)
 else
 bif (decide (((length r4)+(length ([(wrap u16 y0.1)]:List Int)))<=(lim))) then
 Zf s0 s1 s2 (wrap i64 (s3+1)) (r4++([(wrap u16 y0.1)]:List Int)) r5
 else
 none
 else
 none
 else
 bif ((getD r5 (Int.toNat s3) (Ty.zero .str))==([]:List UInt8)) then
 some (([]:List Int),false)
 else
 bif (decide ((((length (getD r5 (Int.toNat s3) (Ty.zero .str))):Nat):Int) > 4)) then
 some (([]:List Int),false)
 else
 bif (decide (((length ([48,120]:List UInt8))+(length (getD r5 (Int.toNat s3) (Ty.zero .str))))<=(2 ^ 62))) then
 (Yf3 (([48,120]:List UInt8)++(getD r5 (Int.toNat s3) (Ty.zero .str)))).bind fun y0=>
 bif (!y0.2) then
 some (([]:List Int),false)
 else
 bif (decide (((length r4)+(length ([(wrap u16 y0.1)]:List Int)))<=(lim))) then
 Zf s0 s1 s2 (wrap i64 (s3+1)) (r4++([(wrap u16 y0.1)]:List Int)) r5
 else
 none
 else
 none
 else
 none
 else
 some (r4,true):=by unfold Zf; rewrite [Y8]; kernel_rfl
theorem Ysh (x:List UInt8):YH2 x=
 Zg x:=by kernel_rfl
theorem Ypf (s0:List UInt8):Zg s0=
 (Yab (s0,((65:Int),(90:Int)))).bind fun y0=>
 some y0:=by unfold Zg; rewrite [Y8]; kernel_rfl
theorem Yci (x:(List UInt8×List UInt8)):YX3 x=
 Zh x.1 x.2:=by kernel_rfl
theorem Ysf (s0:List UInt8) (s1:List UInt8):Zh s0 s1=
 (Y5b (s0,s1)).bind fun y0=>
 some y0:=by unfold Zh; rewrite [Y8]; kernel_rfl
theorem Y2h (x:(List UInt8×List UInt8)):YT3 x=
 Zi x.1 x.2:=by kernel_rfl
theorem Ywf (s0:List UInt8) (s1:List UInt8):Zi s0 s1=
 (YC7 (s0,s1)).bind fun y0=>
 (YYa (y0,s1)).bind fun y1=>
 some (y1==([]:List UInt8)):=by unfold Zi; rewrite [Y8]; kernel_rfl
theorem Yvh (x:(List UInt8×Int)):YW3 x=
 Zj x.1 x.2:=by kernel_rfl
theorem YAf (s0:List UInt8) (s1:Int):Zj s0 s1=
 Zk s0 s1 (0:Int) (((length s0):Nat):Int) (0:Int) ([]:List (List UInt8)):=by unfold Zj; rewrite [Y8]; kernel_rfl
theorem Yca (s0:List UInt8) (s1:Int) (s2:Int) (s3:Int) (s4:Int) (r5:List (List UInt8)):Zk s0 s1 s2 s3 s4 r5=
 bif (decide (s4 < s3)) then
 bif (Yb s4 (length s0)) then
 bif ((((UInt8.toNat (getD s0 (Int.toNat s4) (0:UInt8))):Nat):Int)==s1) then
 bif (Yh (some s2) (some s4) (length s0)) then
 bif (decide (((length r5)+(length ([(Yn (some s2) (some s4) s0)]:List (List UInt8))))<=(lim))) then
 Zk s0 s1 (wrap i64 (s4+1)) s3 (wrap i64 (s4+1)) (r5++([(Yn (some s2) (some s4) s0)]:List (List UInt8)))
 else
 none
 else
 none
 else
 Zk s0 s1 s2 s3 (wrap i64 (s4+1)) r5
 else
 none
 else
 bif (Yh (some s2) none (length s0)) then
 bif (decide (((length r5)+(length ([(Yn (some s2) none s0)]:List (List UInt8))))<=(lim))) then
 some (r5++([(Yn (some s2) none s0)]:List (List UInt8)))
 else
 none
 else
 none:=by unfold Zk; rewrite [Y8]; kernel_rfl
theorem Yjh (x:(List UInt8×List UInt8)):Y4b x=
 Zl x.1 x.2:=by kernel_rfl
theorem YEf (s0:List UInt8) (s1:List UInt8):Zl s0 s1=
 (Y7b (s0,s1)).bind fun y0=>
 bif (decide (y0>=0)) then
 bif (Yh none (some y0) (length s0)) then
 bif (Yh (some (wrap i64 (y0+(((length s1):Nat):Int)))) none (length s0)) then
 some ((Yn none (some y0) s0),((Yn (some (wrap i64 (y0+(((length s1):Nat):Int)))) none s0),true))
 else
 none
 else
 none
 else
 some (s0,(([]:List UInt8),false)):=by unfold Zl; rewrite [Y8]; kernel_rfl
theorem Y8i (x:(List UInt8×List UInt8)):YR7 x=
 Zm x.1 x.2:=by kernel_rfl
theorem YHf (s0:List UInt8) (s1:List UInt8):Zm s0 s1=
 (Ypb (s0,s1)).bind fun y0=>
 some (decide (y0>=0)):=by unfold Zm; rewrite [Y8]; kernel_rfl
theorem Ygh (x:List UInt8):YD7 x=
 Zn x:=by kernel_rfl
theorem YLf (s0:List UInt8):Zn s0=
 (YW3 (s0,(46:Int))).bind fun y0=>
 bif ((((length y0):Nat):Int) !=4) then
 some (([]:List Int),false)
 else
 Zo s0 (((length y0):Nat):Int) (0:Int) (Ty.zero (.arr 4 (.int .u16))) y0:=by unfold Zn; rewrite [Y8]; kernel_rfl
theorem Yka (s0:List UInt8) (s1:Int) (s2:Int) (b3:(List Int)) (r4:List (List UInt8)):Zo s0 s1 s2 b3 r4=
 bif (decide (s2 < s1)) then
 bif (Yb s2 (length r4)) then
 bif ((getD r4 (Int.toNat s2) (Ty.zero .str))==([]:List UInt8)) then
 some (([]:List Int),false)
 else
 bif (decide ((((length (getD r4 (Int.toNat s2) (Ty.zero .str))):Nat):Int) > 3)) then
 some (([]:List Int),false)
 else
 (YT3 ((getD r4 (Int.toNat s2) (Ty.zero .str)),([48,49,50,51,52,53,54,55,56,57]:List UInt8))).bind fun y0=>
 bif (!y0) then
 some (([]:List Int),false)
 else
 bif (Yb (0:Int) (length (getD r4 (Int.toNat s2) (Ty.zero .str)))) then
 bif ((((UInt8.toNat (getD (getD r4 (Int.toNat s2) (Ty.zero .str)) (Int.toNat (0:Int)) (0:UInt8))):Nat):Int)==48) then
 bif (decide ((((length (getD r4 (Int.toNat s2) (Ty.zero .str))):Nat):Int) > 1)) then
 some (([]:List Int),false)
 else
 Zp s0 s2 (getD r4 (Int.toNat s2) (Ty.zero .str)) s1 s2 (((length (getD r4 (Int.toNat s2) (Ty.zero .str))):Nat):Int) (0:Int) b3 r4
 else
 Zp s0 s2 (getD r4 (Int.toNat s2) (Ty.zero .str)) s1 s2 (((length (getD r4 (Int.toNat s2) (Ty.zero .str))):Nat):Int) (0:Int) b3 r4
 else
 none
 else
 none
 else
 some (([(bits Go.BinOp.or u16 (shl u16 (getD b3 (Int.toNat (0:Int)) (Ty.zero (.int .u16))) (8:Int)) (getD b3 (Int.toNat (1:Int)) (Ty.zero (.int .u16)))),(bits Go.BinOp.or u16 (shl u16 (getD b3 (Int.toNat (2:Int)) (Ty.zero (.int .u16))) (8:Int)) (getD b3 (Int.toNat (3:Int)) (Ty.zero (.int .u16))))]:List Int),true):=by unfold Zo; rewrite [Y8]; kernel_rfl
theorem Yma (s0:List UInt8) (s1:Int) (s2:List UInt8) (s3:Int) (s4:Int) (s5:Int) (s6:Int) (b7:(List Int)) (r8:List (List UInt8)):Zp s0 s1 s2 s3 s4 s5 s6 b7 r8=
 bif (decide (s6 < s5)) then
 bif (Yb s1 4) then
 bif (Yb s6 (length s2)) then
 bif (Yb s1 4) then
 Zp s0 s1 s2 s3 s4 s5 (wrap i64 (s6+1)) (List.set b7 (Int.toNat s1) (wrap u16 ((wrap u16 ((10:Int)*(getD b7 (Int.toNat s1) (Ty.zero (.int .u16)))))+(wrap u16 (wrap u8 ((((UInt8.toNat (getD s2 (Int.toNat s6) (0:UInt8))):Nat):Int) - 48)))))) r8
 else
 none
 else
 none
 else
 none
 else
 bif (Yb s1 4) then
 bif (decide ((getD b7 (Int.toNat s1) (Ty.zero (.int .u16))) > 255)) then
 some (([]:List Int),false)
 else
 Zo s0 s3 (wrap i64 (s4+1)) b7 r8
 else
 none:=by unfold Zp; rewrite [Y8]; kernel_rfl
theorem Ywh (x:(List UInt8×(Int×Int))):Yab x=
 Zq x.1 x.2.1 x.2.2:=by kernel_rfl
theorem YVf (s0:List UInt8) (s1:Int) (s2:Int):Zq s0 s1 s2=
 Zr s0 s1 s2 (((length (YK s0)):Nat):Int) (0:Int) (YK s0):=by unfold Zq; rewrite [Y8]; kernel_rfl
theorem Ypa (s0:List UInt8) (s1:Int) (s2:Int) (s3:Int) (s4:Int) (r5:List Int):Zr s0 s1 s2 s3 s4 r5=
 bif (decide (s4 < s3)) then
 bif (Yb s4 (length r5)) then
 bif (decide ((getD r5 (Int.toNat s4) (Ty.zero (.int .u8)))>=s1)) then
 bif (decide ((getD r5 (Int.toNat s4) (Ty.zero (.int .u8)))<=s2)) then
 bif (Yb s4 (length r5)) then
 Zr s0 s1 s2 s3 (wrap i64 (s4+1)) (List.set r5 (Int.toNat s4) (bits Go.BinOp.xor u8 (getD r5 (Int.toNat s4) (Ty.zero (.int .u8))) (32:Int)))
 else
 none
 else
 Zr s0 s1 s2 s3 (wrap i64 (s4+1)) r5
 else
 Zr s0 s1 s2 s3 (wrap i64 (s4+1)) r5
 else
 none
 else
 some (Yx r5):=by unfold Zr; rewrite [Y8]; kernel_rfl
theorem Ykh (x:(List UInt8×List UInt8)):Y5b x=
 Zs x.1 x.2:=by kernel_rfl
theorem Y0g (s0:List UInt8) (s1:List UInt8):Zs s0 s1=
 bif (decide ((((length s0):Nat):Int)>=(((length s1):Nat):Int))) then
 bif (Yh none (some (((length s1):Nat):Int)) (length s0)) then
 some ((Yn none (some (((length s1):Nat):Int)) s0)==s1)
 else
 none
 else
 some false:=by unfold Zs; rewrite [Y8]; kernel_rfl
theorem Y6h (x:(List UInt8×List UInt8)):YC7 x=
 Zt x.1 x.2:=by kernel_rfl
theorem Y3g (s0:List UInt8) (s1:List UInt8):Zt s0 s1=
 Zu s0 s1 s0 0:=by unfold Zt; rewrite [Y8]; kernel_rfl
theorem Yra (s0:List UInt8) (s1:List UInt8) (t2:List UInt8) (n3:Nat):Zu s0 s1 t2 n3=
 bif (decide (n3 < (length t2))) then
 Zv s0 s1 ((n3:Nat):Int) (((Yp t2 n3).1:Nat):Int) false t2 (n3+(Yp t2 n3).2) s1 0
 else
 some ([]:List UInt8):=by unfold Zu; rewrite [Y8]; kernel_rfl
theorem Ysa (s0:List UInt8) (s1:List UInt8) (s2:Int) (s3:Int) (s4:Bool) (t5:List UInt8) (n6:Nat) (t7:List UInt8) (n8:Nat):Zv s0 s1 s2 s3 s4 t5 n6 t7 n8=
 bif (decide (n8 < (length t7))) then
 bif s4 then
 Zv s0 s1 s2 s3 true t5 n6 t7 (n8+(Yp t7 n8).2)
 else
 Zv s0 s1 s2 s3 (s3==(((Yp t7 n8).1:Nat):Int)) t5 n6 t7 (n8+(Yp t7 n8).2)
 else
 bif (!s4) then
 bif (Yh (some s2) none (length s0)) then
 some (Yn (some s2) none s0)
 else
 none
 else
 Zu s0 s1 t5 n6:=by unfold Zv; rewrite [Y8]; kernel_rfl
theorem Y8h (x:(List UInt8×List UInt8)):YYa x=
 Zw x.1 x.2:=by kernel_rfl
theorem Yag (s0:List UInt8) (s1:List UInt8):Zw s0 s1=
 Zx s0 s1:=by unfold Zw; rewrite [Y8]; kernel_rfl
theorem Ywa (s0:List UInt8) (s1:List UInt8):Zx s0 s1=
 bif (decide ((((length s0):Nat):Int) > 0)) then
 (YAb s0).bind fun y0=>
 Zy s0 s1 y0.1 y0.2 false s1 0
 else
 some s0:=by unfold Zx; rewrite [Y8]; kernel_rfl
theorem Yxa (s0:List UInt8) (s1:List UInt8) (s2:Int) (s3:Int) (s4:Bool) (t5:List UInt8) (n6:Nat):Zy s0 s1 s2 s3 s4 t5 n6=
 bif (decide (n6 < (length t5))) then
 bif s4 then
 Zy s0 s1 s2 s3 true t5 (n6+(Yp t5 n6).2)
 else
 Zy s0 s1 s2 s3 (s2==(((Yp t5 n6).1:Nat):Int)) t5 (n6+(Yp t5 n6).2)
 else
 bif (!s4) then
 some s0
 else
 bif (Yh none (some (wrap i64 ((((length s0):Nat):Int) - s3))) (length s0)) then
 Zx (Yn none (some (wrap i64 ((((length s0):Nat):Int) - s3))) s0) s1
 else
 none:=by unfold Zy; rewrite [Y8]; kernel_rfl
theorem Yri (x:List UInt8):YAb x=YD3 x:=by kernel_rfl
theorem YY3 (x:(List UInt8×Int)):Yk3 x=YY1 x:=by kernel_rfl
theorem Ymh (x:(List UInt8×List UInt8)):Y7b x=YN1 x:=by kernel_rfl
theorem Yhi (x:(List UInt8×List UInt8)):Ypb x=YN1 x:=by kernel_rfl
end
end Go.Abs
