/- Part L8 of the proof: see the last text of the claim. No condition of its own. -/
import Derived.Test.YtddagflhafkbnaaGreatDoorL6
import Derived.Test.YtddagflhafkbnaaGreatDoorL7
import Derived.Test.YtddagflhafkbnaaGreatDoorQ3
import Derived.Test.YtddagflhafkbnaaGreatDoorL1
set_option linter.all false
set_option autoImplicit false
namespace Go.Abs
theorem YQc:∀ (a b:List Int),Ty.beq.lbeq (fun x y=> x==y) a b=true↔a=b
 | [],[]=> by simp [Ty.beq.lbeq]
 | [],y::b=> by simp [Ty.beq.lbeq]
 | x::a,[]=> by simp [Ty.beq.lbeq]
 | x::a,y::b=> by
  have ih:=YQc a b
  simp only [Ty.beq.lbeq,YRm,beq_iff_eq,ih,List.cons.injEq]
theorem beqH (a b:D35):Ty.beq T35 a b=true↔a=b:=by
 obtain ⟨a1,a2,a3,a4⟩:=a
 obtain ⟨b1,b2,b3,b4⟩:=b
 show ((a1==b1)&&((a2==b2)&&((a3==b3)&&Ty.beq.lbeq (fun x y=> x==y) a4 b4)))=true↔_
 rw [YRm,YRm,YRm,YQc]
 simp only [beq_iff_eq,Yfn]
def kd (h:D35):Int:=h.1
def Yl5 (k:Int) (h:D35):D35:=
 if k=0\/k=5 then (k,(([]:List UInt8),((0:Int),z8))) else if k=2 then (k,(([]:List UInt8),(h.2.2.1,z8))) else if k=3 then (k,(([]:List UInt8),((0:Int),h.2.2.2)))
 else (YW8 h.2.1 (k==1)).1
def YO3 (h:D35):D35:=Yl5 (kd h) h
def Yx3 (k:Int):Prop:=k=0\/k=1\/k=2\/k=3\/k=4\/k=5
open Classical in
noncomputable def YK2 (h:D35):Int:=if Yx3 (kd h)/\h=YO3 h then 0 else 51
open Classical in
theorem YQa (a b:D35):(bif (!(Ty.beq T35 a b)) then some (51:Int) else some (0:Int))=some (if a=b then 0 else 51):=by
 by_cases h:a=b
 ·rw [(beqH a b).2 h,Yan,YNm,YQm h]
 ·have:Ty.beq T35 a b=false:=by
   cases hb:Ty.beq T35 a b with
   | false=> rfl
   | true=> exact absurd ((beqH a b).1 hb) h
  rw [this,Ybn,YMm,YPm h]
theorem YPg (h:D35):Yz4 h=some (YK2 h):=by
 have p6:∀ w,Zs3 h h w=some (open Classical in if h=w then 0 else 51):=fun w=> by rw [YZf,YQa]
 have p3:∀ w,Zp3 h h w=some (open Classical in if h=w then 0 else 51):=fun w=> by rw [YQf,p6]
 have p4:∀ w,Zq3 h h w=some (open Classical in if h=w then 0 else 51):=fun w=> by rw [YUf,p3]
 have fin:∀ w,Yx3 (kd h)->w=YO3 h->(some (open Classical in if h=w then 0 else 51):Option Int)=some (YK2 h):=by
  rintro w hk rfl
  unfold YK2
  by_cases e:h=YO3 h
  ·rw [YQm e,YQm ⟨hk,e⟩]
  ·rw [YPm e,YPm (fun x=> e x.2)]
 have hz:((Ty.zero .str),((Ty.zero (.int .u32)),(Ty.zero (.arr 8 (.int .u16)))))=(([]:List UInt8),((0:Int),z8)):=rfl
 rw [YOg,YGf,hz]
 have one:∀ b:Bool,b=decide (kd h=0\/kd h=5)->Zn3 h h.1 b h (h.1,(([]:List UInt8),((0:Int),z8)))=some (YK2 h):=by
  intro b hb
  rw [YJf]
  by_cases c:kd h=0\/kd h=5
  ·rw [hb,YKm c,YMm,YNf,YQa]
   exact fin _ (by unfold Yx3; omega) (by unfold YO3 Yl5; rw [YQm c]; try rfl)
  ·rw [hb,YLm c,YNm]
   by_cases d:kd h=2
   ·rw [show (h.1==2)=true from beq_iff_eq.2 d,YMm,p3]
    exact fin _ (by unfold Yx3; omega) (by unfold YO3 Yl5; rw [YPm c,YQm d]; try rfl)
   ·rw [show (h.1==2)=false from YWm.2 d,YNm]
    by_cases e:kd h=3
    ·rw [show (h.1==3)=true from beq_iff_eq.2 e,YMm,p4]
     exact fin _ (by unfold Yx3; omega) (by unfold YO3 Yl5; rw [YPm c,YPm d,YQm e]; try rfl)
    ·rw [show (h.1==3)=false from YWm.2 e,YNm]
     have five:∀ b:Bool,b=decide (kd h=1\/kd h=4)->Zr3 h b h (h.1,(([]:List UInt8),((0:Int),z8)))=some (YK2 h):=by
      intro b hb
      rw [YWf]
      by_cases g:kd h=1\/kd h=4
      ·rw [hb,YKm g,YMm,YZg,YOm,Y2g,p4]
       exact fin _ (by unfold Yx3; omega) (by unfold YO3 Yl5; rw [YPm c,YPm d,YPm e]; try rfl)
      ·rw [hb,YLm g,YNm]
       unfold YK2
       rw [YPm (fun x=> by have:=x.1; unfold Yx3 at this; omega)]
     by_cases g:kd h=1
     ·rw [show (h.1==1)=true from beq_iff_eq.2 g,YMm]
      exact five true (YKm (.inl g)).symm
     ·rw [show (h.1==1)=false from YWm.2 g,YNm]
      refine five _ ?_
      by_cases f:kd h=4
      ·rw [YKm (.inr f)]; exact beq_iff_eq.2 f
      ·rw [YLm (fun x=> x.elim g f)]; exact YWm.2 f
 by_cases c:kd h=0
 ·rw [show (h.1==0)=true from beq_iff_eq.2 c,YMm]
  exact one true (YKm (.inl c)).symm
 ·rw [show (h.1==0)=false from YWm.2 c,YNm]
  refine one _ ?_
  by_cases f:kd h=5
  ·rw [YKm (.inr f)]; exact beq_iff_eq.2 f
  ·rw [YLm (fun x=> by omega)]; exact YWm.2 f
end Go.Abs
namespace Go.Abs
end Go.Abs
namespace Go.Abs
end Go.Abs
namespace Go.Abs
def Yd4 (s:List UInt8):List (List UInt8):=if s=[] then [] else if (YM s 46).getD ((YM s 46).length - 1) []=[] then (YM s 46).take ((YM s 46).length - 1) else YM s 46
theorem Yhm (s:List UInt8):1<=(YM s 46).length:=YQ6 46 s []
theorem Ykk (y:List (List UInt8)) (h1:1<=y.length) (h2:y.length<=2000000000):
  (bif (Yb (IntKind.wrap IntKind.i64 ((((List.length y):Nat):Int) - (1:Int))) (List.length y)) then
     bif ((List.getD y (Int.toNat (IntKind.wrap IntKind.i64 ((((List.length y):Nat):Int) - (1:Int)))) (Ty.zero .str))==([]:List UInt8)) then
      bif (Yh none (some (IntKind.wrap IntKind.i64 ((((List.length y):Nat):Int) - (1:Int)))) (List.length y)) then
       some (List.take (Option.getD (Option.map (Int.toNat) (some (IntKind.wrap IntKind.i64 ((((List.length y):Nat):Int) - (1:Int))))) (List.length y)) y)
      else
       none
     else
      some y
    else
     none)=some (if y.getD (y.length - 1) []=[] then y.take (y.length - 1) else y):=by
 have hw:IntKind.i64.wrap (((List.length y:Nat):Int) - 1)=((y.length - 1:Nat):Int):=by rw [w64 (by omega) (by omega)]; omega
 rw [hw,Ym,YKm (by omega),YMm,YSm]
 have hc:Yh none (some ((y.length - 1:Nat):Int)) y.length=true:=by simp [Yh]
 show (bif (y.getD (y.length - 1) []==([]:List UInt8)) then _ else _)=_
 by_cases c:y.getD (y.length - 1) []=[]
 ·rw [YQm c,show (y.getD (y.length - 1) []==([]:List UInt8))=true from beq_iff_eq.2 c,YMm,hc,YMm]
  rfl
 ·rw [YPm c,show (y.getD (y.length - 1) []==([]:List UInt8))=false from YWm.2 c,YNm]
theorem YXg (s:List UInt8) (hs:s.length<=1073741823):Yz7 s=some (Yd4 s):=by
 have hl:=YK3 46 s []
 have hl:(YM s 46).length<=s.length+1:=hl
 have hp:=Yhm s
 rw [YWg,YGe]
 unfold Yd4
 by_cases c:s=[]
 ·rw [YQm c,show (s==([]:List UInt8))=true from beq_iff_eq.2 c,YMm]
 ·rw [YPm c,show (s==([]:List UInt8))=false from YWm.2 c,YNm,YD5 s 46 (by omega),YOm]
  exact Ykk _ hp (by omega)
theorem Ylk (s:List UInt8):(Yd4 s).length<=s.length+1:=by
 have hl:=YK3 46 s []
 have hl:(YM s 46).length<=s.length+1:=hl
 unfold Yd4
 split
 ·simp
 ·split
  ·rw [Y4n]; omega
  ·exact hl
end Go.Abs
