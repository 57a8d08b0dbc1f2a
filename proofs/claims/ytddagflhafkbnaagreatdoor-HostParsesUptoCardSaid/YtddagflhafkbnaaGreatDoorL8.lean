/- Part L8 of the proof: see the last text of the claim. No condition of its own. -/
import Derived.Test.YtddagflhafkbnaaGreatDoorL6
import Derived.Test.YtddagflhafkbnaaGreatDoorL7
set_option linter.all false
namespace Go.Abs
set_option autoImplicit false

theorem YHf:∀ (a b:List Int),Ty.beq.lbeq (fun x y=> x==y) a b=true↔a=b
  | [],[]=> by simp [Ty.beq.lbeq]
  | [],y::b=> by simp [Ty.beq.lbeq]
  | x::a,[]=> by simp [Ty.beq.lbeq]
  | x::a,y::b=> by
    have ih:=YHf a b
    simp only [Ty.beq.lbeq,Yor,beq_iff_eq,ih,List.cons.injEq]
theorem beqH (a b:D35):Ty.beq T35 a b=true↔a=b:=by
  obtain ⟨a1,a2,a3,a4⟩:=a
  obtain ⟨b1,b2,b3,b4⟩:=b
  show ((a1==b1)&&((a2==b2)&&((a3==b3)&&Ty.beq.lbeq (fun x y=> x==y) a4 b4)))=true↔_
  rw [Yor,Yor,Yor,YHf]
  simp only [beq_iff_eq,YMr]

def kd (h:D35):Int:=h.1
def Y6r (k:Int) (h:D35):D35:=
  if k=0∨k=5 then (k,(([]:List UInt8),((0:Int),z8))) else if k=2 then (k,(([]:List UInt8),(h.2.2.1,z8))) else if k=3 then (k,(([]:List UInt8),((0:Int),h.2.2.2)))
  else (Yw5 h.2.1 (k==1)).1
def Y7r (h:D35):D35:=Y6r (kd h) h
def YEo (k:Int):Prop:=k=0∨k=1∨k=2∨k=3∨k=4∨k=5
open Classical in
noncomputable def Ygr (h:D35):Int:=if YEo (kd h)∧h=Y7r h then 0 else 51
open Classical in
theorem Yfr (a b:D35):(bif (!(Ty.beq T35 a b)) then some (51:Int) else some (0:Int))=some (if a=b then 0 else 51):=by
  by_cases h:a=b
  · rw [(beqH a b).2 h,YHr,Ykr,Ynr h]
  · have:Ty.beq T35 a b=false:=by
      cases hb:Ty.beq T35 a b with
      | false=> rfl
      | true=> exact absurd ((beqH a b).1 hb) h
    rw [this,YIr,Yjr,Ymr h]
end Go.Abs
namespace Go.Abs
set_option autoImplicit false

end Go.Abs
namespace Go.Abs
set_option autoImplicit false

end Go.Abs
namespace Go.Abs
set_option autoImplicit false

end Go.Abs
namespace Go.Abs
set_option autoImplicit false

end Go.Abs
