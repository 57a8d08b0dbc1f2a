/- Part L9 of the proof: see the last text of the claim. No condition of its own. -/
import Derived.Test.YtddagflhafkbnaaGreatDoorL8
import Derived.Test.YtddagflhafkbnaaGreatDoorQ3
set_option linter.all false
namespace Go.Abs
set_option autoImplicit false

def D:List UInt8→List Int
  | a::b::c::l=> if Y7 a=37∧0≤nib (Y7 b)∧0≤nib (Y7 c) then (nib (Y7 b)*16+nib (Y7 c))::D l else Y7 a::D (b::c::l)
  | [a,b]=> [Y7 a,Y7 b]
  | [a]=> [Y7 a]
  | []=> []
theorem D3 (a b c:UInt8) (l:List UInt8):D (a::b::c::l)=if Y7 a=37∧0≤nib (Y7 b)∧0≤nib (Y7 c) then (nib (Y7 b)*16+nib (Y7 c))::D l else Y7 a::D (b::c::l):=by rw [D]
end Go.Abs
namespace Go.Abs
set_option autoImplicit false

theorem Ygk (X:List UInt8) (c:UInt8) (Z:List UInt8):bat (X++c::Z) X.length=Y7 c:=by
  unfold bat
  rw [Yyr,List.getElem?_append_right (Nat.le_refl _),Nat.sub_self]; rfl
end Go.Abs
namespace Go.Abs
set_option autoImplicit false

def hasB (x:List UInt8) (c:Int):Bool:=x.any fun b=> Y7 b==c
theorem Ydf (x:List UInt8) (c:Int) (hx:x.length≤1073741824):∀ (k i:Nat),i+k=x.length→Zf1 x c (i:Int)=some (hasB (x.drop i) c)
  | 0,i,hk=> by
    have:i=x.length:=by omega
    subst this
    rw [Y26]; simp [hasB]
  | k+1,i,hk=> by
    have hi:i < x.length:=by omega
    have hw:IntKind.i64.wrap ((i:Int)+1)=((i+1:Nat):Int):=by rw [w64 (by omega) (by omega)]; omega
    have hget:x.getD (Int.toNat (i:Int)) 0=x[i]:=by
      rw [Ypr,Yyr,Yzr hi]; rfl
    rw [Y26]
    simp only [Yc,hi,decide_true,Yjr,Yj,hget,hw]
    rw [Yur hi,Ydf x c hx k (i+1) (by omega)]
    show (bif (Y7 x[i]==c) then some true else some (hasB (x.drop (i+1)) c))=some ((Y7 x[i]==c)||hasB (x.drop (i+1)) c)
    cases (Y7 x[i]==c) <;> rfl
theorem Yyl (x:List UInt8) (c:Int) (hx:x.length≤1073741824):Ya5 (x,c)=some (hasB x c):=by
  rw [YLd,YZb]
  exact Ydf x c hx x.length 0 (by omega)
end Go.Abs
