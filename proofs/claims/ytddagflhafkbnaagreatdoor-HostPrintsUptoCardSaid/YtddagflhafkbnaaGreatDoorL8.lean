/- Part L8 of the proof: see the last text of the claim. No condition of its own. -/
import Derived.Test.YtddagflhafkbnaaGreatDoorL6
import Derived.Test.YtddagflhafkbnaaGreatDoorL7
import Derived.Test.YtddagflhafkbnaaGreatDoorQ3
set_option linter.all false
set_option autoImplicit false
namespace Go.Abs
theorem Y6h:∀ (a b:List Int),Ty.beq.lbeq (fun x y=> x==y) a b=true↔a=b
 | [],[]=> by simp [Ty.beq.lbeq]
 | [],y::b=> by simp [Ty.beq.lbeq]
 | x::a,[]=> by simp [Ty.beq.lbeq]
 | x::a,y::b=> by
  have ih:=Y6h a b
  simp only [Ty.beq.lbeq,Ycu,beq_iff_eq,ih,List.cons.injEq]
theorem beqH (a b:D35):Ty.beq T35 a b=true↔a=b:=by
 obtain ⟨a1,a2,a3,a4⟩:=a
 obtain ⟨b1,b2,b3,b4⟩:=b
 show ((a1==b1)&&((a2==b2)&&((a3==b3)&&Ty.beq.lbeq (fun x y=> x==y) a4 b4)))=true↔_
 rw [Ycu,Ycu,Ycu,Y6h]
 simp only [beq_iff_eq,YAu]
def kd (h:D35):Int:=h.1
def Yn2 (k:Int) (h:D35):D35:=
 if k=0\/k=5 then (k,(([]:List UInt8),((0:Int),z8))) else if k=2 then (k,(([]:List UInt8),(h.2.2.1,z8))) else if k=3 then (k,(([]:List UInt8),((0:Int),h.2.2.2)))
 else (Yk1 h.2.1 (k==1)).1
def Yn1 (h:D35):D35:=Yn2 (kd h) h
def Yr1 (k:Int):Prop:=k=0\/k=1\/k=2\/k=3\/k=4\/k=5
open Classical in
noncomputable def Yi1 (h:D35):Int:=if Yr1 (kd h)/\h=Yn1 h then 0 else 51
open Classical in
theorem YB6 (a b:D35):(bif (!(Ty.beq T35 a b)) then some (51:Int) else some (0:Int))=some (if a=b then 0 else 51):=by
 by_cases h:a=b
 ·rw [(beqH a b).2 h,Yvu,Y8u,Ybu h]
 ·have:Ty.beq T35 a b=false:=by
   cases hb:Ty.beq T35 a b with
   | false=> rfl
   | true=> exact absurd ((beqH a b).1 hb) h
  rw [this,Ywu,Y7u,Yau h]
theorem Yk9 (h:D35):YG6 h=some (Yi1 h):=by
 have p6:∀ w,Z27 h h w=some (open Classical in if h=w then 0 else 51):=fun w=> by rw [Ysj,YB6]
 have p3:∀ w,Zz6 h h w=some (open Classical in if h=w then 0 else 51):=fun w=> by rw [Y1m,p6]
 have p4:∀ w,Z07 h h w=some (open Classical in if h=w then 0 else 51):=fun w=> by rw [Yfj,p3]
 have fin:∀ w,Yr1 (kd h)->w=Yn1 h->(some (open Classical in if h=w then 0 else 51):Option Int)=some (Yi1 h):=by
  rintro w hk rfl
  unfold Yi1
  by_cases e:h=Yn1 h
  ·rw [Ybu e,Ybu ⟨hk,e⟩]
  ·rw [Yau e,Yau (fun x=> e x.2)]
 have hz:((Ty.zero .str),((Ty.zero (.int .u32)),(Ty.zero (.arr 8 (.int .u16)))))=(([]:List UInt8),((0:Int),z8)):=rfl
 rw [Ytm,YOl,hz]
 have one:∀ b:Bool,b=decide (kd h=0\/kd h=5)->Zx6 h h.1 b h (h.1,(([]:List UInt8),((0:Int),z8)))=some (Yi1 h):=by
  intro b hb
  rw [YRl]
  by_cases c:kd h=0\/kd h=5
  ·rw [hb,Y5u c,Y7u,YVl,YB6]
   exact fin _ (by unfold Yr1; omega) (by unfold Yn1 Yn2; rw [Ybu c]; try rfl)
  ·rw [hb,Y6u c,Y8u]
   by_cases d:kd h=2
   ·rw [show (h.1==2)=true from beq_iff_eq.2 d,Y7u,p3]
    exact fin _ (by unfold Yr1; omega) (by unfold Yn1 Yn2; rw [Yau c,Ybu d]; try rfl)
   ·rw [show (h.1==2)=false from Yhu.2 d,Y8u]
    by_cases e:kd h=3
    ·rw [show (h.1==3)=true from beq_iff_eq.2 e,Y7u,p4]
     exact fin _ (by unfold Yr1; omega) (by unfold Yn1 Yn2; rw [Yau c,Yau d,Ybu e]; try rfl)
    ·rw [show (h.1==3)=false from Yhu.2 e,Y8u]
     have five:∀ b:Bool,b=decide (kd h=1\/kd h=4)->Z17 h b h (h.1,(([]:List UInt8),((0:Int),z8)))=some (Yi1 h):=by
      intro b hb
      rw [Ymj]
      by_cases g:kd h=1\/kd h=4
      ·rw [hb,Y5u g,Y7u,YDm,Y9u,Yyj,p4]
       exact fin _ (by unfold Yr1; omega) (by unfold Yn1 Yn2; rw [Yau c,Yau d,Yau e]; try rfl)
      ·rw [hb,Y6u g,Y8u]
       unfold Yi1
       rw [Yau (fun x=> by have:=x.1; unfold Yr1 at this; omega)]
     by_cases g:kd h=1
     ·rw [show (h.1==1)=true from beq_iff_eq.2 g,Y7u]
      exact five true (Y5u (.inl g)).symm
     ·rw [show (h.1==1)=false from Yhu.2 g,Y8u]
      refine five _ ?_
      by_cases f:kd h=4
      ·rw [Y5u (.inr f)]; exact beq_iff_eq.2 f
      ·rw [Y6u (fun x=> x.elim g f)]; exact Yhu.2 f
 by_cases c:kd h=0
 ·rw [show (h.1==0)=true from beq_iff_eq.2 c,Y7u]
  exact one true (Y5u (.inl c)).symm
 ·rw [show (h.1==0)=false from Yhu.2 c,Y8u]
  refine one _ ?_
  by_cases f:kd h=5
  ·rw [Y5u (.inr f)]; exact beq_iff_eq.2 f
  ·rw [Y6u (fun x=> by omega)]; exact Yhu.2 f
end Go.Abs
namespace Go.Abs
theorem Y7q (n:List UInt8):((Yf2 n).2≠0/\(Yf2 n).1=hnil)\/Yf2 n=(((2:Int),(([]:List UInt8),((ipOf n).1,z8))),0)\/(YZ2 n=false/\Yf2 n=(((1:Int),(n,((0:Int),z8))),0)):=by
 unfold Yf2
 by_cases a:YZ2 n=true
 ·rw [Ybu a]
  by_cases c:(ipOf n).2≠0
  ·rw [Ybu c]; exact .inl ⟨c,rfl⟩
  ·rw [Yau c]; exact .inr (.inl rfl)
 ·rw [Yau a]; exact .inr (.inr ⟨by simpa using a,rfl⟩)
theorem Yut (s:List UInt8):((Yb3 s).2≠0/\(Yb3 s).1=hnil)\/
  ((YF (YN s)).2=0/\(YF (YN s)).1≠[]/\(YF (YN s)).1.any badB=false/\Yb3 s=Yf2 (YF (YN s)).1):=by
 unfold Yb3
 by_cases a:(YF (YN s)).2≠0
 ·rw [Ybu a]; exact .inl ⟨a,rfl⟩
 rw [Yau a]
 by_cases b:(YF (YN s)).1=[]
 ·rw [Ybu b]; exact .inl ⟨by simp,rfl⟩
 rw [Yau b]
 by_cases c:(YF (YN s)).1.any badB=true
 ·rw [Ybu c]; exact .inl ⟨by simp,rfl⟩
 rw [Yau c]
 exact .inr ⟨by omega,b,by simpa using c,rfl⟩
theorem Yqt (s:List UInt8):((Yw4 s).2≠0/\(Yw4 s).1=hnil)\/Yw4 s=(((3:Int),(([]:List UInt8),((0:Int),(v6Of (Y62 s)).1))),0):=by
 unfold Yw4
 by_cases a:s.getLast? ≠some 93
 ·rw [Ybu a]; exact .inl ⟨by simp,rfl⟩
 rw [Yau a]
 by_cases b:s.length < 2
 ·rw [Ybu b]; exact .inl ⟨by simp,rfl⟩
 rw [Yau b]
 by_cases c:(v6Of (Y62 s)).2≠0
 ·rw [Ybu c]; exact .inl ⟨c,rfl⟩
 rw [Yau c]; exact .inr rfl
theorem YWr (s:List UInt8):((Y73 s).2≠0/\(Y73 s).1=hnil)\/(Yw3 s=false/\(Y22 s).length<=65536/\Y73 s=(((4:Int),(Y22 s,((0:Int),z8))),0)):=by
 unfold Y73
 by_cases a:Yw3 s=true
 ·rw [Ybu a]; exact .inl ⟨by simp,rfl⟩
 rw [Yau a]
 by_cases b:65536 < (Y22 s).length
 ·rw [Ybu b]; exact .inl ⟨by simp,rfl⟩
 rw [Yau b]; exact .inr ⟨by simpa using a,by omega,rfl⟩
theorem Yfs (s:List UInt8) (sp:Bool) (h:(Yk1 s sp).2≠0):(Yk1 s sp).1=hnil:=by
 unfold Yk1 at h ⊢
 by_cases a:65536 < s.length
 ·rw [Ybu a]
 rw [Yau a] at h ⊢
 by_cases b:s.head? =some 91
 ·rw [Ybu b] at h ⊢
  rcases Yqt s with c | c
  ·exact c.2
  ·rw [c] at h; exact absurd rfl h
 rw [Yau b] at h ⊢
 by_cases d:sp=true
 ·rw [Ybu d] at h ⊢
  rcases Yut s with c | ⟨_,_,_,c⟩
  ·exact c.2
  ·rw [c] at h ⊢
   rcases Y7q (YF (YN s)).1 with c | c | ⟨_,c⟩
   ·exact c.2
   ·rw [c] at h; exact absurd rfl h
   ·rw [c] at h; exact absurd rfl h
 rw [Yau d] at h ⊢
 by_cases e:s=[]
 ·rw [Ybu e] at h; exact absurd rfl h
 rw [Yau e] at h ⊢
 rcases YWr s with c | ⟨_,_,c⟩
 ·exact c.2
 ·rw [c] at h; exact absurd rfl h
end Go.Abs
namespace Go.Abs
def wfH (h:D35):Prop:=h.2.2.2.length=8/\Yp1 h.2.2.2/\0<=h.2.2.1/\h.2.2.1 < 4294967296
theorem YJp (h:D35):(Yi1 h=51)\/(Yi1 h=0/\Yr1 (kd h)/\h=Yn1 h):=by
 unfold Yi1
 split
 ·rename_i c; exact .inr ⟨rfl,c⟩
 ·exact .inl rfl
theorem Yls (h:D35) (hc:Yi1 h=51):Yx5 h=some (([]:List UInt8),51):=by
 rw [Yre,YKd,Yk9,hc,Y9u,show ((51:Int) !=0)=true from rfl,Y7u]
end Go.Abs
namespace Go.Abs
end Go.Abs
namespace Go.Abs
end Go.Abs
namespace Go.Abs
def D:List UInt8->List Int
 | a::b::c::l=> if Y8 a=37/\0<=nib (Y8 b)/\0<=nib (Y8 c) then (nib (Y8 b)*16+nib (Y8 c))::D l else Y8 a::D (b::c::l)
 | [a,b]=> [Y8 a,Y8 b]
 | [a]=> [Y8 a]
 | []=> []
theorem D3 (a b c:UInt8) (l:List UInt8):D (a::b::c::l)=if Y8 a=37/\0<=nib (Y8 b)/\0<=nib (Y8 c) then (nib (Y8 b)*16+nib (Y8 c))::D l else Y8 a::D (b::c::l):=by rw [D]
end Go.Abs
namespace Go.Abs
theorem Ygm (X:List UInt8) (c:UInt8) (Z:List UInt8):bat (X++c::Z) X.length=Y8 c:=by
 unfold bat
 rw [Ymu,List.getElem?_append_right (Nat.le_refl _),Nat.sub_self]; rfl
end Go.Abs
namespace Go.Abs
def hasB (x:List UInt8) (c:Int):Bool:=x.any fun b=> Y8 b==c
theorem Ywg (x:List UInt8) (c:Int) (hx:x.length<=1073741824):∀ (k i:Nat),i+k=x.length->Zf1 x c (i:Int)=some (hasB (x.drop i) c)
 | 0,i,hk=> by
  have:i=x.length:=by omega
  subst this
  rw [Yw6]; simp [hasB]
 | k+1,i,hk=> by
  have hi:i < x.length:=by omega
  have hw:IntKind.i64.wrap ((i:Int)+1)=((i+1:Nat):Int):=by rw [w64 (by omega) (by omega)]; omega
  have hget:x.getD (Int.toNat (i:Int)) 0=x[i]:=by
   rw [Ydu,Ymu,Ynu hi]; rfl
  rw [Yw6]
  simp only [Yg,hi,decide_true,Y7u,Yj,hget,hw]
  rw [Yiu hi,Ywg x c hx k (i+1) (by omega)]
  show (bif (Y8 x[i]==c) then some true else some (hasB (x.drop (i+1)) c))=some ((Y8 x[i]==c)||hasB (x.drop (i+1)) c)
  cases (Y8 x[i]==c) <;> rfl
theorem YMn (x:List UInt8) (c:Int) (hx:x.length<=1073741824):YD5 (x,c)=some (hasB x c):=by
 rw [YXe,YZc]
 exact Ywg x c hx x.length 0 (by omega)
end Go.Abs
