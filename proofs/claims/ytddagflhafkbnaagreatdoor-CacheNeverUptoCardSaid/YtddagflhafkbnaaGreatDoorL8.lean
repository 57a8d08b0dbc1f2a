/- Part L8 of the proof: see the last text of the claim. No condition of its own. -/
import Derived.Test.YtddagflhafkbnaaGreatDoorL6
import Derived.Test.YtddagflhafkbnaaGreatDoorL7
import Derived.Test.YtddagflhafkbnaaGreatDoorQ3
import Derived.Test.YtddagflhafkbnaaGreatDoorL1
set_option linter.all false
set_option autoImplicit false
namespace Go.Abs
theorem YNg:∀ (a b:List Int),Ty.beq.lbeq (fun x y=> x==y) a b=true↔a=b
 | [],[]=> by simp [Ty.beq.lbeq]
 | [],y::b=> by simp [Ty.beq.lbeq]
 | x::a,[]=> by simp [Ty.beq.lbeq]
 | x::a,y::b=> by
  have ih:=YNg a b
  simp only [Ty.beq.lbeq,Ylu,Y7v,ih,List.cons.injEq]
theorem beqH (a b:D35):Ty.beq T35 a b=true↔a=b:=by
 obtain ⟨a1,a2,a3,a4⟩:=a
 obtain ⟨b1,b2,b3,b4⟩:=b
 show ((a1==b1)&&((a2==b2)&&((a3==b3)&&Ty.beq.lbeq (fun x y=> x==y) a4 b4)))=true↔_
 rw [Ylu,Ylu,Ylu,YNg]
 simp only [Y7v,YJu]
def kd (h:D35):Int:=h.1
def YU2 (k:Int) (h:D35):D35:=
 if k=0\/k=5 then (k,(([]:List UInt8),((0:Int),z8))) else if k=2 then (k,(([]:List UInt8),(h.2.2.1,z8))) else if k=3 then (k,(([]:List UInt8),((0:Int),h.2.2.2)))
 else (Yj1 h.2.1 (k==1)).1
def Yv1 (h:D35):D35:=YU2 (kd h) h
def YV1 (k:Int):Prop:=k=0\/k=1\/k=2\/k=3\/k=4\/k=5
open Classical in
noncomputable def Yw1 (h:D35):Int:=if YV1 (kd h)/\h=Yv1 h then 0 else 51
open Classical in
theorem YM6 (a b:D35):(bif (!(Ty.beq T35 a b)) then some (51:Int) else some (0:Int))=some (if a=b then 0 else 51):=by
 by_cases h:a=b
 ·rw [(beqH a b).2 h,YEu,Yhu,Yku h]
 ·have:Ty.beq T35 a b=false:=by
   cases hb:Ty.beq T35 a b with
   | false=> rfl
   | true=> exact absurd ((beqH a b).1 hb) h
  rw [this,YFu,Ygu,Yju h]
theorem Ytm (h:D35):Yy5 h=some (Yw1 h):=by
 have p6:∀ w,Zk4 h h w=some (open Classical in if h=w then 0 else 51):=fun w=> by rw [Yxk,YM6]
 have p3:∀ w,Zh4 h h w=some (open Classical in if h=w then 0 else 51):=fun w=> by rw [Ygk,p6]
 have p4:∀ w,Zi4 h h w=some (open Classical in if h=w then 0 else 51):=fun w=> by rw [Ylk,p3]
 have fin:∀ w,YV1 (kd h)->w=Yv1 h->(some (open Classical in if h=w then 0 else 51):Option Int)=some (Yw1 h):=by
  rintro w hk rfl
  unfold Yw1
  by_cases e:h=Yv1 h
  ·rw [Yku e,Yku ⟨hk,e⟩]
  ·rw [Yju e,Yju (fun x=> e x.2)]
 have hz:((Ty.zero .str),((Ty.zero (.int .u32)),(Ty.zero (.arr 8 (.int .u16)))))=(([]:List UInt8),((0:Int),z8)):=rfl
 rw [Ysm,Y4k,hz]
 have one:∀ b:Bool,b=decide (kd h=0\/kd h=5)->Zf4 h h.1 b h (h.1,(([]:List UInt8),((0:Int),z8)))=some (Yw1 h):=by
  intro b hb
  rw [Y9k]
  by_cases c:kd h=0\/kd h=5
  ·rw [hb,Yeu c,Ygu,Yck,YM6]
   exact fin _ (by unfold YV1; omega) (by unfold Yv1 YU2; rw [Yku c]; try rfl)
  ·rw [hb,Yfu c,Yhu]
   by_cases d:kd h=2
   ·rw [show (h.1==2)=true from Y7v.2 d,Ygu,p3]
    exact fin _ (by unfold YV1; omega) (by unfold Yv1 YU2; rw [Yju c,Yku d]; try rfl)
   ·rw [show (h.1==2)=false from Yqu.2 d,Yhu]
    by_cases e:kd h=3
    ·rw [show (h.1==3)=true from Y7v.2 e,Ygu,p4]
     exact fin _ (by unfold YV1; omega) (by unfold Yv1 YU2; rw [Yju c,Yju d,Yku e]; try rfl)
    ·rw [show (h.1==3)=false from Yqu.2 e,Yhu]
     have five:∀ b:Bool,b=decide (kd h=1\/kd h=4)->Zj4 h b h (h.1,(([]:List UInt8),((0:Int),z8)))=some (Yw1 h):=by
      intro b hb
      rw [Yqk]
      by_cases g:kd h=1\/kd h=4
      ·rw [hb,Yeu g,Ygu,YDm,Yiu,YDk,p4]
       exact fin _ (by unfold YV1; omega) (by unfold Yv1 YU2; rw [Yju c,Yju d,Yju e]; try rfl)
      ·rw [hb,Yfu g,Yhu]
       unfold Yw1
       rw [Yju (fun x=> by have:=x.1; unfold YV1 at this; omega)]
     by_cases g:kd h=1
     ·rw [show (h.1==1)=true from Y7v.2 g,Ygu]
      exact five true (Yeu (.inl g)).symm
     ·rw [show (h.1==1)=false from Yqu.2 g,Yhu]
      refine five _ ?_
      by_cases f:kd h=4
      ·rw [Yeu (.inr f)]; exact Y7v.2 f
      ·rw [Yfu (fun x=> x.elim g f)]; exact Yqu.2 f
 by_cases c:kd h=0
 ·rw [show (h.1==0)=true from Y7v.2 c,Ygu]
  exact one true (Yeu (.inl c)).symm
 ·rw [show (h.1==0)=false from Yqu.2 c,Yhu]
  refine one _ ?_
  by_cases f:kd h=5
  ·rw [Yeu (.inr f)]; exact Y7v.2 f
  ·rw [Yfu (fun x=> by omega)]; exact Yqu.2 f
end Go.Abs
namespace Go.Abs
theorem Y5q (n:List UInt8):((Ye2 n).2≠0/\(Ye2 n).1=hnil)\/Ye2 n=(((2:Int),(([]:List UInt8),((ipOf n).1,z8))),0)\/(Y53 n=false/\Ye2 n=(((1:Int),(n,((0:Int),z8))),0)):=by
 unfold Ye2
 by_cases a:Y53 n=true
 ·rw [Yku a]
  by_cases c:(ipOf n).2≠0
  ·rw [Yku c]; exact .inl ⟨c,rfl⟩
  ·rw [Yju c]; exact .inr (.inl rfl)
 ·rw [Yju a]; exact .inr (.inr ⟨by simpa using a,rfl⟩)
theorem Ywt (s:List UInt8):((Yg3 s).2≠0/\(Yg3 s).1=hnil)\/
  ((YF (YM s)).2=0/\(YF (YM s)).1≠[]/\(YF (YM s)).1.any badB=false/\Yg3 s=Ye2 (YF (YM s)).1):=by
 unfold Yg3
 by_cases a:(YF (YM s)).2≠0
 ·rw [Yku a]; exact .inl ⟨a,rfl⟩
 rw [Yju a]
 by_cases b:(YF (YM s)).1=[]
 ·rw [Yku b]; exact .inl ⟨by simp,rfl⟩
 rw [Yju b]
 by_cases c:(YF (YM s)).1.any badB=true
 ·rw [Yku c]; exact .inl ⟨by simp,rfl⟩
 rw [Yju c]
 exact .inr ⟨by omega,b,by simpa using c,rfl⟩
theorem Yst (s:List UInt8):((YC4 s).2≠0/\(YC4 s).1=hnil)\/YC4 s=(((3:Int),(([]:List UInt8),((0:Int),(v6Of (Y52 s)).1))),0):=by
 unfold YC4
 by_cases a:s.getLast? ≠some 93
 ·rw [Yku a]; exact .inl ⟨by simp,rfl⟩
 rw [Yju a]
 by_cases b:s.length < 2
 ·rw [Yku b]; exact .inl ⟨by simp,rfl⟩
 rw [Yju b]
 by_cases c:(v6Of (Y52 s)).2≠0
 ·rw [Yku c]; exact .inl ⟨c,rfl⟩
 rw [Yju c]; exact .inr rfl
theorem YVr (s:List UInt8):((Ye3 s).2≠0/\(Ye3 s).1=hnil)\/(YB3 s=false/\(Y22 s).length<=65536/\Ye3 s=(((4:Int),(Y22 s,((0:Int),z8))),0)):=by
 unfold Ye3
 by_cases a:YB3 s=true
 ·rw [Yku a]; exact .inl ⟨by simp,rfl⟩
 rw [Yju a]
 by_cases b:65536 < (Y22 s).length
 ·rw [Yku b]; exact .inl ⟨by simp,rfl⟩
 rw [Yju b]; exact .inr ⟨by simpa using a,by omega,rfl⟩
theorem Ygs (s:List UInt8) (sp:Bool) (h:(Yj1 s sp).2≠0):(Yj1 s sp).1=hnil:=by
 unfold Yj1 at h ⊢
 by_cases a:65536 < s.length
 ·rw [Yku a]
 rw [Yju a] at h ⊢
 by_cases b:s.head? =some 91
 ·rw [Yku b] at h ⊢
  rcases Yst s with c | c
  ·exact c.2
  ·rw [c] at h; exact absurd rfl h
 rw [Yju b] at h ⊢
 by_cases d:sp=true
 ·rw [Yku d] at h ⊢
  rcases Ywt s with c | ⟨_,_,_,c⟩
  ·exact c.2
  ·rw [c] at h ⊢
   rcases Y5q (YF (YM s)).1 with c | c | ⟨_,c⟩
   ·exact c.2
   ·rw [c] at h; exact absurd rfl h
   ·rw [c] at h; exact absurd rfl h
 rw [Yju d] at h ⊢
 by_cases e:s=[]
 ·rw [Yku e] at h; exact absurd rfl h
 rw [Yju e] at h ⊢
 rcases YVr s with c | ⟨_,_,c⟩
 ·exact c.2
 ·rw [c] at h; exact absurd rfl h
end Go.Abs
namespace Go.Abs
end Go.Abs
namespace Go.Abs
end Go.Abs
namespace Go.Abs
end Go.Abs
namespace Go.Abs
def D:List UInt8->List Int
 | a::b::c::l=> if Y9 a=37/\0<=nib (Y9 b)/\0<=nib (Y9 c) then (nib (Y9 b)*16+nib (Y9 c))::D l else Y9 a::D (b::c::l)
 | [a,b]=> [Y9 a,Y9 b]
 | [a]=> [Y9 a]
 | []=> []
theorem D3 (a b c:UInt8) (l:List UInt8):D (a::b::c::l)=if Y9 a=37/\0<=nib (Y9 b)/\0<=nib (Y9 c) then (nib (Y9 b)*16+nib (Y9 c))::D l else Y9 a::D (b::c::l):=by rw [D]
end Go.Abs
namespace Go.Abs
theorem Y7m (X:List UInt8) (c:UInt8) (Z:List UInt8):bat (X++c::Z) X.length=Y9 c:=by
 unfold bat
 rw [Yvu,Ycv (Nat.le_refl _),Nat.sub_self]; rfl
end Go.Abs
namespace Go.Abs
def hasB (x:List UInt8) (c:Int):Bool:=x.any fun b=> Y9 b==c
theorem Ygg (x:List UInt8) (c:Int) (hx:x.length<=1073741824):∀ (k i:Nat),i+k=x.length->Ze1 x c (i:Int)=some (hasB (x.drop i) c)
 | 0,i,hk=> by
  have:i=x.length:=by omega
  subst this
  rw [YH6]; simp [hasB]
 | k+1,i,hk=> by
  have hi:i < x.length:=by omega
  have hw:IntKind.i64.wrap ((i:Int)+1)=((i+1:Nat):Int):=by rw [w64 (by omega) (by omega)]; omega
  have hget:x.getD (Int.toNat (i:Int)) 0=x[i]:=by
   rw [Ymu,Yvu,Ywu hi]; rfl
  rw [YH6]
  simp only [Yg,hi,decide_true,Ygu,Yj,hget,hw]
  rw [Yru hi,Ygg x c hx k (i+1) (by omega)]
  show (bif (Y9 x[i]==c) then some true else some (hasB (x.drop (i+1)) c))=some ((Y9 x[i]==c)||hasB (x.drop (i+1)) c)
  cases (Y9 x[i]==c) <;> rfl
theorem YFn (x:List UInt8) (c:Int) (hx:x.length<=1073741824):YD5 (x,c)=some (hasB x c):=by
 rw [YFe,YTc]
 exact Ygg x c hx x.length 0 (by omega)
end Go.Abs
namespace Go.Abs
def Yu2 (s:List UInt8):List (List UInt8):=if s=[] then [] else if (YQ s 46).getD ((YQ s 46).length - 1) []=[] then (YQ s 46).take ((YQ s 46).length - 1) else YQ s 46
theorem Yai (s:List UInt8):1<=(YQ s 46).length:=Yq6 46 s []
theorem YHg (y:List (List UInt8)) (h1:1<=y.length) (h2:y.length<=2000000000):
  (bif (Ya (IntKind.wrap IntKind.i64 ((((List.length y):Nat):Int) - (1:Int))) (List.length y)) then
     bif ((List.getD y (Int.toNat (IntKind.wrap IntKind.i64 ((((List.length y):Nat):Int) - (1:Int)))) (Ty.zero .str))==([]:List UInt8)) then
      bif (Yi none (some (IntKind.wrap IntKind.i64 ((((List.length y):Nat):Int) - (1:Int)))) (List.length y)) then
       some (List.take (Option.getD (Option.map (Int.toNat) (some (IntKind.wrap IntKind.i64 ((((List.length y):Nat):Int) - (1:Int))))) (List.length y)) y)
      else
       none
     else
      some y
    else
     none)=some (if y.getD (y.length - 1) []=[] then y.take (y.length - 1) else y):=by
 have hw:IntKind.i64.wrap (((List.length y:Nat):Int) - 1)=((y.length - 1:Nat):Int):=by rw [w64 (by omega) (by omega)]; omega
 rw [hw,Yj,Yeu (by omega),Ygu,Ymu]
 have hc:Yi none (some ((y.length - 1:Nat):Int)) y.length=true:=by simp [Yi]
 show (bif (y.getD (y.length - 1) []==([]:List UInt8)) then _ else _)=_
 by_cases c:y.getD (y.length - 1) []=[]
 ·rw [Yku c,show (y.getD (y.length - 1) []==([]:List UInt8))=true from Y7v.2 c,Ygu,hc,Ygu]
  rfl
 ·rw [Yju c,show (y.getD (y.length - 1) []==([]:List UInt8))=false from Yqu.2 c,Yhu]
theorem YBm (s:List UInt8) (hs:s.length<=1073741823):Ys9 s=some (Yu2 s):=by
 have hl:=Yh3 46 s []
 have hl:(YQ s 46).length<=s.length+1:=hl
 have hp:=Yai s
 rw [YAm,Yyl]
 unfold Yu2
 by_cases c:s=[]
 ·rw [Yku c,show (s==([]:List UInt8))=true from Y7v.2 c,Ygu]
 ·rw [Yju c,show (s==([]:List UInt8))=false from Yqu.2 c,Yhu,YY6 s 46 (by omega),Yiu]
  exact YHg _ hp (by omega)
theorem YIg (s:List UInt8):(Yu2 s).length<=s.length+1:=by
 have hl:=Yh3 46 s []
 have hl:(YQ s 46).length<=s.length+1:=hl
 unfold Yu2
 split
 ·simp
 ·split
  ·rw [Yyu]; omega
  ·exact hl
end Go.Abs
