/- Part L7 of the proof: see the last text of the claim. No condition of its own. -/
import Derived.Test.YtddagflhafkbnaaGreatDoorQ3
import Derived.Test.YtddagflhafkbnaaGreatDoorK8
import Derived.Test.YtddagflhafkbnaaGreatDoorL2
set_option linter.all false
set_option autoImplicit false
namespace Go.Abs
theorem tz16:Yqe 16=some 4:=Yt5 E (k:=100) (by kernel_rfl)
end Go.Abs
namespace Go.Abs
def digs36:List UInt8:=[48,49,50,51,52,53,54,55,56,57,97,98,99,100,101,102,103,104,105,106,107,108,109,110,111,112,113,114,115,116,117,118,119,120,121,122]
def dig (n:Int):UInt8:=digs36.getD n.toNat 0
def hexT (n:Int):List UInt8:=
 if n < 16 then [dig n] else if n < 256 then [dig (n / 16),dig (n % 16)] else if n < 4096 then [dig (n / 256),dig (n / 16 % 16),dig (n % 16)]
 else [dig (n / 4096),dig (n / 256 % 16),dig (n / 16 % 16),dig (n % 16)]
theorem Y5g:(List.range 16).all (fun k=> nib (Y8 (dig (k:Int)))==(k:Int)&&(dig (k:Int) !=58&&(dig (k:Int) !=46&&UInt8.ofNat (Y8 (dig (k:Int))).toNat==dig (k:Int))))=true:=by kernel_rfl
theorem Y6g (n:Int) (h0:0<=n) (h1:n < 16):nib (Y8 (dig n))=n/\dig n≠58/\dig n≠46:=by
 obtain ⟨k,rfl⟩:=Int.eq_ofNat_of_zero_le h0
 have:=List.all_eq_true.1 Y5g k (List.mem_range.2 (by omega))
 simp only [Ycu,beq_iff_eq,bne_iff_ne] at this
 exact ⟨this.1,this.2.1,this.2.2.1⟩
theorem Y7m {u:Int} (h0:0<=u) (h1:u < 65536):bits Go.BinOp.and IntKind.u64 u 15=u % 16:=by
 obtain ⟨m,rfl⟩:=Int.eq_ofNat_of_zero_le h0
 have e1:(BitVec.ofInt 64 (m:Int)).toNat=m:=by
  rw [BitVec.toNat_ofInt]; omega
 have e2:(BitVec.ofInt 64 (15:Int)).toNat=2 ^ 4 - 1:=by
  rw [BitVec.toNat_ofInt]; omega
 have e:(BitVec.ofInt 64 (m:Int)&&&BitVec.ofInt 64 (15:Int)).toNat=m % 16:=by
  rw [BitVec.toNat_and,e1,e2,Nat.and_two_pow_sub_one_eq_mod]
 show IntKind.u64.wrap (((BitVec.ofInt 64 (m:Int)&&&BitVec.ofInt 64 (15:Int)).toNat:Nat):Int)=_
 rw [e,wu64 (by omega) (by omega)]
 omega
theorem shr4 (u:Int):shr IntKind.u64 u 4=u / 16:=by
 show u.fdiv (2 ^ (min 4 64))=_
 rw [Int.fdiv_eq_ediv_of_nonneg _ (by decide)]
 rfl
theorem Yds (x:List Int) (u:Int) (t:List UInt8) (i:Nat) (b r:List Int) (hi:i<=65) (hb:b.length=65):Zl7 x u 16 false false t (i:Int) b r=some (r,Ym (b.drop i)):=by
 rw [YYk,Y8u,Yd1 hi,Y7u]
 congr 3
 show List.drop (Int.toNat (i:Int)) (List.take 65 b)=_
 rw [Ydu,List.take_of_length_le (by omega)]
theorem Y7g:(36:Nat)=([(48:UInt8),(49:UInt8),(50:UInt8),(51:UInt8),(52:UInt8),(53:UInt8),(54:UInt8),(55:UInt8),(56:UInt8),(57:UInt8),(97:UInt8),(98:UInt8),(99:UInt8),(100:UInt8),(101:UInt8),(102:UInt8),(103:UInt8),(104:UInt8),(105:UInt8),(106:UInt8),(107:UInt8),(108:UInt8),(109:UInt8),(110:UInt8),(111:UInt8),(112:UInt8),(113:UInt8),(114:UInt8),(115:UInt8),(116:UInt8),(117:UInt8),(118:UInt8),(119:UInt8),(120:UInt8),(121:UInt8),(122:UInt8)]:List UInt8).length:=rfl
theorem YPg (n:Int) (h0:0<=n) (h1:n < 36):Ya n 36=true:=by
 unfold Ya; rw [Y5u h0,Y5u (by omega)]; rfl
theorem YQg (i:Nat) (h:i < 65):Ya (i:Int) 65=true:=by rw [Yj]; exact Y5u h
theorem Y9b (x:List Int) (u:Int) (t:List UInt8) (i:Nat) (b r:List Int) (h0:16<=u) (h1:u < 65536) (hi:i+1<=65):
  Zi7 x u 16 false false t ((i+1:Nat):Int) 4 16 15 b r=Zi7 x (u / 16) 16 false false t (i:Int) 4 16 15 (b.set i (Y8 (dig (u % 16)))) r:=by
 have hw:IntKind.i64.wrap (((i+1:Nat):Int) - 1)=(i:Int):=by rw [w64 (by omega) (by omega)]; omega
 rw [Yad,show decide (u>=16)=true from Y5u h0,Y7u,Y7m (by omega) h1,<-Y7g,YPg _ (by omega) (by omega),Y7u,hw,YQg i (by omega),Y7u]
 rw [show decide ((0:Int)<=4)=true from rfl,Y7u,shr4,Ydu]
 rfl
theorem Y88 (x:List Int) (u:Int) (t:List UInt8) (i:Nat) (b r:List Int) (h0:0<=u) (h1:u < 16) (hi:i+1<=65) (hb:b.length=65):
  Zi7 x u 16 false false t ((i+1:Nat):Int) 4 16 15 b r=some (r,Ym (Y8 (dig u)::b.drop (i+1))):=by
 have hw:IntKind.i64.wrap (((i+1:Nat):Int) - 1)=(i:Int):=by rw [w64 (by omega) (by omega)]; omega
 rw [Yad,show decide (u>=16)=false from Y6u (by omega),Y8u,<-Y7g,YPg _ h0 (by omega),Y7u,hw,YQg i (by omega),Y7u,Ydu]
 rw [YTk,Y8u,Yds _ _ _ _ _ _ (by omega) (by simpa using hb)]
 congr 3
 rw [Yiu (by rw [List.length_set]; omega),List.getElem_set_self,List.drop_set_of_lt (by omega)]
 rfl
theorem Yp5 (b:List Int) (i:Nat) (v:Int) (h:i < b.length):(b.set i v).drop i=v::b.drop (i+1):=by
 rw [Yiu (by rw [List.length_set]; omega),List.getElem_set_self,List.drop_set_of_lt (by omega)]
theorem YR2 (n:Int) (l:List Int) (h0:0<=n) (h1:n < 16):Ym (Y8 (dig n)::l)=dig n::Ym l:=by
 obtain ⟨k,rfl⟩:=Int.eq_ofNat_of_zero_le h0
 have:=List.all_eq_true.1 Y5g k (List.mem_range.2 (by omega))
 simp only [Ycu,beq_iff_eq] at this
 show UInt8.ofNat (Y8 (dig (k:Int))).toNat::Ym l=_
 rw [this.2.2.2]
theorem YNq (u:Int) (h0:0<=u) (h1:u < 65536):Y1a (u,16)=some (hexT u):=by
 rw [Y2p,Ylk,YZm,Ypk,show ((16:Int)==10)=false from rfl,Y8u,Y2n,Ytk]
 rw [show decide ((16:Int) < 2)=false from rfl,Y8u,show ((16:Int)==10)=false from rfl,Y8u,show decide ((16:Int) > 36)=false from rfl,Y8u]
 rw [YBk,Y8u,YFk,Y3n,Y3l]
 rw [show ((bits Go.BinOp.and IntKind.i64 16 (IntKind.i64.wrap ((16:Int) - 1)))==(0:Int))=true from by kernel_rfl]
 simp only [Y9u,Y7u]
 rw [show IntKind.u64.wrap (16:Int)=16 from by kernel_rfl,show IntKind.u64.wrap ((16:Int) - 1)=15 from by kernel_rfl,tz16]
 simp only [Y9u]
 rw [show IntKind.u64.wrap (4:Int)=4 from by kernel_rfl]
 have hz:(Ty.zero (.arr 65 (.int .u8)):List Int).length=65:=rfl
 generalize (Ty.zero (.arr 65 (.int .u8)):List Int)=z at hz
 unfold hexT
 have fin:∀ {a:Option (List Int×List UInt8)} {l:List UInt8},a=some ([],l)->((a.bind fun y0=> some y0.2).bind fun y0=> some y0)=some l:=by
  intro a l h; rw [h]; rfl
 apply fin
 by_cases c1:u < 16
 ·rw [Ybu c1]
  have:=Y88 [] u [] 64 z [] h0 c1 (by omega) hz
  rw [show ((64+1:Nat):Int)=65 from rfl] at this
  rw [this,YR2 _ _ h0 c1,List.drop_eq_nil_of_le (by omega)]; rfl
 ·rw [Yau c1]
  have s1:=Y9b [] u [] 64 z [] (by omega) h1 (by omega)
  rw [show ((64+1:Nat):Int)=65 from rfl] at s1
  rw [s1]
  by_cases c2:u < 256
  ·rw [Ybu c2,show (64:Nat)=63+1 from rfl,Y88 [] (u / 16) [] 63 _ [] (by omega) (by omega) (by omega) (by simpa using hz),Yp5 _ _ _ (by omega),YR2 _ _ (by omega) (by omega),YR2 _ _ (by omega) (by omega),List.drop_eq_nil_of_le (by omega)]; rfl
  ·rw [Yau c2,show (64:Nat)=63+1 from rfl,Y9b [] (u / 16) [] 63 _ [] (by omega) (by omega) (by omega)]
   by_cases c3:u < 4096
   ·rw [Ybu c3,show (63:Nat)=62+1 from rfl,Y88 [] (u / 16 / 16) [] 62 _ [] (by omega) (by omega) (by omega) (by simpa using hz),Yp5 _ _ _ (by simp; omega),Yp5 _ _ _ (by omega),
     YR2 _ _ (by omega) (by omega),YR2 _ _ (by omega) (by omega),YR2 _ _ (by omega) (by omega),List.drop_eq_nil_of_le (by omega),show u / 16 / 16=u / 256 from by omega]; rfl
   ·rw [Yau c3,show (63:Nat)=62+1 from rfl,Y9b [] (u / 16 / 16) [] 62 _ [] (by omega) (by omega) (by omega),show (62:Nat)=61+1 from rfl,Y88 [] (u / 16 / 16 / 16) [] 61 _ [] (by omega) (by omega) (by omega) (by simpa using hz),
     Yp5 _ _ _ (by simp; omega),Yp5 _ _ _ (by simp; omega),Yp5 _ _ _ (by omega),
     YR2 _ _ (by omega) (by omega),YR2 _ _ (by omega) (by omega),YR2 _ _ (by omega) (by omega),YR2 _ _ (by omega) (by omega),List.drop_eq_nil_of_le (by omega),
     show u / 16 / 16 / 16=u / 4096 from by omega,show u / 16 / 16=u / 256 from by omega]; rfl
theorem YL7 (u:Int) (h0:0<=u) (h1:u < 65536):Y42 (hexT u)=some u/\(∀ b∈hexT u,b≠58/\b≠46)/\hexT u≠[]/\(hexT u).length<=4:=by
 have num:∀ (n d:Int) (l:List UInt8),0<=n->n < 65536->0<=d->d < 16->YK 16 n (dig d::l)=YK 16 (n*16+d) l:=by
  intro n d l a b c e
  obtain ⟨f,_⟩:=Y6g d c e
  rw [YK,f,Yau (by omega),Ybu (by omega)]
 have ne:∀ d:Int,0<=d->d < 16->dig d≠58/\dig d≠46:=fun d a b=> (Y6g d a b).2
 unfold hexT Y42
 by_cases c1:u < 16
 ·rw [Ybu c1]
  refine ⟨?_,fun b hb=> ?_,by simp,by simp⟩
  ·rw [Yau (by simp),num 0 u [] (by omega) (by omega) h0 c1,YK,Yau (by omega),w16 (by omega) (by omega)]; simp
  ·simp only [YEu] at hb; subst hb; exact ne u h0 c1
 ·rw [Yau c1]
  by_cases c2:u < 256
  ·rw [Ybu c2]
   refine ⟨?_,fun b hb=> ?_,by simp,by simp⟩
   ·rw [Yau (by simp),num 0 _ _ (by omega) (by omega) (by omega) (by omega),num _ _ _ (by omega) (by omega) (by omega) (by omega),YK,Yau (by omega),w16 (by omega) (by omega)]
    congr 1; omega
   ·simp only [Ylu,List.not_mem_nil,or_false] at hb
    rcases hb with rfl | rfl
    ·exact ne _ (by omega) (by omega)
    ·exact ne _ (by omega) (by omega)
  ·rw [Yau c2]
   by_cases c3:u < 4096
   ·rw [Ybu c3]
    refine ⟨?_,fun b hb=> ?_,by simp,by simp⟩
    ·rw [Yau (by simp),num 0 _ _ (by omega) (by omega) (by omega) (by omega),num _ _ _ (by omega) (by omega) (by omega) (by omega),num _ _ _ (by omega) (by omega) (by omega) (by omega),YK,Yau (by omega),w16 (by omega) (by omega)]
     congr 1; omega
    ·simp only [Ylu,List.not_mem_nil,or_false] at hb
     rcases hb with rfl | rfl | rfl
     ·exact ne _ (by omega) (by omega)
     ·exact ne _ (by omega) (by omega)
     ·exact ne _ (by omega) (by omega)
   ·rw [Yau c3]
    refine ⟨?_,fun b hb=> ?_,by simp,by simp⟩
    ·rw [Yau (by simp),num 0 _ _ (by omega) (by omega) (by omega) (by omega),num _ _ _ (by omega) (by omega) (by omega) (by omega),num _ _ _ (by omega) (by omega) (by omega) (by omega),num _ _ _ (by omega) (by omega) (by omega) (by omega),YK,Yau (by omega),w16 (by omega) (by omega)]
     congr 1; omega
    ·simp only [Ylu,List.not_mem_nil,or_false] at hb
     rcases hb with rfl | rfl | rfl | rfl
     ·exact ne _ (by omega) (by omega)
     ·exact ne _ (by omega) (by omega)
     ·exact ne _ (by omega) (by omega)
     ·exact ne _ (by omega) (by omega)
end Go.Abs
namespace Go.Abs
def YV1 (sep:UInt8):List (List UInt8)->List UInt8
 | []=> []
 | [x]=> x
 | x::y::l=> x++sep::YV1 sep (y::l)
theorem YMa (sep:UInt8):∀ l:List (List UInt8),Lib.join l [sep]=YV1 sep l
 | []=> rfl
 | [x]=> Lib.join_one x _
 | x::y::l=> by
  rw [Lib.join_cons,YV1,<-YMa sep (y::l),Lib.join_cons]
  simp [Lib.joinTail]
def Yp1 (l:List Int):Prop:=∀ x∈l,0<=x/\x < 65536
def told (l:List Int):List UInt8:=YV1 58 (l.map hexT)
theorem Ys5 (l:List Int) (h:Yp1 l):(told l).length<=5*l.length:=by
 have:∀ l:List Int,Yp1 l->(YV1 58 (l.map hexT)).length<=5*l.length:=by
  intro l
  induction l with
  | nil=> intro _; simp [YV1]
  | cons x l ih=>
   intro h
   have hx:=(YL7 x (h x (by simp)).1 (h x (by simp)).2).2.2.2
   have ih:=ih (fun y hy=> h y (by simp [hy]))
   cases l with
   | nil=> simp only [Ysu,List.map_nil,YV1,Yeu,Yju]; omega
   | cons y l=>
    simp only [Ysu,YV1,Yfu,Yeu] at ih ⊢
    omega
 exact this l h
theorem Ypi (v l:List Int) (h:Yp1 l) (h8:l.length<=8):∀ (k i:Nat) (r:List (List UInt8)),i+k=l.length->r=(l.take i).map hexT->
  Zc7 v l (l.length:Int) (i:Int) r=some (told l)
 | 0,i,r,hk,hr=> by
  have:i=l.length:=by omega
  subst this
  rw [YTc,Yg,Y6u (Yxu _),Y8u,Y6a,Y93]
  have hj:Lib.join r [58]=told l:=by
   rw [YMa,hr,List.take_length]; rfl
  have hlr:r.length<=8:=by rw [hr]; simp; omega
  rw [show Lib.join r ([58]:List UInt8)=told l from hj]
  have:=Ys5 l h
  rw [show decide (r.length<=140737488355328)=true from Y5u (by omega),show decide ((told l).length<=140737488355328)=true from Y5u (by omega)]
  rfl
 | k+1,i,r,hk,hr=> by
  have hi:i < l.length:=by omega
  have hget:List.getD l (Int.toNat (i:Int)) (Ty.zero (.int .u16))=l[i]:=by
   rw [Ydu,Ymu,Ynu hi]; rfl
  have hw:IntKind.i64.wrap ((i:Int)+1)=((i+1:Nat):Int):=by rw [w64 (by omega) (by omega)]; omega
  have hx:=h l[i] (List.getElem_mem hi)
  have hlr:r.length<=8:=by rw [hr]; simp; omega
  rw [YTc,Yg,Y5u hi,Y7u,Yj,Y5u hi,Y7u,hget,wu64 hx.1 (by omega),YNq _ hx.1 hx.2,Y9u,hw]
  rw [show decide (r.length+[hexT l[i]].length<=lim)=true from Y5u (by simp [lim]; omega),Y7u]
  exact Ypi v l h h8 k (i+1) _ (by omega) (by rw [hr,List.take_succ_eq_append_getElem hi,List.map_append]; rfl)
theorem YHb (l:List Int) (h:Yp1 l) (h8:l.length<=8):YA5 l=some (told l):=by
 rw [YVm,Yfk]
 exact Ypi l l h h8 l.length 0 [] (by omega) rfl
end Go.Abs
namespace Go.Abs
def Y19 (v:List Int) (at' n:Nat):Prop:=n=1\/(2<=n/\at'+n<=8/\∀ k,k < n->v[at'+k]? =some 0)
theorem YCq (v:List Int) (h8:v.length=8) (i:Nat) (hi:i < 8):v[i]? =some (List.getD v i (Ty.zero (.int .u16))):=by
 rw [Ymu,Ynu (by omega)]; rfl
def ROut (v:List Int) (o:Option (Int×Int)):Prop:=∃ (a n:Nat),o=some ((a:Int),(n:Int))/\(n=0\/(2<=n/\a+n<=8/\∀ k,k < n->v[a+k]? =some 0))
theorem YNs (x v:List Int) (h8:v.length=8) (i best most:Nat) (hi:i < 8) (hbm:Y19 v best most) (next:∀ b m:Nat,Y19 v b m->ROut v (Z97 x (b:Int) (m:Int) ((i+1:Nat):Int) v)):
  ∀ (k n:Nat),i+n+k=8->(∀ j,j < n->v[i+j]? =some 0)->ROut v (Za7 x (best:Int) (most:Int) (i:Int) (n:Int) (i:Int) v):=by
 have hw1:IntKind.i64.wrap ((i:Int)+1)=((i+1:Nat):Int):=by rw [w64 (by omega) (by omega)]; omega
 have stop:∀ n:Nat,i+n<=8->(∀ j,j < n->v[i+j]? =some 0)->most<=8->ROut v (bif decide ((n:Int) > (most:Int)) then Z97 x (i:Int) (n:Int) ((i+1:Nat):Int) v else Z97 x (best:Int) (most:Int) ((i+1:Nat):Int) v):=by
  intro n hn hz hm
  by_cases c:most < n
  ·rw [show decide ((n:Int) > (most:Int))=true from Y5u (by omega),Y7u]
   refine next i n (.inr ⟨?_,hn,hz⟩)
   rcases hbm with h | h
   ·omega
   ·omega
  ·rw [show decide ((n:Int) > (most:Int))=false from Y6u (by omega),Y8u]
   exact next best most hbm
 have hm:most<=8:=by rcases hbm with h | h <;> omega
 intro k
 induction k with
 | zero=>
  intro n hk hz
  have hw:IntKind.i64.wrap ((i:Int)+(n:Int))=((i+n:Nat):Int):=by rw [w64 (by omega) (by omega)]; omega
  rw [Yv6,hw,hw1,show decide (((i+n:Nat):Int) < 8)=false from Y6u (by omega),Y8u]
  exact stop n (by omega) hz hm
 | succ k ih=>
  intro n hk hz
  have hw:IntKind.i64.wrap ((i:Int)+(n:Int))=((i+n:Nat):Int):=by rw [w64 (by omega) (by omega)]; omega
  have hwn:IntKind.i64.wrap ((n:Int)+1)=((n+1:Nat):Int):=by rw [w64 (by omega) (by omega)]; omega
  rw [Yv6,hw,hw1,hwn,show decide (((i+n:Nat):Int) < 8)=true from Y5u (by omega),Y7u,Yj,Y5u (by omega),Y7u,Ydu]
  by_cases c:List.getD v (i+n) (Ty.zero (.int .u16))=(0:Int)
  ·rw [show (List.getD v (i+n) (Ty.zero (.int .u16))==(0:Int))=true from beq_iff_eq.2 c,Y7u]
   refine ih (n+1) (by omega) (fun j hj=> ?_)
   rcases Nat.lt_or_ge j n with h | h
   ·exact hz j h
   ·have:j=n:=by omega
    subst this
    rw [YCq v h8 _ (by omega),c]
  ·rw [show (List.getD v (i+n) (Ty.zero (.int .u16))==(0:Int))=false from Yhu.2 c,Y8u]
   exact stop n (by omega) hz hm
theorem Y1i (x v:List Int) (h8:v.length=8):∀ (k i best most:Nat),i+k=8->Y19 v best most->ROut v (Z97 x (best:Int) (most:Int) (i:Int) v)
 | 0,i,best,most,hk,hbm=> by
  rw [Yu6,show decide ((i:Int) < 8)=false from Y6u (by omega),Y8u]
  by_cases c:most=1
  ·subst c
   rw [show (((1:Nat):Int)==1)=true from rfl,Y7u]
   exact ⟨0,0,rfl,.inl rfl⟩
  ·rw [show ((most:Int)==1)=false from Yhu.2 (by omega),Y8u]
   exact ⟨best,most,rfl,.inr (hbm.resolve_left c)⟩
 | k+1,i,best,most,hk,hbm=> by
  rw [Yu6,show decide ((i:Int) < 8)=true from Y5u (by omega),Y7u]
  have:=YNs x v h8 i best most (by omega) hbm (fun b m hb=> Y1i x v h8 k (i+1) b m (by omega) hb) (8 - i) 0 (by omega) (fun j hj=> absurd hj (Nat.not_lt_zero j))
  exact this
theorem YYs (v:List Int) (h8:v.length=8):ROut v (YE4 v):=by
 rw [Yye,YJc]
 exact Y1i v v h8 8 0 0 1 (by omega) (.inl rfl)
theorem YDa {v:List Int} (h:Yp1 v) (n:Nat):Yp1 (v.take n):=fun x hx=> h x (List.mem_of_mem_take hx)
theorem YCa {v:List Int} (h:Yp1 v) (n:Nat):Yp1 (v.drop n):=fun x hx=> h x (List.mem_of_mem_drop hx)
end Go.Abs
namespace Go.Abs
def Y23 (u:Nat):List UInt8:=
 if u < 10 then [UInt8.ofNat (48+u)] else if u < 100 then [UInt8.ofNat (48+u / 10),UInt8.ofNat (48+u % 10)] else [UInt8.ofNat (48+u / 100),UInt8.ofNat (48+u / 10 % 10),UInt8.ofNat (48+u % 10)]
theorem YYg (u:Nat) (h:u < 1000):Lib.itoa (u:Int)=Y23 u:=by
 unfold Lib.itoa Y23
 rw [Yau (by omega),Ydu]
 by_cases h1:u < 10
 ·rw [Ybu h1,Lib.decDigits_one h1]
 ·rw [Yau h1]
  by_cases h2:u < 100
  ·rw [Ybu h2,Lib.decDigits_two h1 h2]
  ·rw [Yau h2,Lib.decDigits,dif_neg h1,Lib.decDigits_two (by omega) (by omega)]
   rw [show u / 10 / 10=u / 100 from by omega]; rfl
theorem Y6r:(List.range 256).all (fun u=> (Yj1 (Y23 u)==(u:Int))&&((Y23 u).all YB&&((Y23 u !=[])&&((Y23 u).all (fun b=> b !=46)&&(Yv3 (Y23 u)&&decide ((Y23 u).length<=3))))))=true:=by kernel_rfl
theorem YV5 (n:Int) (h0:0<=n) (h1:n < 256):Yj1 (Lib.itoa n)=n/\Lib.itoa n≠[]/\(∀ b∈Lib.itoa n,b≠46)/\Yv3 (Lib.itoa n)=true/\(Lib.itoa n).length<=3:=by
 obtain ⟨u,rfl⟩:=Int.eq_ofNat_of_zero_le h0
 have:=List.all_eq_true.1 Y6r u (List.mem_range.2 (by omega))
 simp only [Ycu,beq_iff_eq,bne_iff_ne,List.all_eq_true,You] at this
 rw [YYg u (by omega)]
 exact ⟨this.1,this.2.2.1,this.2.2.2.1,this.2.2.2.2.1,this.2.2.2.2.2⟩
theorem Yz6 {u:Int} (h0:0<=u) (h1:u < 4294967296):bits Go.BinOp.and IntKind.u32 u 255=u % 256:=by
 obtain ⟨m,rfl⟩:=Int.eq_ofNat_of_zero_le h0
 have e1:(BitVec.ofInt 32 (m:Int)).toNat=m:=by
  rw [BitVec.toNat_ofInt]; omega
 have e2:(BitVec.ofInt 32 (255:Int)).toNat=2 ^ 8 - 1:=by
  rw [BitVec.toNat_ofInt]; omega
 have e:(BitVec.ofInt 32 (m:Int)&&&BitVec.ofInt 32 (255:Int)).toNat=m % 256:=by
  rw [BitVec.toNat_and,e1,e2,Nat.and_two_pow_sub_one_eq_mod]
 show IntKind.u32.wrap (((BitVec.ofInt 32 (m:Int)&&&BitVec.ofInt 32 (255:Int)).toNat:Nat):Int)=_
 rw [e]
 change (if (false&&decide (((m % 256:Nat):Int) % (4294967296:Int)>=(2147483648:Int)))=true then ((m % 256:Nat):Int) % (4294967296:Int) - (4294967296:Int) else ((m % 256:Nat):Int) % (4294967296:Int))=_
 rw [Yau (by simp)]; omega
theorem Yy8 (u:Int) (k:Nat) (hk:k<=32):shr IntKind.u32 u (k:Int)=u / 2 ^ k:=by
 show u.fdiv (2 ^ (min (Int.toNat (k:Int)) 32))=_
 rw [Ydu,Nat.min_eq_left hk,Int.fdiv_eq_ediv_of_nonneg _ (Int.le_of_lt (Int.pow_pos (by omega)))]
theorem Y7r (n:Int) (h0:0<=n) (h1:n < 256):Y2a n=some (Lib.itoa n):=by
 rw [Y3p,YWj,Y0n,Yr4,Y5u (by omega),Y5u (by omega)]; rfl
theorem YE7 (v:Int) (hv0:0<=v) (hv1:v < 4294967296) (i:Nat) (r:List (List UInt8)) (hi:i<=3) (hr:r.length<=4):
  Z57 v (i:Int) r=Z57 v ((i:Int) - 1) (r++[Lib.itoa (v / 2 ^ (8*i) % 256)]):=by
 have hw:IntKind.i64.wrap ((8:Int)*(i:Int))=((8*i:Nat):Int):=by rw [w64 (by omega) (by omega)]; omega
 have hw2:IntKind.i64.wrap ((i:Int) - 1)=(i:Int) - 1:=w64 (by omega) (by omega)
 have hpos:(0:Int) < 2 ^ (8*i):=Int.pow_pos (by omega)
 have hd0:0<=v / 2 ^ (8*i):=Int.ediv_nonneg hv0 (Int.le_of_lt hpos)
 have hd1:v / 2 ^ (8*i)<=v:=Int.ediv_le_self _ hv0
 rw [YAc,show decide ((i:Int)>=0)=true from Y5u (by omega),Y7u,hw,show decide ((0:Int)<=((8*i:Nat):Int))=true from Y5u (by omega),Y7u,hw2]
 rw [Yy8 v (8*i) (by omega),Yz6 hd0 (by omega),w64 (by omega) (by omega),Y7r _ (by omega) (by omega),Y9u]
 rw [show decide (r.length+[Lib.itoa (v / 2 ^ (8*i) % 256)].length<=lim)=true from Y5u (by simp [lim]; omega),Y7u]
def YN2 (v:Int):List Int:=[v / 16777216 % 256,v / 65536 % 256,v / 256 % 256,v % 256]
theorem Yyq (v:Int) (hv0:0<=v) (hv1:v < 4294967296):Ys9 v=some (YV1 46 ((YN2 v).map Lib.itoa)):=by
 rw [YOm,YGj]
 have s3:=YE7 v hv0 hv1 3 [] (by omega) (by simp)
 have s2:=YE7 v hv0 hv1 2 [Lib.itoa (v / 2 ^ (8*3) % 256)] (by omega) (by simp)
 have s1:=YE7 v hv0 hv1 1 [Lib.itoa (v / 2 ^ (8*3) % 256),Lib.itoa (v / 2 ^ (8*2) % 256)] (by omega) (by simp)
 have s0:=YE7 v hv0 hv1 0 [Lib.itoa (v / 2 ^ (8*3) % 256),Lib.itoa (v / 2 ^ (8*2) % 256),Lib.itoa (v / 2 ^ (8*1) % 256)] (by omega) (by simp)
 rw [show ((3:Nat):Int)=3 from rfl] at s3
 rw [s3,show (3:Int) - 1=((2:Nat):Int) from rfl,Yzu,s2,show ((2:Nat):Int) - 1=((1:Nat):Int) from rfl]
 simp only [List.cons_append,Yzu]
 rw [s1,show ((1:Nat):Int) - 1=((0:Nat):Int) from rfl]
 simp only [List.cons_append,Yzu]
 rw [s0,show ((0:Nat):Int) - 1=-1 from rfl]
 simp only [List.cons_append,Yzu]
 rw [YAc,show decide ((-1:Int)>=0)=false from rfl,Y8u,Y6a,Y93,YMa]
 have e:[Lib.itoa (v / 2 ^ (8*3) % 256),Lib.itoa (v / 2 ^ (8*2) % 256),Lib.itoa (v / 2 ^ (8*1) % 256),Lib.itoa (v / 2 ^ (8*0) % 256)]=(YN2 v).map Lib.itoa:=by
  simp [YN2]
 rw [e]
 have l (n:Int) (a:0<=n) (b:n < 256):=(YV5 n a b).2.2.2.2
 have l3:=l (v / 16777216 % 256) (by omega) (by omega)
 have l2:=l (v / 65536 % 256) (by omega) (by omega)
 have l1:=l (v / 256 % 256) (by omega) (by omega)
 have l0:=l (v % 256) (by omega) (by omega)
 have hl:(YV1 46 ((YN2 v).map Lib.itoa)).length<=15:=by
  simp only [YN2,Ysu,List.map_nil,YV1,Yfu,Yeu]; omega
 rw [show decide (((YN2 v).map Lib.itoa).length<=140737488355328)=true from Y5u (by simp [YN2]),show decide ((YV1 46 ((YN2 v).map Lib.itoa)).length<=140737488355328)=true from Y5u (by omega)]
 rfl
end Go.Abs
namespace Go.Abs
end Go.Abs
