/- Part L4 of the proof: see the last text of the claim. No condition of its own. -/
import Derived.Test.YtddagflhafkbnaaGreatDoorL3
import Derived.Test.YtddagflhafkbnaaGreatDoorK8
set_option linter.all false
set_option autoImplicit false
namespace Go.Abs
def caps:List UInt8:=[48,49,50,51,52,53,54,55,56,57,65,66,67,68,69,70]
theorem Yhs:(List.range 256).all (fun n=> decide ((let i:=Lib.indexByte caps (UInt8.ofNat (n:Int).toNat); if i>=0 then i else if 97<=(n:Int)/\(n:Int)<=102 then (n:Int) - 87 else -1)=nib (n:Int)))=true:=by kernel_rfl
theorem YRe (b:Int) (h0:0<=b) (h1:b<=255):YN6 b=some (nib b):=by
 obtain ⟨n,rfl⟩:=Int.eq_ofNat_of_zero_le h0
 have:=of_decide_eq_true (List.all_eq_true.1 Yhs n (List.mem_range.2 (by omega)))
 rw [Ysn,Ysk,YK4,Yz2]
 rw [show ([(48:UInt8),(49:UInt8),(50:UInt8),(51:UInt8),(52:UInt8),(53:UInt8),(54:UInt8),(55:UInt8),(56:UInt8),(57:UInt8),(65:UInt8),(66:UInt8),(67:UInt8),(68:UInt8),(69:UInt8),(70:UInt8)]:List UInt8)=caps from rfl,Y9u]
 simp only at this
 rw [<-this]
 by_cases a:Lib.indexByte caps (UInt8.ofNat (n:Int).toNat)>=0
 ·rw [Y5u a,Y7u,Ybu a]
 ·rw [Y6u a,Y8u,Yau a]
  by_cases b:97<=(n:Int)
  ·rw [show decide ((n:Int)>=97)=true from Y5u b,Y7u]
   by_cases c:(n:Int)<=102
   ·rw [Y5u c,Y7u,Ybu ⟨b,c⟩,w8 (by omega) (by omega),w64 (x:=(n:Int) - 97) (by omega) (by omega),w64 (by omega) (by omega)]
    congr 1; omega
   ·rw [Y6u c,Y8u,Yau (fun h=> c h.2)]
  ·rw [show decide ((n:Int)>=97)=false from Y6u b,Y8u,Yau (fun h=> b h.1)]
def trip (s:List UInt8) (k:Nat):Int:=if k+2 < s.length/\bat s k=37/\0<=nib (bat s (k+1))/\0<=nib (bat s (k+2)) then nib (bat s (k+1))*16+nib (bat s (k+2)) else -1
theorem YGi (s:List UInt8) (k:Nat):-1<=trip s k/\trip s k<=255:=by
 have:=Y63 (bat s (k+1))
 have:=Y63 (bat s (k+2))
 unfold trip; split <;> omega
theorem or16 {h l:Int} (h0:0<=h/\h<=15) (l0:0<=l/\l<=15):bits Go.BinOp.or IntKind.i64 (shl IntKind.i64 h 4) l=h*16+l:=by
 rw [show shl IntKind.i64 h 4=h*16 from YI3 (y:=4) (by omega) (by omega) (by omega)]
 obtain ⟨m,rfl⟩:=Int.eq_ofNat_of_zero_le h0.1
 obtain ⟨n,rfl⟩:=Int.eq_ofNat_of_zero_le l0.1
 have e1:(BitVec.ofInt 64 ((m:Int)*16)).toNat=2 ^ 4*m:=by
  rw [BitVec.toNat_ofInt]; omega
 have e2:(BitVec.ofInt 64 (n:Int)).toNat=n:=by
  rw [BitVec.toNat_ofInt]; omega
 have e:(BitVec.ofInt 64 ((m:Int)*16)|||BitVec.ofInt 64 (n:Int)).toNat=m*16+n:=by
  rw [BitVec.toNat_or,e1,e2,<-Nat.two_pow_add_eq_or_of_lt (by omega)]; omega
 show IntKind.i64.wrap (((BitVec.ofInt 64 ((m:Int)*16)|||BitVec.ofInt 64 (n:Int)).toNat:Nat):Int)=_
 rw [e,w64 (by omega) (by omega)]
 omega
theorem Yun (s:List UInt8) (k:Nat) (hs:s.length<=1073741824) (hk:k < s.length):Yx9 (s,(k:Int))=some (trip s k):=by
 have e1:IntKind.i64.wrap ((k:Int)+1)=((k+1:Nat):Int):=by rw [w64 (by omega) (by omega)]; omega
 have e2:IntKind.i64.wrap ((k:Int)+2)=((k+2:Nat):Int):=by rw [w64 (by omega) (by omega)]; omega
 have b1:=Yt s (k+1)
 have b2:=Yt s (k+2)
 have n1:=Y63 (bat s (k+1))
 have n2:=Y63 (bat s (k+2))
 rw [Ytn,Ycl]
 simp only
 rw [e1,e2]
 unfold trip
 by_cases a:k+2 < s.length
 ·rw [show decide (((k+2:Nat):Int)>=(s.length:Int))=false from Y6u (by omega),Y8u,Yj,Y5u hk,Y7u,Ydu,Ydu,Ydu,
   show (((s.getD k 0).toNat:Nat):Int)=bat s k from rfl,show (((s.getD (k+1) 0).toNat:Nat):Int)=bat s (k+1) from rfl,show (((s.getD (k+2) 0).toNat:Nat):Int)=bat s (k+2) from rfl]
  by_cases b:bat s k=37
  ·rw [show (bat s k !=37)=false from by simpa using b,Y8u,Yj,Y5u (by omega),Y7u,Yj,Y5u a,Y7u,YRe _ b1.1 b1.2,Y9u,YRe _ b2.1 b2.2,Y9u]
   by_cases c:nib (bat s (k+1)) < 0
   ·rw [Y5u c,Y7u,Yau (by omega)]
   ·rw [Y6u c,Y8u]
    by_cases d:nib (bat s (k+2)) < 0
    ·rw [Y5u d,Y7u,Yau (by omega)]
    ·rw [Y6u d,Y8u,Ybu (by omega),or16 (by omega) (by omega)]
  ·rw [show (bat s k !=37)=true from by simpa using b,Y7u,Yau (fun h=> b h.2.1)]
 ·rw [show decide (((k+2:Nat):Int)>=(s.length:Int))=true from Y5u (by omega),Y7u,Yau (fun h=> a h.1)]
def pdec (s:List UInt8):Nat->Nat->List Int
 | 0,_=> []
 | n+1,k=> if k < s.length then (if 0<=trip s k then trip s k::pdec s n (k+3) else bat s k::pdec s n (k+1)) else []
theorem Y36 (s:List UInt8):∀ (n k:Nat),(pdec s n k).length<=n
 | 0,_=> by simp [pdec]
 | n+1,k=> by
  unfold pdec
  split
  ·split
   ·simp only [Yeu]; have:=Y36 s n (k+3); omega
   ·simp only [Yeu]; have:=Y36 s n (k+1); omega
  ·simp
theorem YP8 (s:List UInt8) (hs:s.length<=1073741824):∀ (n k:Nat) (r:List Int),s.length<=k+n->k<=s.length->r.length+n<=1073741824->Zx4 s (k:Int) r=some (r++pdec s n k)
 | 0,k,r,hn,hk,hr=> by
  rw [YQd,Yg,Y6u (by omega),Y8u,pdec,Yyu]
 | n+1,k,r,hn,hk,hr=> by
  rw [YQd,Yg]
  unfold pdec
  by_cases c:k < s.length
  ·have ht:=YGi s k
   rw [Y5u c,Y7u,Ybu c,Yun s k hs c,Y9u]
   by_cases d:0<=trip s k
   ·have hk2:k+2 < s.length:=by
     unfold trip at d
     split at d
     ·rename_i h; exact h.1
     ·omega
    rw [show decide (trip s k>=0)=true from Y5u d,Y7u,Ybu d,w8 d ht.2,show decide (r.length+[trip s k].length<=lim)=true from Y5u (by simp [lim]; omega),Y7u,
     w64 (x:=(k:Int)+2) (by omega) (by omega),w64 (by omega) (by omega),show (k:Int)+2+1=((k+3:Nat):Int) from by omega,YP8 s hs n (k+3) _ (by omega) (by omega) (by simp; omega),Ygu]
    rfl
   ·rw [show decide (trip s k>=0)=false from Y6u d,Y8u,Yau d,Yj,Y5u c,Y7u,Ydu,show (((s.getD k 0).toNat:Nat):Int)=bat s k from rfl,
     show decide (r.length+[bat s k].length<=lim)=true from Y5u (by simp [lim]; omega),Y7u,w64 (by omega) (by omega),show (k:Int)+1=((k+1:Nat):Int) from by omega,YP8 s hs n (k+1) _ (by omega) (by omega) (by simp; omega),Ygu]
    rfl
  ·rw [Y6u c,Y8u,Yau c,Yyu]
def YN (s:List UInt8):List UInt8:=YF1 (Ym (pdec s s.length 0))
theorem Ykn (s:List UInt8) (hs:s.length<=1000000000):Y24 s=some (YN s):=by
 rw [Yjn,Yyk,Yln,YNl]
 have h:=YP8 s (by omega) s.length 0 [] (by omega) (by omega) (by simp; omega)
 have hl:=Y36 s s.length 0
 rw [show ((0:Nat):Int)=0 from rfl] at h
 rw [h,Y9u,Yzu,YHf _ (by unfold Ym; rw [List.length_map]; omega)]
 rfl
theorem YWp (s:List UInt8):(YN s).length<=4*s.length:=by
 have h1:=YYb (Ym (pdec s s.length 0))
 have h2:=Y36 s s.length 0
 unfold YN
 unfold Ym at h1 ⊢
 rw [List.length_map] at h1
 omega
theorem Yiq:(List.range 256).all (fun n=> Ya (shr IntKind.u8 (n:Int) 4) 16&&(Ya (bits Go.BinOp.and IntKind.u8 (n:Int) 15) 16))=true:=by kernel_rfl
def esc (c:Int):List Int:=[37,(((caps.getD (shr IntKind.u8 c 4).toNat 0).toNat:Nat):Int),(((caps.getD (bits Go.BinOp.and IntKind.u8 c 15).toNat 0).toNat:Nat):Int)]
theorem Yqn (l:List Int) (c:Int) (hl:l.length<=4294967200) (h0:0<=c) (h1:c<=255):Yw9 (l,c)=some (l++esc c):=by
 obtain ⟨n,rfl⟩:=Int.eq_ofNat_of_zero_le h0
 have:=List.all_eq_true.1 Yiq n (List.mem_range.2 (by omega))
 rw [Ycu] at this
 rw [Ypn,YEk]
 simp only
 rw [show ([(48:UInt8),(49:UInt8),(50:UInt8),(51:UInt8),(52:UInt8),(53:UInt8),(54:UInt8),(55:UInt8),(56:UInt8),(57:UInt8),(65:UInt8),(66:UInt8),(67:UInt8),(68:UInt8),(69:UInt8),(70:UInt8)]:List UInt8)=caps from rfl,show caps.length=16 from rfl,this.1,Y7u,this.2,Y7u]
 rw [show decide (l.length+[(37:Int),(((caps.getD (shr IntKind.u8 (n:Int) 4).toNat 0).toNat:Nat):Int),(((caps.getD (bits Go.BinOp.and IntKind.u8 (n:Int) 15).toNat 0).toNat:Nat):Int)].length<=lim)=true from Y5u (by simp [lim]; omega),Y7u]
 rfl
def ctlSet:List Bool:=(List.range 256).map fun c=> decide (c < 32)||decide (126 < c)
def YBq (o:Option (List (List Bool))):Option (List Bool):=match o with
 | some l=> some (l.getD 1 [])
 | none=> none
theorem Y6m:YBq (Yr2 E (run E 20000) 221 ())=some ctlSet:=by kernel_rfl
theorem Ygs:∃ y:List (List Bool),YPe ()=some y/\y.getD 1 []=ctlSet:=by
 have h:=Y6m
 cases hr:Yr2 E (run E 20000) 221 () with
 | none=> rw [hr] at h; cases h
 | some y=>
  rw [hr] at h
  exact ⟨y,Yt5 E hr,Option.some.inj h⟩
def encB (c:Int):List Int:=if ctlSet.getD c.toNat false=true then esc c else [c]
theorem Yfg (c:Int):1<=(encB c).length/\(encB c).length<=3:=by unfold encB esc; split <;> simp
theorem YR8 (b:List Int) (hb:∀ x∈b,0<=x/\x<=255) (hl:b.length<=1000000000):∀ (n i:Nat) (r:List Int),i+n=b.length->r.length<=3*i->Zu4 1 b b (b.length:Int) (i:Int) ctlSet r=some (Ym (r++(b.drop i).flatMap encB),0)
 | 0,i,r,h,hr=> by
  have:i=b.length:=by omega
  subst this
  rw [YEd,Yg,Y6u (Yxu _),Y8u,List.drop_length]; simp
 | n+1,i,r,h,hr=> by
  have hi:i < b.length:=by omega
  have hw:IntKind.i64.wrap ((i:Int)+1)=((i+1:Nat):Int):=by rw [w64 (by omega) (by omega)]; omega
  have hg:List.getD b (Int.toNat (i:Int)) (Ty.zero (.int .u8))=b[i]:=by
   rw [Ydu,Ymu,Ynu hi]; rfl
  have hx:=hb _ (List.getElem_mem hi)
  have he:=Yfg b[i]
  have hin:Ya b[i] 256=true:=by unfold Ya; rw [Y5u hx.1,Y5u (by omega)]; rfl
  rw [YEd,Yg,Y5u hi,Y7u,Yj,Y5u hi,Y7u,hg,hin,Y7u,hw,show (Ty.zero .bool:Bool)=false from rfl,Yiu hi,List.flatMap_cons]
  cases hc:ctlSet.getD b[i].toNat false with
  | true=>
   have e:encB b[i]=esc b[i]:=by unfold encB; rw [Ybu hc]
   rw [Y7u,Yqn r _ (by omega) hx.1 hx.2,Y9u,YR8 b hb hl n (i+1) _ (by omega) (by rw [Yfu,<-e]; omega),e,Ygu]
  | false=>
   have e:encB b[i]=[b[i]]:=by unfold encB; rw [Yau (by rw [hc]; simp)]
   rw [Y8u,show decide (r.length+[b[i]].length<=lim)=true from Y5u (by simp [lim]; omega),Y7u,YR8 b hb hl n (i+1) _ (by omega) (by rw [Yfu,<-e]; omega),e,Ygu]
def Y22 (s:List UInt8):List UInt8:=Ym ((YM (YF1 s)).flatMap encB)
theorem Ynn (s:List UInt8) (hs:s.length<=200000000):Y34 (1,s)=some (Y22 s,0):=by
 have hl:=YYb s
 have hbl:(YM (YF1 s)).length=(YF1 s).length:=by unfold YM; rw [List.length_map]
 rw [Ymn,Yqk]
 simp only
 rw [YHf s (by omega),Y9u,Yon,YBl]
 simp only
 rw [Yrn,Yzk,show decide ((1:Int)>=1)=true from rfl,Y7u,show decide ((1:Int)<=8)=true from rfl,Y9u,Yvu,Y8u]
 obtain ⟨y,h1,h2⟩:=Ygs
 rw [h1,Y9u,show Ya (1:Int) 9=true from rfl,Y7u]
 have hget:List.getD y (Int.toNat 1) (Ty.zero (.arr 256 .bool))=ctlSet:=by
  rw [<-h2]
  cases hy:y[1]? with
  | none=>
   exfalso
   have:y.getD 1 []=[]:=by rw [Ymu,hy]; rfl
   rw [h2] at this
   exact absurd (congrArg List.length this) (by simp [ctlSet])
  | some z=>
   have e:Int.toNat 1=1:=rfl
   rw [e,Ymu,Ymu,hy]; rfl
 rw [hget]
 have hb:∀ x∈YM (YF1 s),0<=x/\x<=255:=by
  intro x hx
  obtain ⟨b,_,rfl⟩:=List.mem_map.1 hx
  exact YI2 b
 have:=YR8 (YM (YF1 s)) hb (by omega) (YM (YF1 s)).length 0 [] (by omega) (by simp)
 rw [show ((0:Nat):Int)=0 from rfl] at this
 rw [this]; rfl
end Go.Abs
namespace Go.Abs
theorem YMh (s:List UInt8) (k:Nat) (hk:k < s.length) (h:¬ut1 s k=true):128<=(Yk s k).1/\∀ j,j < wd s k->128<=bat s (k+j):=by
 have hb0:128<=bat s k:=by
  unfold ut1 at h
  rw [You] at h; omega
 unfold wd Yk
 rw [Yau h]
 by_cases q2:ut2 s k=true
 ·rw [Ybu q2]
  have:=of_decide_eq_true q2
  refine ⟨this.2.2.2,fun j hj=> ?_⟩
  have hj:j < 2:=hj
  have e:j=0\/j=1:=by omega
  rcases e with rfl | rfl
  ·exact hb0
  ·omega
 rw [Yau q2]
 by_cases q3:ut3 s k=true
 ·rw [Ybu q3]
  unfold ut3 at q3
  rw [Ycu] at q3
  have:=of_decide_eq_true q3.1
  refine ⟨by have:=this.2.2.2.2; dsimp only; omega,fun j hj=> ?_⟩
  have hj:j < 3:=hj
  have e:j=0\/j=1\/j=2:=by omega
  rcases e with rfl | rfl | rfl
  ·exact hb0
  ·omega
  ·omega
 rw [Yau q3]
 by_cases q4:ut4 s k=true
 ·rw [Ybu q4]
  unfold ut4 at q4
  rw [Ycu] at q4
  have:=of_decide_eq_true q4.1
  refine ⟨by have:=this.2.2.2.2.2; dsimp only; omega,fun j hj=> ?_⟩
  have hj:j < 4:=hj
  have e:j=0\/j=1\/j=2\/j=3:=by omega
  rcases e with rfl | rfl | rfl | rfl
  ·exact hb0
  ·omega
  ·omega
  ·omega
 rw [Yau q4]
 refine ⟨by dsimp only; omega,fun j hj=> ?_⟩
 have hj:j < 1:=hj
 have e:j=0:=by omega
 subst e; exact hb0
theorem YNh (s:List UInt8) (k:Nat) (h:ut1 s k=true):(Yk s k).1=bat s k/\wd s k=1:=by
 unfold wd Yk; rw [Ybu h]; exact ⟨rfl,rfl⟩
theorem Yx1 (s:List UInt8) (k:Nat) (hk:k < s.length):s.drop k=s[k]::s.drop (k+1)/\Y8 s[k]=bat s k:=by
 refine ⟨Yiu hk,?_⟩
 unfold bat; rw [Ymu,Ynu hk]; rfl
theorem Y6e (s:List UInt8) (P:Int->Bool) (hP:∀ x,128<=x->P x=false):∀ (w k:Nat),k+w<=s.length->(∀ j,j < w->128<=bat s (k+j))->(s.drop k).any (fun b=> P (Y8 b))=(s.drop (k+w)).any (fun b=> P (Y8 b))
 | 0,k,_,_=> rfl
 | w+1,k,h,hj=> by
  obtain ⟨h1,h2⟩:=Yx1 s k (by omega)
  have h0:=hj 0 (by omega)
  rw [Nat.add_zero] at h0
  rw [h1,List.any_cons,h2,hP _ h0,Ytu,Y6e s P hP w (k+1) (by omega) (fun j hw=> by have:=hj (j+1) (by omega); rwa [show k+1+j=k+(j+1) from by omega])]
  rw [show k+1+w=k+(w+1) from by omega]
theorem Y4e (s:List UInt8) (P:Int->Bool) (hP:∀ x,128<=x->P x=false):∀ (n k:Nat),s.length<=k+n->((pcs s n k).map (·.2.1)).any P=(s.drop k).any (fun b=> P (Y8 b))
 | 0,k,h=> by rw [List.drop_eq_nil_of_le (by omega)]; rfl
 | n+1,k,h=> by
  unfold pcs
  by_cases c:k < s.length
  ·have hw:=Ya2 s k c
   rw [Ybu c,Ysu,List.any_cons,Y4e s P hP n (k+wd s k) (by omega)]
   by_cases q:ut1 s k=true
   ·obtain ⟨e1,e2⟩:=YNh s k q
    obtain ⟨h1,h2⟩:=Yx1 s k c
    rw [e2,h1,List.any_cons,h2]
    dsimp only
    rw [e1]
   ·obtain ⟨e1,e2⟩:=YMh s k c q
    rw [Y6e s P hP (wd s k) k hw.2.2.1 e2]
    dsimp only
    rw [hP _ e1,Ytu]
  ·rw [Yau c,List.drop_eq_nil_of_le (by omega)]; rfl
theorem Ya9 (s:List UInt8):∀ (n k:Nat),s.length<=k+n->((pcs s n k).map (·.2.1)).any (fun x=> decide (127 < x))=(s.drop k).any (fun b=> decide (127 < Y8 b))
 | 0,k,h=> by rw [List.drop_eq_nil_of_le (by omega)]; rfl
 | n+1,k,h=> by
  unfold pcs
  by_cases c:k < s.length
  ·have hw:=Ya2 s k c
   obtain ⟨h1,h2⟩:=Yx1 s k c
   rw [Ybu c,Ysu,List.any_cons,Ya9 s n (k+wd s k) (by omega),h1,List.any_cons,h2]
   dsimp only
   by_cases q:ut1 s k=true
   ·obtain ⟨e1,e2⟩:=YNh s k q
    rw [e2,e1]
   ·obtain ⟨e1,e2⟩:=YMh s k c q
    have hb:=e2 0 (by omega)
    rw [Nat.add_zero] at hb
    rw [Y5u (show 127 < (Yk s k).1 by omega),Y5u (show 127 < bat s k by omega),Yuu,Yuu]
  ·rw [Yau c,List.drop_eq_nil_of_le (by omega)]; rfl
def Yc1 (s:List UInt8):Bool:=!(s.any fun b=> decide (127 < Y8 b))
def Yf3 (b:Bool) (o:Option Int):Prop:=∃ y:Int,o=some y/\decide (y>=0)=b
theorem YDg {b:Bool} {y:Int} (h:decide (y>=0)=b):decide (y < 0)=!b:=by
 subst h
 by_cases c:y>=0
 ·rw [Y5u c,Y6u (by omega)]; rfl
 ·rw [Y6u c,Y5u (by omega)]; rfl
theorem YCg (s:List UInt8):∀ (n k:Nat),s.length<=k+n->k<=s.length->Yf3 (((pcs s n k).map (·.2.1)).any fun x=> decide (127 < x)) (Zy5 s () true s k)
 | 0,k,h,hk=> by
  rw [YTd,Y6u (by omega),Y8u]
  exact ⟨-1,rfl,rfl⟩
 | n+1,k,h,hk=> by
  rw [YTd]
  unfold pcs
  by_cases c:k < s.length
  ·have hw:=Ya2 s k c
   rw [Y5u c,Y7u,Ybu c,YHm,Yfl,Y9u,Yd4,Ys3,Ysu,List.any_cons]
   dsimp only
   by_cases d:(127:Int) < (Yk s k).1
   ·rw [show decide ((Yk s k).1 > 127)=true from Y5u d,show (true==true)=true from rfl,Y7u,Yuu]
    exact ⟨_,rfl,Y5u (by omega)⟩
   ·rw [show decide ((Yk s k).1 > 127)=false from Y6u d,show (false==true)=false from rfl,Y8u,Ytu]
    exact YCg s n (k+wd s k) (by omega) (by omega)
  ·rw [Y6u c,Y8u,Yau c]
   exact ⟨-1,rfl,rfl⟩
theorem YJm (s:List UInt8):Yq9 s=some (Yc1 s):=by
 rw [YIm,Ykj,Ydp,Ywj,Ykp,YQl]
 obtain ⟨y,h1,h2⟩:=YCg s s.length 0 (by omega) (by omega)
 rw [Ya9 s s.length 0 (by omega),List.drop_zero] at h2
 simp only
 rw [h1]
 simp only [Y9u]
 rw [YDg h2]; rfl
theorem YPh (s:List UInt8):∀ (n k:Nat),s.length<=k+n->k<=s.length->Yf3 (((pcs s n k).map (·.2.1)).any fun x=> decide (127 < x)) (Z06 s () true s k)
 | 0,k,h,hk=> by
  rw [Yqc,Y6u (by omega),Y8u]
  exact ⟨-1,rfl,rfl⟩
 | n+1,k,h,hk=> by
  rw [Yqc]
  unfold pcs
  by_cases c:k < s.length
  ·have hw:=Ya2 s k c
   rw [Y5u c,Y7u,Ybu c,YEn,Yak,Y9u,Yd4,Ys3,Ysu,List.any_cons]
   dsimp only
   by_cases d:(127:Int) < (Yk s k).1
   ·rw [show decide ((Yk s k).1 > 127)=true from Y5u d,show (true==true)=true from rfl,Y7u,Yuu]
    exact ⟨_,rfl,Y5u (by omega)⟩
   ·rw [show decide ((Yk s k).1 > 127)=false from Y6u d,show (false==true)=false from rfl,Y8u,Ytu]
    exact YPh s n (k+wd s k) (by omega) (by omega)
  ·rw [Y6u c,Y8u,Yau c]
   exact ⟨-1,rfl,rfl⟩
theorem YVe (s:List UInt8):YP6 s=some (Yc1 s):=by
 rw [YFn,Y0k,Ycp,YEj,Yjp,Y0m]
 obtain ⟨y,h1,h2⟩:=YPh s s.length 0 (by omega) (by omega)
 rw [Ya9 s s.length 0 (by omega),List.drop_zero] at h2
 simp only
 rw [h1]
 simp only [Y9u]
 rw [YDg h2]; rfl
def dotI (x:Int):Bool:=x==46||(x==12290||(x==65294||x==65377))
theorem Yue (x:Int):YI6 x=some (dotI x):=by
 rw [YNm,YNk]
 unfold dotI
 cases (x==46) <;> cases (x==12290) <;> cases (x==65294) <;> rfl
theorem Yag (s:List UInt8):∀ (n k:Nat),s.length<=k+n->k<=s.length->Yf3 (((pcs s n k).map (·.2.1)).any dotI) (Z26 s () true s k)
 | 0,k,h,hk=> by
  rw [Ytc,Y6u (by omega),Y8u]
  exact ⟨-1,rfl,rfl⟩
 | n+1,k,h,hk=> by
  rw [Ytc]
  unfold pcs
  by_cases c:k < s.length
  ·have hw:=Ya2 s k c
   rw [Y5u c,Y7u,Ybu c,Yue,Y9u,Yd4,Ys3,Ysu,List.any_cons]
   dsimp only
   cases dotI (Yk s k).1 with
   | true=>
    rw [show (true==true)=true from rfl,Y7u,Yuu]
    exact ⟨_,rfl,Y5u (by omega)⟩
   | false=>
    rw [show (false==true)=false from rfl,Y8u,Ytu]
    exact Yag s n (k+wd s k) (by omega) (by omega)
  ·rw [Y6u c,Y8u,Yau c]
   exact ⟨-1,rfl,rfl⟩
def YP4 (s:List UInt8):Bool:=(Yq s).any dotI
theorem Ysm (s:List UInt8):Yf3 (YP4 s) (YN5 (s,())):=by
 rw [Ybp,YKj,Yip,Ylj]
 obtain ⟨y,h1,h2⟩:=Yag s s.length 0 (by omega) (by omega)
 simp only
 rw [h1]
 exact ⟨y,rfl,h2⟩
end Go.Abs
namespace Go.Abs
def forb:List UInt8:=[0,9,10,13,32,35,47,58,60,62,63,64,91,92,93,94,124]
def Y51 (x:Int):Bool:=forb.any fun b=> Y8 b==x
theorem Ysg (x:Int) (h:128<=x):Y51 x=false:=by
 unfold Y51
 rw [List.any_eq_false]
 intro b hb
 have:Y8 b < 128:=by
  have:∀ b∈forb,Y8 b < 128:=by decide
  exact this b hb
 simp only [beq_iff_eq]; omega
theorem Yuq:(List.range 128).all (fun n=> decide (Lib.indexByte forb (UInt8.ofNat (n:Int).toNat)>=0)==Y51 (n:Int))=true:=by kernel_rfl
theorem Yxq (x:Int) (h0:0<=x) (h1:x < 128):decide (Lib.indexByte forb (UInt8.ofNat x.toNat)>=0)=Y51 x:=by
 obtain ⟨n,rfl⟩:=Int.eq_ofNat_of_zero_le h0
 have:=List.all_eq_true.1 Yuq n (List.mem_range.2 (by omega))
 exact beq_iff_eq.1 this
theorem YMg:∀ (l:List UInt8) (c:UInt8),(∀ b∈l,b≠c)->Lib.indexByte l c < 0
 | [],c,_=> by rw [Lib.indexByte]; omega
 | b::l,c,h=> by
  have ih:=YMg l c (fun x hx=> h x (by simp [hx]))
  have hb:=h b (by simp)
  unfold Lib.indexByte
  split
  ·rename_i e; exact absurd (by simpa using e) hb
  ·split
   ·omega
   ·rename_i e
    have:=Lib.indexByte_ge l c
    have:Lib.indexByte l c=-1:=by omega
    rw [this] at e; simp at e
theorem Ydq (r:Int) (h0:128<=r) (hr:scal r=true):∃ l b,Yy1 r=l++[b]/\128<=Y8 b/\l.length<=3:=by
 have hr:=of_decide_eq_true hr
 have hv:Utf8.valid r=true:=by
  unfold Utf8.valid
  simp only [Bool.or_eq_true,Ycu,You]; omega
 have hb:∀ n:Nat,n < 64->128<=Y8 (UInt8.ofNat (128+n)):=by
  intro n hn
  unfold Y8
  rw [UInt8.toNat_ofNat',Nat.mod_eq_of_lt (by omega)]; omega
 unfold Yy1 Utf8.encode
 rw [Ybu hv]
 by_cases a:r.toNat < 128
 ·omega
 ·rw [Yau a]
  by_cases b:r.toNat < 2048
  ·rw [Ybu b]
   exact ⟨[_],_,rfl,hb _ (Nat.mod_lt _ (by omega)),by simp⟩
  ·rw [Yau b]
   by_cases c:r.toNat < 65536
   ·rw [Ybu c]
    exact ⟨[_,_],_,rfl,hb _ (Nat.mod_lt _ (by omega)),by simp⟩
   ·rw [Yau c]
    exact ⟨[_,_,_],_,rfl,hb _ (Nat.mod_lt _ (by omega)),by simp⟩
theorem YVt (r:Int) (hr:scal r=true):Yj7 r=some true:=by
 have hr:=of_decide_eq_true hr
 rw [Ypp,Yek,show decide ((0:Int)<=r)=true from Y5u hr.1,Y7u]
 by_cases a:r < 55296
 ·rw [Y5u a,Y7u]
 ·rw [Y6u a,Y8u,show decide ((57343:Int) < r)=true from Y5u (by omega),Y7u,show decide (r<=1114111)=true from Y5u hr.2.1,Y7u]
theorem YZs:Yg7 (forb,65533)=some (-1):=Yt5 E (k:=2000) (by kernel_rfl)
theorem Y7j (r:Int) (hr:scal r=true):Yf3 (Y51 r) (Yg7 (forb,r)):=by
 have hr':=of_decide_eq_true hr
 by_cases a:r < 128
 ·rw [Ywf,YNc]
  simp only
  rw [show decide ((0:Int)<=r)=true from Y5u hr'.1,Y7u,Y5u a,Y7u,YK4,Yz2,w8 hr'.1 (by omega)]
  exact ⟨_,rfl,Yxq r hr'.1 a⟩
 ·rw [Ysg r (by omega)]
  by_cases b:r=65533
  ·subst b; exact ⟨-1,YZs,rfl⟩
  ·obtain ⟨l,x,he,hx,hl⟩:=Ydq r (by omega) hr
   rw [Ywf,YNc]
   simp only
   rw [show decide ((0:Int)<=r)=true from Y5u hr'.1,Y7u,Y6u a,Y8u,show (r==65533)=false from Yhu.2 b,Y8u,YVt r hr,Y9u,Yvu,Y8u,he]
   have hlen:(l++[x]).length=l.length+1:=by simp
   have hw:IntKind.i64.wrap ((((l++[x]).length:Nat):Int) - 1)=((l.length:Nat):Int):=by rw [hlen,w64 (by omega) (by omega)]; omega
   have hfl:forb.length=17:=rfl
   have hw1:IntKind.i64.wrap (((l.length:Nat):Int)+1)=((l.length+1:Nat):Int):=by rw [w64 (by omega) (by omega)]; omega
   have hg:List.getD (l++[x]) l.length 0=x:=by simp [Ymu]
   have hfb:∀ b∈forb,Y8 b < 128:=by decide
   have hfg:Y8 (List.getD forb l.length 0) < 128:=by
    rw [Ymu,Ynu (show l.length < forb.length by omega)]
    exact hfb _ (List.getElem_mem _)
   rw [hw,Yhk,Yg,Y5u (by omega),Y7u,Yj,Y5u (by omega),Y7u,hlen,Yj,Y5u (by omega),Y7u,Ydu,hg]
   rw [show (((((List.getD forb l.length 0).toNat:Nat):Int)) !=((x.toNat:Nat):Int))=true from bne_iff_ne.2 (by
    have e1:(((List.getD forb l.length 0).toNat:Nat):Int)=Y8 (List.getD forb l.length 0):=rfl
    have e2:((x.toNat:Nat):Int)=Y8 x:=rfl
    rw [e1,e2]; omega),Y7u,hw1,Yd1 (by omega),Y7u,Y7u,YS1,YK4,Yz2,Y9u]
   have hn:Lib.indexByte (forb.drop (l.length+1)) (UInt8.ofNat (((x.toNat:Nat):Int)).toNat) < 0:=by
    refine YMg _ _ (fun b hb e=> ?_)
    have h1:=hfb b (List.mem_of_mem_drop hb)
    rw [Ydu,UInt8.ofNat_toNat] at e
    subst e; omega
   rw [Y5u hn,Y7u]
   exact ⟨-1,rfl,rfl⟩
theorem Y9c (s:List UInt8):∀ (n k:Nat),s.length<=k+n->k<=s.length->Yf3 (((pcs s n k).map (·.2.1)).any Y51) (Zs4 s forb s k)
 | 0,k,h,hk=> by
  rw [Yyd,Y6u (by omega),Y8u]
  exact ⟨-1,rfl,rfl⟩
 | n+1,k,h,hk=> by
  rw [Yyd]
  unfold pcs
  by_cases c:k < s.length
  ·have hw:=Ya2 s k c
   obtain ⟨y,h1,h2⟩:=Y7j (Yk s k).1 (YEb s k)
   rw [Y5u c,Y7u,Ybu c,Yd4,Ys3,h1,Y9u,Ysu,List.any_cons]
   dsimp only
   rw [h2]
   cases Y51 (Yk s k).1 with
   | true=> rw [Y7u,Yuu]; exact ⟨_,rfl,Y5u (by omega)⟩
   | false=> rw [Y8u,Ytu]; exact Y9c s n (k+wd s k) (by omega) (by omega)
  ·rw [Y6u c,Y8u,Yau c]
   exact ⟨-1,rfl,rfl⟩
def YD7:List Bool:=(List.range 256).map fun n:Nat=> Y51 (n:Int)
theorem YIr:YBf forb=some (YD7,true):=Yt5 E (k:=2000) (by kernel_rfl)
theorem Ytq (b:UInt8):List.getD YD7 b.toNat false=Y51 (Y8 b):=by
 have:=b.toNat_lt
 unfold YD7 Y8
 rw [Ymu,List.getElem?_map,List.getElem?_range this]; rfl
theorem Yac (s:List UInt8) (hs:s.length<=1073741824):∀ (n i:Nat),i+n=s.length->Yf3 ((s.drop i).any fun b=> Y51 (Y8 b)) (Zq4 s forb (i:Int) YD7)
 | 0,i,h=> by
  have:i=s.length:=by omega
  subst this
  rw [Yud,Yg,Y6u (Yxu _),Y8u,List.drop_length]
  exact ⟨-1,rfl,rfl⟩
 | n+1,i,h=> by
  have hi:i < s.length:=by omega
  have hw:IntKind.i64.wrap ((i:Int)+1)=((i+1:Nat):Int):=by rw [w64 (by omega) (by omega)]; omega
  have hg:List.getD s i 0=s[i]:=by rw [Ymu,Ynu hi]; rfl
  have hb:=s[i].toNat_lt
  rw [Yud,Yg,Y5u hi,Y7u,Yj,Y5u hi,Y7u,Ydu,hg,Yhp,Yrk]
  simp only
  rw [Yj,Y5u hb,Y7u,Y9u,Ydu,show (Ty.zero .bool:Bool)=false from rfl,Ytq,hw,Yiu hi,List.any_cons]
  dsimp only
  cases Y51 (Y8 s[i]) with
  | true=> rw [Y7u,Yuu]; exact ⟨_,rfl,Y5u (by omega)⟩
  | false=> rw [Y8u,Ytu]; exact Yac s hs n (i+1) (by omega)
def Yw3 (s:List UInt8):Bool:=s.any fun b=> Y51 (Y8 b)
theorem YVi (s:List UInt8) (hs:s.length<=1073741824):Y64 (s,forb)=some (Yw3 s):=by
 have key:Yf3 (Yw3 s) (Y5a (s,forb)):=by
  rw [Yap,Ybl]
  simp only
  rw [show (forb==([]:List UInt8))=false from rfl,Y8u,show (((forb.length:Nat):Int)==1)=false from rfl,Y8u,Ylp,Yok,Y9u]
  by_cases c:((s.length:Nat):Int) > 8
  ·rw [Y5u c,Y7u,YIr,Y9u,Y7u]
   exact Yac s hs s.length 0 (by omega)
  ·rw [Y6u c,Y8u,Yql]
   have:=Y9c s s.length 0 (by omega) (by omega)
   rw [Y4e s Y51 (fun x hx=> Ysg x hx) s.length 0 (by omega),List.drop_zero] at this
   exact this
 obtain ⟨y,h1,h2⟩:=key
 rw [Y4p,Ynk,h1,Y9u,h2]
end Go.Abs
namespace Go.Abs
def thr (k bias:Int):Int:=if k<=bias then 1 else if bias+26<=k then 26 else k - bias
theorem YM3 (k bias:Int):1<=thr k bias/\thr k bias<=26:=by
 unfold thr; split
 ·omega
 ·split <;> omega
theorem YC9 (k bias:Int) (h1:0<=k/\k<=1099511627776) (h2:0<=bias/\bias<=4096):YS6 (k,bias)=some (thr k bias):=by
 rw [YLn,Yxl]
 simp only
 rw [w64 (x:=bias+26) (by omega) (by omega),w64 (x:=k - bias) (by omega) (by omega)]
 unfold thr
 by_cases a:k<=bias
 ·rw [Y5u a,Y7u,Ybu a]
 ·rw [Y6u a,Y8u,Yau a]
  by_cases b:bias+26<=k
  ·rw [show decide (k>=bias+26)=true from Y5u b,Y7u,Ybu b]
  ·rw [show decide (k>=bias+26)=false from Y6u b,Y8u,Yau b]
def YQ1:Nat->Int->Int->Int
 | 0,d,k=> k+36*d / (d+38)
 | n+1,d,k=> if 455 < d then YQ1 n (d / 35) (k+36) else k+36*d / (d+38)
def Yh1 (delta points:Int) (first:Bool):Int:=
 let d:=if first=true then delta / 700 else delta / 2
 YQ1 11 (d+d / points) 0
theorem YZd:∀ (n:Nat) (d k:Int),0<=d->0<=k->0<=YQ1 n d k/\YQ1 n d k<=k+36*n+36
 | 0,d,k,hd,hk=> by
  unfold YQ1
  have h1:0<=36*d / (d+38):=Int.ediv_nonneg (by omega) (by omega)
  have h2:36*d / (d+38)<=36:=by
   apply Int.le_of_lt_add_one
   apply Int.ediv_lt_of_lt_mul (by omega); omega
  omega
 | n+1,d,k,hd,hk=> by
  unfold YQ1
  split
  ·have:=YZd n (d / 35) (k+36) (by omega) (by omega); omega
  ·have h1:0<=36*d / (d+38):=Int.ediv_nonneg (by omega) (by omega)
   have h2:36*d / (d+38)<=36:=by
    apply Int.le_of_lt_add_one
    apply Int.ediv_lt_of_lt_mul (by omega); omega
   omega
theorem YSh (d:Int) (hd:0<=d):0<=36*d / (d+38)/\36*d / (d+38)<=36:=by
 refine ⟨Int.ediv_nonneg (by omega) (by omega),?_⟩
 apply Int.le_of_lt_add_one
 apply Int.ediv_lt_of_lt_mul (by omega); omega
theorem YYd (pts:Int) (fst:Bool) (d k:Int) (hd:0<=d) (hn:d<=455) (hk:0<=k) (hk2:k<=100000):Zk6 d pts fst k=some (k+36*d / (d+38)):=by
 have h:=YSh d hd
 rw [Ygd,show decide (d > 455)=false from Y6u (by omega),Y8u,w64 (x:=d+38) (by omega) (by omega),show (d+38 !=0)=true from bne_iff_ne.2 (by omega),Y7u,w64 (x:=36*d) (by omega) (by omega),YDu (by omega),w64 (x:=36*d / (d+38)) (by omega) (by omega),w64 (by omega) (by omega)]
theorem Y2m (pts:Int) (fst:Bool) (d k:Int) (hd:455 < d) (hd2:d<=9223372036854775807) (hk:0<=k) (hk2:k<=100000):Zk6 d pts fst k=Zk6 (d / 35) pts fst (k+36):=by
 rw [Ygd,show decide (d > 455)=true from Y5u hd,Y7u,YDu (by omega),w64 (x:=d / 35) (by omega) (by omega),w64 (x:=k+36) (by omega) (by omega)]
def lid:Nat->Int
 | 0=> 455
 | n+1=> 35*lid n+34
theorem Y3m (pts:Int) (fst:Bool) (n:Nat):∀ (d k:Int),0<=d->d<=lid n->d<=9223372036854775807->0<=k->k+36*(n:Int)<=100000->Zk6 d pts fst k=some (YQ1 n d k):=by
 induction n with
 | zero=> intro d k hd hn _ hk hk2; exact YYd pts fst d k hd hn hk (by omega)
 | succ n ih=>
  intro d k hd hn hb hk hk2
  unfold YQ1
  unfold lid at hn
  by_cases c:455 < d
  ·rw [Ybu c,Y2m pts fst d k c hb hk (by omega)]
   exact ih (d / 35) (k+36) (by omega) (by omega) (by omega) (by omega) (by omega)
  ·rw [Yau c]; exact YYd pts fst d k hd (by omega) hk (by omega)
theorem Y9h:4611686018427387904<=lid 11:=by decide
theorem YTe (delta points:Int) (first:Bool) (h0:0<=delta) (h1:delta<=1099511627776) (hp:1<=points) (hp2:points<=1099511627776):YC5 (delta,points,first)=some (Yh1 delta points first):=by
 have key:∀ d:Int,0<=d->d<=1099511627776->Zj6 d points first=some (YQ1 11 (d+d / points) 0):=by
  intro d a b
  have q0:0<=d / points:=Int.ediv_nonneg a (by omega)
  have q1:d / points<=d:=Int.ediv_le_self _ a
  have:=Y9h
  rw [YPk,show (points !=0)=true from bne_iff_ne.2 (by omega),Y7u,YDu a,w64 (x:=d / points) (by omega) (by omega),w64 (x:=d+d / points) (by omega) (by omega)]
  exact Y3m points first 11 _ 0 (by omega) (by omega) (by omega) (by omega) (by omega)
 rw [YDn,YLk]
 simp only
 unfold Yh1
 cases first with
 | true=>
  rw [Y7u,YDu h0,w64 (x:=delta / 700) (by omega) (by omega),key _ (by omega) (by omega)]; rfl
 | false=>
  rw [Y8u,YDu h0,w64 (x:=delta / 2) (by omega) (by omega),key _ (by omega) (by omega)]; rfl
theorem YX3 (delta points:Int) (first:Bool) (h0:0<=delta) (hp:1<=points):0<=Yh1 delta points first/\Yh1 delta points first<=4096:=by
 unfold Yh1
 have key:∀ d:Int,0<=d->0<=YQ1 11 (d+d / points) 0/\YQ1 11 (d+d / points) 0<=4096:=by
  intro d a
  have q0:0<=d / points:=Int.ediv_nonneg a (by omega)
  have:=YZd 11 (d+d / points) 0 (by omega) (by omega)
  omega
 cases first with
 | true=> exact key _ (by rw [Ybu rfl]; omega)
 | false=> exact key _ (by rw [Yau (by simp)]; omega)
end Go.Abs
namespace Go.Abs
def az36:List UInt8:=[97,98,99,100,101,102,103,104,105,106,107,108,109,110,111,112,113,114,115,116,117,118,119,120,121,122,48,49,50,51,52,53,54,55,56,57]
def dval (b:Int):Int:=if 97<=b/\b<=122 then b - 97 else if 65<=b/\b<=90 then b - 65 else if 48<=b/\b<=57 then b - 22 else -1
theorem Ydg (b:Int):-1<=dval b/\dval b<=35:=by
 unfold dval; split
 ·omega
 ·split
  ·omega
  ·split <;> omega
def dexp (n:Nat):Int:=
 let i:=Lib.indexByte az36 (UInt8.ofNat (n:Int).toNat)
 let c:=bits Go.BinOp.or IntKind.u8 (n:Int) 32
 if i < 0 then (if 97<=c/\c<=122 then IntKind.i64.wrap (IntKind.u8.wrap (c - 97)) else i) else i
theorem Y3q:(List.range 256).all (fun n=> decide (dexp n=dval (n:Int)))=true:=by kernel_rfl
theorem Y4q (n:Nat) (h:n < 256):dexp n=dval (n:Int):=of_decide_eq_true (List.all_eq_true.1 Y3q n (List.mem_range.2 h))
def numV (s:List UInt8) (bias:Int) (fr:Nat):Nat->Nat->Int->Int->Int->Int×(Int×(Int×Int))
 | 0,at',_,_,_=> (0,(0,(31,(at':Int))))
 | n+1,at',i,w,k=>
  if dval (bat s at') < 0 then (0,(0,(31,(at':Int))))
  else if 2147483647 < i+dval (bat s at')*w then (0,(0,(32,(fr:Int))))
  else if dval (bat s at') < thr k bias then (i+dval (bat s at')*w,(((at'+1:Nat):Int),(0,0)))
  else if 2147483647 < w*(36 - thr k bias) then (0,(0,(32,(fr:Int))))
  else numV s bias fr n (at'+1) (i+dval (bat s at')*w) (w*(36 - thr k bias)) (k+36)
theorem Yn4 {a b A B:Int} (ha:0<=a) (hb:0<=b) (h1:a<=A) (h2:b<=B):0<=a*b/\a*b<=A*B:=⟨Int.mul_nonneg ha hb,Int.mul_le_mul h1 h2 hb (Int.le_trans ha h1)⟩
theorem Y1b {a b:Int} (ha:1<=a) (hb:1<=b):1<=a*b:=by
 have:=Int.mul_le_mul ha hb (by omega) (by omega)
 omega
theorem YOr (s:List UInt8) (bias:Int) (fr:Nat) (hs:s.length<=1073741824) (hb:0<=bias/\bias<=4096) (n:Nat):∀ (at':Nat) (i w k:Int),at'+n=s.length->0<=i->i<=2147483647->1<=w->w<=2147483647->0<=k->k+36*(n:Int)<=1099511627776->
  Zn6 s (at':Int) i bias (fr:Int) w k=some (numV s bias fr n at' i w k):=by
 induction n with
 | zero=>
  intro at' i w k hat _ _ _ _ _ _
  rw [Ynd,show (((at':Nat):Int)==((s.length:Nat):Int))=true from beq_iff_eq.2 (by omega),Y7u]
  rfl
 | succ n ih=>
  intro at' i w k hat hi0 hi1 hw0 hw1 hk0 hk1
  have hlt:at' < s.length:=by omega
  have hby:=Yt s at'
  have hd:=Ydg (bat s at')
  have ht:=YM3 k bias
  have hx:dexp (s.getD at' 0).toNat=dval (bat s at'):=Y4q _ (s.getD at' 0).toNat_lt
  have hwat:IntKind.i64.wrap ((at':Int)+1)=((at'+1:Nat):Int):=by rw [w64 (by omega) (by omega)]; omega
  have key:Zo6 s (at':Int) i bias (fr:Int) w k (dval (bat s at'))=some (numV s bias fr (n+1) at' i w k):=by
   rw [Ydl]
   unfold numV
   by_cases a:dval (bat s at') < 0
   ·rw [Y5u a,Y7u,Ybu a]
   ·have hm:=Yn4 (a:=dval (bat s at')) (b:=w) (A:=35) (B:=2147483647) (by omega) (by omega) hd.2 hw1
    rw [Y6u a,Y8u,Yau a,w64 (x:=dval (bat s at')*w) (by omega) (by omega),w64 (x:=i+dval (bat s at')*w) (by omega) (by omega)]
    by_cases b:2147483647 < i+dval (bat s at')*w
    ·rw [show decide (i+dval (bat s at')*w > 2147483647)=true from Y5u b,Y7u,Ybu b]
    ·rw [show decide (i+dval (bat s at')*w > 2147483647)=false from Y6u b,Y8u,Yau b,YC9 k bias ⟨hk0,by omega⟩ hb,Y9u]
     by_cases c:dval (bat s at') < thr k bias
     ·rw [Y5u c,Y7u,Ybu c,hwat]
     ·have hm2:=Yn4 (a:=w) (b:=36 - thr k bias) (A:=2147483647) (B:=35) (by omega) (by omega) hw1 (by omega)
      have hm3:1<=w*(36 - thr k bias):=Y1b hw0 (by omega)
      rw [Y6u c,Y8u,Yau c,w64 (x:=36 - thr k bias) (by omega) (by omega),w64 (x:=w*(36 - thr k bias)) (by omega) (by omega)]
      by_cases e:2147483647 < w*(36 - thr k bias)
      ·rw [show decide (w*(36 - thr k bias) > 2147483647)=true from Y5u e,Y7u,Ybu e]
      ·rw [show decide (w*(36 - thr k bias) > 2147483647)=false from Y6u e,Y8u,Yau e,hwat,w64 (x:=k+36) (by omega) (by omega)]
       exact ih (at'+1) _ _ _ (by omega) (by omega) (by omega) hm3 (by omega) (by omega) (by omega)
  rw [Ynd,show (((at':Nat):Int)==((s.length:Nat):Int))=false from Yhu.2 (by omega),Y8u,Yj,Y5u hlt,Y7u,Ydu,YK4,Yz2,Y9u,Y7u]
  rw [show ([(97:UInt8),(98:UInt8),(99:UInt8),(100:UInt8),(101:UInt8),(102:UInt8),(103:UInt8),(104:UInt8),(105:UInt8),(106:UInt8),(107:UInt8),(108:UInt8),(109:UInt8),(110:UInt8),(111:UInt8),(112:UInt8),(113:UInt8),(114:UInt8),(115:UInt8),(116:UInt8),(117:UInt8),(118:UInt8),(119:UInt8),(120:UInt8),(121:UInt8),(122:UInt8),(48:UInt8),(49:UInt8),(50:UInt8),(51:UInt8),(52:UInt8),(53:UInt8),(54:UInt8),(55:UInt8),(56:UInt8),(57:UInt8)]:List UInt8)=az36 from rfl]
  unfold dexp at hx
  simp only at hx
  generalize Lib.indexByte az36 (UInt8.ofNat (((s.getD at' 0).toNat:Nat):Int).toNat)=x at hx ⊢
  generalize bits Go.BinOp.or IntKind.u8 (((s.getD at' 0).toNat:Nat):Int) 32=c at hx ⊢
  by_cases a:x < 0
  ·rw [Ybu a] at hx
   rw [Y5u a,Y7u]
   by_cases b:97<=c
   ·rw [show decide (c>=97)=true from Y5u b,Y7u]
    by_cases e:c<=122
    ·rw [Ybu ⟨b,e⟩] at hx
     rw [Y5u e,Y7u,hx]; exact key
    ·rw [Yau (fun h=> e h.2)] at hx
     rw [Y6u e,Y8u,hx]; exact key
   ·rw [Yau (fun h=> b h.1)] at hx
    rw [show decide (c>=97)=false from Y6u b,Y8u,hx]; exact key
  ·rw [Yau a] at hx
   rw [Y6u a,Y8u,hx]; exact key
theorem YKn (s:List UInt8) (at':Nat) (i bias:Int) (hs:s.length<=1073741824) (hat:at'<=s.length) (hi0:0<=i) (hi1:i<=2147483647) (hb:0<=bias/\bias<=4096):
  YR6 (s,(at':Int),i,bias)=some (numV s bias at' (s.length - at') at' i 1 36):=by
 rw [YJn,Y2l]
 exact YOr s bias at' hs hb (s.length - at') at' i 1 36 (by omega) hi0 hi1 (by omega) (by omega) (by omega) (by omega)
theorem YVa (s:List UInt8) (bias:Int) (fr:Nat) (n:Nat):∀ (at':Nat) (i w k:Int),0<=i->1<=w->at'+n=s.length->(numV s bias fr n at' i w k).2.2.1=0->
  i<=(numV s bias fr n at' i w k).1/\(numV s bias fr n at' i w k).1<=2147483647/\∃ m:Nat,(numV s bias fr n at' i w k).2.1=(m:Int)/\at' < m/\m<=s.length:=by
 induction n with
 | zero=> intro at' i w k _ _ _ h; exact absurd h (by unfold numV; simp)
 | succ n ih=>
  intro at' i w k hi hw hat
  have ht:=YM3 k bias
  unfold numV
  by_cases a:dval (bat s at') < 0
  ·rw [Ybu a]; intro h; exact absurd h (by simp)
  ·rw [Yau a]
   have hm:0<=dval (bat s at')*w:=Int.mul_nonneg (by omega) (by omega)
   by_cases b:2147483647 < i+dval (bat s at')*w
   ·rw [Ybu b]; intro h; exact absurd h (by simp)
   ·rw [Yau b]
    by_cases c:dval (bat s at') < thr k bias
    ·rw [Ybu c]; intro _; exact ⟨by dsimp only; omega,by dsimp only; omega,at'+1,rfl,by omega,by omega⟩
    ·rw [Yau c]
     by_cases e:2147483647 < w*(36 - thr k bias)
     ·rw [Ybu e]; intro h; exact absurd h (by simp)
     ·rw [Yau e]
      intro h
      have hm3:1<=w*(36 - thr k bias):=Y1b hw (by omega)
      obtain ⟨h1,h2,m,h3,h4,h5⟩:=ih (at'+1) _ _ _ (by omega) hm3 (by omega) h
      exact ⟨by omega,h2,m,h3,by omega,h5⟩
end Go.Abs
namespace Go.Abs
def Yk6:Value->Int
 | .int _ n=> n
 | _=> 0
theorem Yfi (s:List UInt8):∀ (n k:Nat) (acc:Array Value),((Conv.runesFrom ⟨s.toArray⟩ n k acc).map Yk6).toList=(acc.map Yk6).toList++(pcs s n k).map (·.2.1)
 | 0,k,acc=> by simp [Conv.runesFrom,pcs]
 | n+1,k,acc=> by
  unfold Conv.runesFrom pcs
  have hsz:(⟨s.toArray⟩:ByteArray).size=s.length:=by simp [ByteArray.size]
  rw [hsz]
  by_cases c:k < s.length
  ·rw [Ybu c,Ybu c]
   have h1:(((Utf8.decode ⟨s.toArray⟩ k).1:Nat):Int)=(Yk s k).1:=Yd4 s k
   have h2:(Utf8.decode ⟨s.toArray⟩ k).2=wd s k:=Ys3 s k
   show ((Conv.runesFrom ⟨s.toArray⟩ n (k+(Utf8.decode ⟨s.toArray⟩ k).2) (acc.push (.int .i32 (Int.ofNat (Utf8.decode ⟨s.toArray⟩ k).1)))).map Yk6).toList=_
   rw [Yfi s n _ _,h2,Array.map_push,Array.toList_push,Ysu,Ygu]
   have e:Yk6 (.int .i32 (Int.ofNat (Utf8.decode ⟨s.toArray⟩ k).1))=(Yk s k).1:=h1
   rw [e]; rfl
  ·rw [Yau c,Yau c]; simp
theorem Ygi (s:List UInt8):YD s=Yq s:=by
 have h:=Yfi s s.length 0 #[]
 have e:YD s=((Conv.runesFrom ⟨s.toArray⟩ s.length 0 #[]).map Yk6).toList:=by
  unfold YD
  congr 2
 rw [e,h]; simp [Yq,Y82]
def Yp (s:List UInt8):Nat->Int
 | 0=> -1
 | n+1=> if bat s n=45 then (n:Int) else Yp s n
theorem YV7 (s:List UInt8):∀ n:Nat,-1<=Yp s n/\Yp s n < n
 | 0=> by unfold Yp; omega
 | n+1=> by
  have:=YV7 s n
  unfold Yp; split <;> omega
theorem Y3h (s:List UInt8) (hs:s.length<=1073741824):∀ n:Nat,n<=s.length->Zu6 s 45 ((n:Int) - 1)=some (Yp s n)
 | 0,h=> by
  rw [YGd,show decide (((0:Nat):Int) - 1>=0)=false from rfl,Y8u]; rfl
 | n+1,h=> by
  have e:((n+1:Nat):Int) - 1=(n:Int):=by omega
  rw [e,YGd,show decide ((n:Int)>=0)=true from Y5u (by omega),Y7u,Yj,Y5u (by omega),Y7u,Ydu,show (((s.getD n 0).toNat:Nat):Int)=bat s n from rfl]
  unfold Yp
  by_cases c:bat s n=45
  ·rw [show (bat s n==45)=true from beq_iff_eq.2 c,Y7u,Ybu c]
  ·rw [show (bat s n==45)=false from Yhu.2 c,Y8u,Yau c,w64 (by omega) (by omega),Y3h s hs n (by omega)]
theorem Ybn (s:List UInt8) (hs:s.length<=1073741824):Y7a (s,45)=some (Yp s s.length):=by
 rw [Yfp,YXk,YYm,YCl]
 simp only
 rw [w64 (by omega) (by omega),Y3h s hs s.length (Nat.le_refl _)]; rfl
def ins (l:List Int) (i:Nat) (x:Int):List Int:=l.take i++[x]++l.drop i
theorem YGa (l:List Int) (i:Nat) (x:Int) (h:i<=l.length):(ins l i x).length=l.length+1:=by
 unfold ins; simp; omega
theorem Y8j (l:List Int) (i:Nat) (x:Int) (hi:i<=l.length) (hl:l.length<=4294967296):Y54 (l,(i:Int),[x])=some (ins l i x):=by
 rw [Y1p,Yq4]
 simp only
 rw [show decide ((0:Int)<=(i:Int))=true from Y5u (by omega),show decide ((i:Int)<=(l.length:Int))=true from Y5u (by omega),show decide ([x].length=1)=true from rfl,Y5u hl]
 rfl
def decV (s:List UInt8) (plain:Nat):Nat->Nat->Int->Int->Int->List Int->List UInt8×(Int×Int)
 | 0,_,_,_,_,l=> (YQ2 l,(0,0))
 | f+1,at',i,n,bias,l=>
  if s.length<=at' then (YQ2 l,(0,0))
  else if (numV s bias at' (s.length - at') at' i 1 36).2.2.1≠0 then ([],((numV s bias at' (s.length - at') at' i 1 36).2.2.1,(numV s bias at' (s.length - at') at' i 1 36).2.2.2))
  else if 1114111 < n+(numV s bias at' (s.length - at') at' i 1 36).1 / ((l.length+1:Nat):Int)\/(55296<=n+(numV s bias at' (s.length - at') at' i 1 36).1 / ((l.length+1:Nat):Int)/\n+(numV s bias at' (s.length - at') at' i 1 36).1 / ((l.length+1:Nat):Int)<=57343) then ([],(32,(at':Int)))
  else decV s plain f (numV s bias at' (s.length - at') at' i 1 36).2.1.toNat ((numV s bias at' (s.length - at') at' i 1 36).1 % ((l.length+1:Nat):Int)+1) (n+(numV s bias at' (s.length - at') at' i 1 36).1 / ((l.length+1:Nat):Int))
   (Yh1 ((numV s bias at' (s.length - at') at' i 1 36).1 - i) ((l.length+1:Nat):Int) (((l.length:Nat):Int)==((plain:Nat):Int))) (ins l ((numV s bias at' (s.length - at') at' i 1 36).1 % ((l.length+1:Nat):Int)).toNat (n+(numV s bias at' (s.length - at') at' i 1 36).1 / ((l.length+1:Nat):Int)))
theorem Y2g (s:List UInt8) (plain:Nat) (hs:s.length<=1073741824) (f:Nat):∀ (at':Nat) (i n bias:Int) (l:List Int),s.length<=at'+f->at'<=s.length->0<=i->i<=2147483647->128<=n->n<=1114111->0<=bias/\bias<=4096->l.length<=at'->
  Z86 s (at':Int) (plain:Int) i n bias l=some (decV s plain f at' i n bias l):=by
 induction f with
 | zero=>
  intro at' i n bias l hf hat _ _ _ _ _ _
  rw [Yt6,Yg,Y6u (by omega),Y8u]; rfl
 | succ f ih=>
  intro at' i n bias l hf hat hi0 hi1 hn0 hn1 hb hl
  unfold decV
  by_cases c:at' < s.length
  ·rw [Yt6,Yg,Y5u c,Y7u,YKn s at' i bias hs hat hi0 hi1 hb,Y9u,Yau (by omega)]
   have hfacts:=YVa s bias at' (s.length - at') at' i 1 36 hi0 (by omega) (by omega)
   generalize numV s bias at' (s.length - at') at' i 1 36=y at hfacts ⊢
   by_cases e:y.2.2.1=0
   ·obtain ⟨h1,h2,m,h3,h4,h5⟩:=hfacts e
    have hpts:IntKind.i64.wrap (((l.length:Nat):Int)+1)=((l.length+1:Nat):Int):=by rw [w64 (by omega) (by omega)]; omega
    have q0:0<=y.1 / ((l.length+1:Nat):Int):=Int.ediv_nonneg (by omega) (by omega)
    have q1:y.1 / ((l.length+1:Nat):Int)<=y.1:=Int.ediv_le_self _ (by omega)
    have r0:0<=y.1 % ((l.length+1:Nat):Int):=Int.emod_nonneg _ (by omega)
    have r1:y.1 % ((l.length+1:Nat):Int) < ((l.length+1:Nat):Int):=Int.emod_lt_of_pos _ (by omega)
    have hb':=YX3 (y.1 - i) ((l.length+1:Nat):Int) (((l.length:Nat):Int)==((plain:Nat):Int)) (by omega) (by omega)
    rw [show (y.2.2.1 !=0)=false from by simp [e],Y8u,Yau (fun h=> h e),w64 (x:=y.1 - i) (by omega) (by omega),hpts,YTe _ _ _ (by omega) (by omega) (by omega) (by omega),Y9u]
    rw [show (((l.length+1:Nat):Int) !=0)=true from bne_iff_ne.2 (by omega),Y7u,YDu (by omega),Int.tmod_eq_emod_of_nonneg (by omega),w64 (x:=y.1 / ((l.length+1:Nat):Int)) (by omega) (by omega),w64 (x:=n+y.1 / ((l.length+1:Nat):Int)) (by omega) (by omega)]
    simp only [Y7u]
    generalize y.1 / ((l.length+1:Nat):Int)=Q at q0 q1 ⊢
    generalize y.1 % ((l.length+1:Nat):Int)=M at r0 r1 ⊢
    generalize Yh1 (y.1 - i) ((l.length+1:Nat):Int) (((l.length:Nat):Int)==((plain:Nat):Int))=B at hb' ⊢
    by_cases g:n+Q > 1114111
    ·rw [Y5u g,Y7u,Ybu (.inl g)]
    ·rw [Y6u g,Y8u]
     have hM:((M.toNat:Nat):Int)=M:=Int.toNat_of_nonneg r0
     have go:¬(55296<=n+Q/\n+Q<=57343)->((Y54 (l,(M,[IntKind.i32.wrap (n+Q)]))).bind fun y2=> Z86 s y.2.1 (plain:Int) (IntKind.i64.wrap (M+1)) (n+Q) B y2)=
       some (decV s plain f y.2.1.toNat (M+1) (n+Q) B (ins l M.toNat (n+Q))):=by
      intro _
      rw [w32 (by omega) (by omega),<-hM,Y8j l M.toNat _ (by omega) (by omega),Y9u,hM,w64 (by omega) (by omega),h3,Ydu]
      exact ih m (M+1) (n+Q) B _ (by omega) (by omega) (by omega) (by omega) (by omega) (by omega) hb' (by rw [YGa _ _ _ (by omega)]; omega)
     by_cases a:n+Q>=55296
     ·rw [Y5u a,Y7u]
      by_cases b:n+Q<=57343
      ·rw [Y5u b,Y7u,Ybu (.inr ⟨a,b⟩)]
      ·rw [Y6u b,Y8u,Yau (by omega)]; exact go (by omega)
     ·rw [Y6u a,Y8u,Yau (by omega)]; exact go (by omega)
   ·rw [show (y.2.2.1 !=0)=true from by simp [e],Y7u,Ybu e]
  ·rw [Yt6,Yg,Y6u c,Y8u,Ybu (by omega)]
end Go.Abs
