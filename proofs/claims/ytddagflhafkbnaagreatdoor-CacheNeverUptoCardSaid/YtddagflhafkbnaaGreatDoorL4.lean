/- Part L4 of the proof: see the last text of the claim. No condition of its own. -/
import Derived.Test.YtddagflhafkbnaaGreatDoorL3
import Derived.Test.YtddagflhafkbnaaGreatDoorK8
set_option linter.all false
set_option autoImplicit false
namespace Go.Abs
def caps:List UInt8:=[48,49,50,51,52,53,54,55,56,57,65,66,67,68,69,70]
theorem Yis:(List.range 256).all (fun n=> decide ((let i:=Lib.indexByte caps (UInt8.ofNat (n:Int).toNat); if i>=0 then i else if 97<=(n:Int)/\(n:Int)<=102 then (n:Int) - 87 else -1)=nib (n:Int)))=true:=by kernel_rfl
theorem Yze (b:Int) (h0:0<=b) (h1:b<=255):Y07 b=some (nib b):=by
 obtain ⟨n,rfl⟩:=Y6v h0
 have:=YQu (Y3v.1 Yis n (List.mem_range.2 (by omega)))
 rw [Ymn,YKl,YP4,YB2]
 rw [show ([(48:UInt8),(49:UInt8),(50:UInt8),(51:UInt8),(52:UInt8),(53:UInt8),(54:UInt8),(55:UInt8),(56:UInt8),(57:UInt8),(65:UInt8),(66:UInt8),(67:UInt8),(68:UInt8),(69:UInt8),(70:UInt8)]:List UInt8)=caps from rfl,Yiu]
 simp only at this
 rw [<-this]
 by_cases a:Lib.indexByte caps (UInt8.ofNat (n:Int).toNat)>=0
 ·rw [Yeu a,Ygu,Yku a]
 ·rw [Yfu a,Yhu,Yju a]
  by_cases b:97<=(n:Int)
  ·rw [show decide ((n:Int)>=97)=true from Yeu b,Ygu]
   by_cases c:(n:Int)<=102
   ·rw [Yeu c,Ygu,Yku ⟨b,c⟩,w8 (by omega) (by omega),w64 (x:=(n:Int) - 97) (by omega) (by omega),w64 (by omega) (by omega)]
    congr 1; omega
   ·rw [Yfu c,Yhu,Yju (fun h=> c h.2)]
  ·rw [show decide ((n:Int)>=97)=false from Yfu b,Yhu,Yju (fun h=> b h.1)]
def trip (s:List UInt8) (k:Nat):Int:=if k+2 < s.length/\bat s k=37/\0<=nib (bat s (k+1))/\0<=nib (bat s (k+2)) then nib (bat s (k+1))*16+nib (bat s (k+2)) else -1
theorem Ymi (s:List UInt8) (k:Nat):-1<=trip s k/\trip s k<=255:=by
 have:=Yd3 (bat s (k+1))
 have:=Yd3 (bat s (k+2))
 unfold trip; split <;> omega
theorem or16 {h l:Int} (h0:0<=h/\h<=15) (l0:0<=l/\l<=15):bits Go.BinOp.or IntKind.i64 (shl IntKind.i64 h 4) l=h*16+l:=by
 rw [show shl IntKind.i64 h 4=h*16 from Yo6 (y:=4) (by omega) (by omega) (by omega)]
 obtain ⟨m,rfl⟩:=Y6v h0.1
 obtain ⟨n,rfl⟩:=Y6v l0.1
 have e1:(BitVec.ofInt 64 ((m:Int)*16)).toNat=2 ^ 4*m:=by
  rw [BitVec.toNat_ofInt]; omega
 have e2:(BitVec.ofInt 64 (n:Int)).toNat=n:=by
  rw [BitVec.toNat_ofInt]; omega
 have e:(BitVec.ofInt 64 ((m:Int)*16)|||BitVec.ofInt 64 (n:Int)).toNat=m*16+n:=by
  rw [BitVec.toNat_or,e1,e2,<-Nat.two_pow_add_eq_or_of_lt (by omega)]; omega
 show IntKind.i64.wrap (((BitVec.ofInt 64 ((m:Int)*16)|||BitVec.ofInt 64 (n:Int)).toNat:Nat):Int)=_
 rw [e,w64 (by omega) (by omega)]
 omega
theorem Yon (s:List UInt8) (k:Nat) (hs:s.length<=1073741824) (hk:k < s.length):YB9 (s,(k:Int))=some (trip s k):=by
 have e1:IntKind.i64.wrap ((k:Int)+1)=((k+1:Nat):Int):=by rw [w64 (by omega) (by omega)]; omega
 have e2:IntKind.i64.wrap ((k:Int)+2)=((k+2:Nat):Int):=by rw [w64 (by omega) (by omega)]; omega
 have b1:=Yt s (k+1)
 have b2:=Yt s (k+2)
 have n1:=Yd3 (bat s (k+1))
 have n2:=Yd3 (bat s (k+2))
 rw [Ynn,Yvj]
 simp only
 rw [e1,e2]
 unfold trip
 by_cases a:k+2 < s.length
 ·rw [show decide (((k+2:Nat):Int)>=(s.length:Int))=false from Yfu (by omega),Yhu,Yj,Yeu hk,Ygu,Ymu,Ymu,Ymu,
   show (((s.getD k 0).toNat:Nat):Int)=bat s k from rfl,show (((s.getD (k+1) 0).toNat:Nat):Int)=bat s (k+1) from rfl,show (((s.getD (k+2) 0).toNat:Nat):Int)=bat s (k+2) from rfl]
  by_cases b:bat s k=37
  ·rw [show (bat s k !=37)=false from by simpa using b,Yhu,Yj,Yeu (by omega),Ygu,Yj,Yeu a,Ygu,Yze _ b1.1 b1.2,Yiu,Yze _ b2.1 b2.2,Yiu]
   by_cases c:nib (bat s (k+1)) < 0
   ·rw [Yeu c,Ygu,Yju (by omega)]
   ·rw [Yfu c,Yhu]
    by_cases d:nib (bat s (k+2)) < 0
    ·rw [Yeu d,Ygu,Yju (by omega)]
    ·rw [Yfu d,Yhu,Yku (by omega),or16 (by omega) (by omega)]
  ·rw [show (bat s k !=37)=true from by simpa using b,Ygu,Yju (fun h=> b h.2.1)]
 ·rw [show decide (((k+2:Nat):Int)>=(s.length:Int))=true from Yeu (by omega),Ygu,Yju (fun h=> a h.1)]
def pdec (s:List UInt8):Nat->Nat->List Int
 | 0,_=> []
 | n+1,k=> if k < s.length then (if 0<=trip s k then trip s k::pdec s n (k+3) else bat s k::pdec s n (k+1)) else []
theorem Yd6 (s:List UInt8):∀ (n k:Nat),(pdec s n k).length<=n
 | 0,_=> by simp [pdec]
 | n+1,k=> by
  unfold pdec
  split
  ·split
   ·simp only [Ynu]; have:=Yd6 s n (k+3); omega
   ·simp only [Ynu]; have:=Yd6 s n (k+1); omega
  ·simp
theorem YN8 (s:List UInt8) (hs:s.length<=1073741824):∀ (n k:Nat) (r:List Int),s.length<=k+n->k<=s.length->r.length+n<=1073741824->Zg2 s (k:Int) r=some (r++pdec s n k)
 | 0,k,r,hn,hk,hr=> by
  rw [Y7d,Yg,Yfu (by omega),Yhu,pdec,YHu]
 | n+1,k,r,hn,hk,hr=> by
  rw [Y7d,Yg]
  unfold pdec
  by_cases c:k < s.length
  ·have ht:=Ymi s k
   rw [Yeu c,Ygu,Yku c,Yon s k hs c,Yiu]
   by_cases d:0<=trip s k
   ·have hk2:k+2 < s.length:=by
     unfold trip at d
     split at d
     ·rename_i h; exact h.1
     ·omega
    rw [show decide (trip s k>=0)=true from Yeu d,Ygu,Yku d,w8 d ht.2,show decide (r.length+[trip s k].length<=lim)=true from Yeu (by simp [lim]; omega),Ygu,
     w64 (x:=(k:Int)+2) (by omega) (by omega),w64 (by omega) (by omega),show (k:Int)+2+1=((k+3:Nat):Int) from by omega,YN8 s hs n (k+3) _ (by omega) (by omega) (by simp; omega),Ypu]
    rfl
   ·rw [show decide (trip s k>=0)=false from Yfu d,Yhu,Yju d,Yj,Yeu c,Ygu,Ymu,show (((s.getD k 0).toNat:Nat):Int)=bat s k from rfl,
     show decide (r.length+[bat s k].length<=lim)=true from Yeu (by simp [lim]; omega),Ygu,w64 (by omega) (by omega),show (k:Int)+1=((k+1:Nat):Int) from by omega,YN8 s hs n (k+1) _ (by omega) (by omega) (by simp; omega),Ypu]
    rfl
  ·rw [Yfu c,Yhu,Yju c,YHu]
def YM (s:List UInt8):List UInt8:=YG1 (Yn (pdec s s.length 0))
theorem Yen (s:List UInt8) (hs:s.length<=1000000000):Y84 s=some (YM s):=by
 rw [Ydn,YPl,Yfn,Y8k]
 have h:=YN8 s (by omega) s.length 0 [] (by omega) (by omega) (by simp; omega)
 have hl:=Yd6 s s.length 0
 rw [show ((0:Nat):Int)=0 from rfl] at h
 rw [h,Yiu,YIu,Yrf _ (by unfold Yn; rw [YVu]; omega)]
 rfl
theorem YWp (s:List UInt8):(YM s).length<=4*s.length:=by
 have h1:=YXb (Yn (pdec s s.length 0))
 have h2:=Yd6 s s.length 0
 unfold YM
 unfold Yn at h1 ⊢
 rw [YVu] at h1
 omega
theorem Yjq:(List.range 256).all (fun n=> Ya (shr IntKind.u8 (n:Int) 4) 16&&(Ya (bits Go.BinOp.and IntKind.u8 (n:Int) 15) 16))=true:=by kernel_rfl
def esc (c:Int):List Int:=[37,(((caps.getD (shr IntKind.u8 c 4).toNat 0).toNat:Nat):Int),(((caps.getD (bits Go.BinOp.and IntKind.u8 c 15).toNat 0).toNat:Nat):Int)]
theorem Ykn (l:List Int) (c:Int) (hl:l.length<=4294967200) (h0:0<=c) (h1:c<=255):YA9 (l,c)=some (l++esc c):=by
 obtain ⟨n,rfl⟩:=Y6v h0
 have:=Y3v.1 Yjq n (List.mem_range.2 (by omega))
 rw [Ylu] at this
 rw [Yjn,YSi]
 simp only
 rw [show ([(48:UInt8),(49:UInt8),(50:UInt8),(51:UInt8),(52:UInt8),(53:UInt8),(54:UInt8),(55:UInt8),(56:UInt8),(57:UInt8),(65:UInt8),(66:UInt8),(67:UInt8),(68:UInt8),(69:UInt8),(70:UInt8)]:List UInt8)=caps from rfl,show caps.length=16 from rfl,this.1,Ygu,this.2,Ygu]
 rw [show decide (l.length+[(37:Int),(((caps.getD (shr IntKind.u8 (n:Int) 4).toNat 0).toNat:Nat):Int),(((caps.getD (bits Go.BinOp.and IntKind.u8 (n:Int) 15).toNat 0).toNat:Nat):Int)].length<=lim)=true from Yeu (by simp [lim]; omega),Ygu]
 rfl
def ctlSet:List Bool:=(List.range 256).map fun c=> decide (c < 32)||decide (126 < c)
def YCq (o:Option (List (List Bool))):Option (List Bool):=match o with
 | some l=> some (l.getD 1 [])
 | none=> none
theorem YXl:YCq (Yr2 E (run E 20000) 221 ())=some ctlSet:=by kernel_rfl
theorem Yhs:∃ y:List (List Bool),Yxe ()=some y/\y.getD 1 []=ctlSet:=by
 have h:=YXl
 cases hr:Yr2 E (run E 20000) 221 () with
 | none=> rw [hr] at h; cases h
 | some y=>
  rw [hr] at h
  exact ⟨y,Yy6 E hr,Option.some.inj h⟩
def encB (c:Int):List Int:=if ctlSet.getD c.toNat false=true then esc c else [c]
theorem YUf (c:Int):1<=(encB c).length/\(encB c).length<=3:=by unfold encB esc; split <;> simp
theorem YP8 (b:List Int) (hb:∀ x∈b,0<=x/\x<=255) (hl:b.length<=1000000000):∀ (n i:Nat) (r:List Int),i+n=b.length->r.length<=3*i->Zd2 1 b b (b.length:Int) (i:Int) ctlSet r=some (Yn (r++(b.drop i).flatMap encB),0)
 | 0,i,r,h,hr=> by
  have:i=b.length:=by omega
  subst this
  rw [YUc,Yg,Yfu (YGu _),Yhu,YUu]; simp
 | n+1,i,r,h,hr=> by
  have hi:i < b.length:=by omega
  have hw:IntKind.i64.wrap ((i:Int)+1)=((i+1:Nat):Int):=by rw [w64 (by omega) (by omega)]; omega
  have hg:List.getD b (Int.toNat (i:Int)) (Ty.zero (.int .u8))=b[i]:=by
   rw [Ymu,Yvu,Ywu hi]; rfl
  have hx:=hb _ (List.getElem_mem hi)
  have he:=YUf b[i]
  have hin:Ya b[i] 256=true:=by unfold Ya; rw [Yeu hx.1,Yeu (by omega)]; rfl
  rw [YUc,Yg,Yeu hi,Ygu,Yj,Yeu hi,Ygu,hg,hin,Ygu,hw,show (Ty.zero .bool:Bool)=false from rfl,Yru hi,List.flatMap_cons]
  cases hc:ctlSet.getD b[i].toNat false with
  | true=>
   have e:encB b[i]=esc b[i]:=by unfold encB; rw [Yku hc]
   rw [Ygu,Ykn r _ (by omega) hx.1 hx.2,Yiu,YP8 b hb hl n (i+1) _ (by omega) (by rw [You,<-e]; omega),e,Ypu]
  | false=>
   have e:encB b[i]=[b[i]]:=by unfold encB; rw [Yju (by rw [hc]; simp)]
   rw [Yhu,show decide (r.length+[b[i]].length<=lim)=true from Yeu (by simp [lim]; omega),Ygu,YP8 b hb hl n (i+1) _ (by omega) (by rw [You,<-e]; omega),e,Ypu]
def Y22 (s:List UInt8):List UInt8:=Yn ((YL (YG1 s)).flatMap encB)
theorem Yhn (s:List UInt8) (hs:s.length<=200000000):Y94 (1,s)=some (Y22 s,0):=by
 have hl:=YXb s
 have hbl:(YL (YG1 s)).length=(YG1 s).length:=by unfold YL; rw [YVu]
 rw [Ygn,YIl]
 simp only
 rw [Yrf s (by omega),Yiu,Yin,YZj]
 simp only
 rw [Yln,YQl,show decide ((1:Int)>=1)=true from rfl,Ygu,show decide ((1:Int)<=8)=true from rfl,Yiu,YEu,Yhu]
 obtain ⟨y,h1,h2⟩:=Yhs
 rw [h1,Yiu,show Ya (1:Int) 9=true from rfl,Ygu]
 have hget:List.getD y (Int.toNat 1) (Ty.zero (.arr 256 .bool))=ctlSet:=by
  rw [<-h2]
  cases hy:y[1]? with
  | none=>
   exfalso
   have:y.getD 1 []=[]:=by rw [Yvu,hy]; rfl
   rw [h2] at this
   exact absurd (congrArg List.length this) (by simp [ctlSet])
  | some z=>
   have e:Int.toNat 1=1:=rfl
   rw [e,Yvu,Yvu,hy]; rfl
 rw [hget]
 have hb:∀ x∈YL (YG1 s),0<=x/\x<=255:=by
  intro x hx
  obtain ⟨b,_,rfl⟩:=List.mem_map.1 hx
  exact YK2 b
 have:=YP8 (YL (YG1 s)) hb (by omega) (YL (YG1 s)).length 0 [] (by omega) (by simp)
 rw [show ((0:Nat):Int)=0 from rfl] at this
 rw [this]; rfl
end Go.Abs
namespace Go.Abs
theorem Ywh (s:List UInt8) (k:Nat) (hk:k < s.length) (h:¬ut1 s k=true):128<=(Yk s k).1/\∀ j,j < wd s k->128<=bat s (k+j):=by
 have hb0:128<=bat s k:=by
  unfold ut1 at h
  rw [Yxu] at h; omega
 unfold wd Yk
 rw [Yju h]
 by_cases q2:ut2 s k=true
 ·rw [Yku q2]
  have:=YQu q2
  refine ⟨this.2.2.2,fun j hj=> ?_⟩
  have hj:j < 2:=hj
  have e:j=0\/j=1:=by omega
  rcases e with rfl | rfl
  ·exact hb0
  ·omega
 rw [Yju q2]
 by_cases q3:ut3 s k=true
 ·rw [Yku q3]
  unfold ut3 at q3
  rw [Ylu] at q3
  have:=YQu q3.1
  refine ⟨by have:=this.2.2.2.2; dsimp only; omega,fun j hj=> ?_⟩
  have hj:j < 3:=hj
  have e:j=0\/j=1\/j=2:=by omega
  rcases e with rfl | rfl | rfl
  ·exact hb0
  ·omega
  ·omega
 rw [Yju q3]
 by_cases q4:ut4 s k=true
 ·rw [Yku q4]
  unfold ut4 at q4
  rw [Ylu] at q4
  have:=YQu q4.1
  refine ⟨by have:=this.2.2.2.2.2; dsimp only; omega,fun j hj=> ?_⟩
  have hj:j < 4:=hj
  have e:j=0\/j=1\/j=2\/j=3:=by omega
  rcases e with rfl | rfl | rfl | rfl
  ·exact hb0
  ·omega
  ·omega
  ·omega
 rw [Yju q4]
 refine ⟨by dsimp only; omega,fun j hj=> ?_⟩
 have hj:j < 1:=hj
 have e:j=0:=by omega
 subst e; exact hb0
theorem Yxh (s:List UInt8) (k:Nat) (h:ut1 s k=true):(Yk s k).1=bat s k/\wd s k=1:=by
 unfold wd Yk; rw [Yku h]; exact ⟨rfl,rfl⟩
theorem Yx1 (s:List UInt8) (k:Nat) (hk:k < s.length):s.drop k=s[k]::s.drop (k+1)/\Y9 s[k]=bat s k:=by
 refine ⟨Yru hk,?_⟩
 unfold bat; rw [Yvu,Ywu hk]; rfl
theorem YYd (s:List UInt8) (P:Int->Bool) (hP:∀ x,128<=x->P x=false):∀ (w k:Nat),k+w<=s.length->(∀ j,j < w->128<=bat s (k+j))->(s.drop k).any (fun b=> P (Y9 b))=(s.drop (k+w)).any (fun b=> P (Y9 b))
 | 0,k,_,_=> rfl
 | w+1,k,h,hj=> by
  obtain ⟨h1,h2⟩:=Yx1 s k (by omega)
  have h0:=hj 0 (by omega)
  rw [Nat.add_zero] at h0
  rw [h1,List.any_cons,h2,hP _ h0,YCu,YYd s P hP w (k+1) (by omega) (fun j hw=> by have:=hj (j+1) (by omega); rwa [show k+1+j=k+(j+1) from by omega])]
  rw [show k+1+w=k+(w+1) from by omega]
theorem YWd (s:List UInt8) (P:Int->Bool) (hP:∀ x,128<=x->P x=false):∀ (n k:Nat),s.length<=k+n->((pcs s n k).map (·.2.1)).any P=(s.drop k).any (fun b=> P (Y9 b))
 | 0,k,h=> by rw [YPu (by omega)]; rfl
 | n+1,k,h=> by
  unfold pcs
  by_cases c:k < s.length
  ·have hw:=Y92 s k c
   rw [Yku c,YBu,List.any_cons,YWd s P hP n (k+wd s k) (by omega)]
   by_cases q:ut1 s k=true
   ·obtain ⟨e1,e2⟩:=Yxh s k q
    obtain ⟨h1,h2⟩:=Yx1 s k c
    rw [e2,h1,List.any_cons,h2]
    dsimp only
    rw [e1]
   ·obtain ⟨e1,e2⟩:=Ywh s k c q
    rw [YYd s P hP (wd s k) k hw.2.2.1 e2]
    dsimp only
    rw [hP _ e1,YCu]
  ·rw [Yju c,YPu (by omega)]; rfl
theorem Y99 (s:List UInt8):∀ (n k:Nat),s.length<=k+n->((pcs s n k).map (·.2.1)).any (fun x=> decide (127 < x))=(s.drop k).any (fun b=> decide (127 < Y9 b))
 | 0,k,h=> by rw [YPu (by omega)]; rfl
 | n+1,k,h=> by
  unfold pcs
  by_cases c:k < s.length
  ·have hw:=Y92 s k c
   obtain ⟨h1,h2⟩:=Yx1 s k c
   rw [Yku c,YBu,List.any_cons,Y99 s n (k+wd s k) (by omega),h1,List.any_cons,h2]
   dsimp only
   by_cases q:ut1 s k=true
   ·obtain ⟨e1,e2⟩:=Yxh s k q
    rw [e2,e1]
   ·obtain ⟨e1,e2⟩:=Ywh s k c q
    have hb:=e2 0 (by omega)
    rw [Nat.add_zero] at hb
    rw [Yeu (show 127 < (Yk s k).1 by omega),Yeu (show 127 < bat s k by omega),YDu,YDu]
  ·rw [Yju c,YPu (by omega)]; rfl
def Yd1 (s:List UInt8):Bool:=!(s.any fun b=> decide (127 < Y9 b))
def Yn3 (b:Bool) (o:Option Int):Prop:=∃ y:Int,o=some y/\decide (y>=0)=b
theorem Ylg {b:Bool} {y:Int} (h:decide (y>=0)=b):decide (y < 0)=!b:=by
 subst h
 by_cases c:y>=0
 ·rw [Yeu c,Yfu (by omega)]; rfl
 ·rw [Yfu c,Yeu (by omega)]; rfl
theorem Ykg (s:List UInt8):∀ (n k:Nat),s.length<=k+n->k<=s.length->Yn3 (((pcs s n k).map (·.2.1)).any fun x=> decide (127 < x)) (Zh3 s () true s k)
 | 0,k,h,hk=> by
  rw [Yad,Yfu (by omega),Yhu]
  exact ⟨-1,rfl,rfl⟩
 | n+1,k,h,hk=> by
  rw [Yad]
  unfold pcs
  by_cases c:k < s.length
  ·have hw:=Y92 s k c
   rw [Yeu c,Ygu,Yku c,YHm,YBj,Yiu,Yi4,Yy3,YBu,List.any_cons]
   dsimp only
   by_cases d:(127:Int) < (Yk s k).1
   ·rw [show decide ((Yk s k).1 > 127)=true from Yeu d,show (true==true)=true from rfl,Ygu,YDu]
    exact ⟨_,rfl,Yeu (by omega)⟩
   ·rw [show decide ((Yk s k).1 > 127)=false from Yfu d,show (false==true)=false from rfl,Yhu,YCu]
    exact Ykg s n (k+wd s k) (by omega) (by omega)
  ·rw [Yfu c,Yhu,Yju c]
   exact ⟨-1,rfl,rfl⟩
theorem YJm (s:List UInt8):Yu9 s=some (Yd1 s):=by
 rw [YIm,Yvk,Ybp,YGk,Yjp,Ybk]
 obtain ⟨y,h1,h2⟩:=Ykg s s.length 0 (by omega) (by omega)
 rw [Y99 s s.length 0 (by omega),YZu] at h2
 simp only
 rw [h1]
 simp only [Yiu]
 rw [Ylg h2]; rfl
theorem Yzh (s:List UInt8):∀ (n k:Nat),s.length<=k+n->k<=s.length->Yn3 (((pcs s n k).map (·.2.1)).any fun x=> decide (127 < x)) (Zj3 s () true s k)
 | 0,k,h,hk=> by
  rw [Yfd,Yfu (by omega),Yhu]
  exact ⟨-1,rfl,rfl⟩
 | n+1,k,h,hk=> by
  rw [Yfd]
  unfold pcs
  by_cases c:k < s.length
  ·have hw:=Y92 s k c
   rw [Yeu c,Ygu,Yku c,Yxn,Yml,Yiu,Yi4,Yy3,YBu,List.any_cons]
   dsimp only
   by_cases d:(127:Int) < (Yk s k).1
   ·rw [show decide ((Yk s k).1 > 127)=true from Yeu d,show (true==true)=true from rfl,Ygu,YDu]
    exact ⟨_,rfl,Yeu (by omega)⟩
   ·rw [show decide ((Yk s k).1 > 127)=false from Yfu d,show (false==true)=false from rfl,Yhu,YCu]
    exact Yzh s n (k+wd s k) (by omega) (by omega)
  ·rw [Yfu c,Yhu,Yju c]
   exact ⟨-1,rfl,rfl⟩
theorem YDe (s:List UInt8):Y27 s=some (Yd1 s):=by
 rw [Yyn,Ycl,Yap,YNk,Yip,Ykk]
 obtain ⟨y,h1,h2⟩:=Yzh s s.length 0 (by omega) (by omega)
 rw [Y99 s s.length 0 (by omega),YZu] at h2
 simp only
 rw [h1]
 simp only [Yiu]
 rw [Ylg h2]; rfl
def dotI (x:Int):Bool:=x==46||(x==12290||(x==65294||x==65377))
theorem Yje (x:Int):YU6 x=some (dotI x):=by
 rw [YNm,Y3j]
 unfold dotI
 cases (x==46) <;> cases (x==12290) <;> cases (x==65294) <;> rfl
theorem YQf (s:List UInt8):∀ (n k:Nat),s.length<=k+n->k<=s.length->Yn3 (((pcs s n k).map (·.2.1)).any dotI) (Zl3 s () true s k)
 | 0,k,h,hk=> by
  rw [Yid,Yfu (by omega),Yhu]
  exact ⟨-1,rfl,rfl⟩
 | n+1,k,h,hk=> by
  rw [Yid]
  unfold pcs
  by_cases c:k < s.length
  ·have hw:=Y92 s k c
   rw [Yeu c,Ygu,Yku c,Yje,Yiu,Yi4,Yy3,YBu,List.any_cons]
   dsimp only
   cases dotI (Yk s k).1 with
   | true=>
    rw [show (true==true)=true from rfl,Ygu,YDu]
    exact ⟨_,rfl,Yeu (by omega)⟩
   | false=>
    rw [show (false==true)=false from rfl,Yhu,YCu]
    exact YQf s n (k+wd s k) (by omega) (by omega)
  ·rw [Yfu c,Yhu,Yju c]
   exact ⟨-1,rfl,rfl⟩
def YX4 (s:List UInt8):Bool:=(Yq s).any dotI
theorem Yqm (s:List UInt8):Yn3 (YX4 s) (YQ5 (s,())):=by
 rw [Y9p,YSk,Yhp,Ywk]
 obtain ⟨y,h1,h2⟩:=YQf s s.length 0 (by omega) (by omega)
 simp only
 rw [h1]
 exact ⟨y,rfl,h2⟩
end Go.Abs
namespace Go.Abs
def forb:List UInt8:=[0,9,10,13,32,35,47,58,60,62,63,64,91,92,93,94,124]
def Y51 (x:Int):Bool:=forb.any fun b=> Y9 b==x
theorem Ybg (x:Int) (h:128<=x):Y51 x=false:=by
 unfold Y51
 rw [List.any_eq_false]
 intro b hb
 have:Y9 b < 128:=by
  have:∀ b∈forb,Y9 b < 128:=by decide
  exact this b hb
 simp only [Y7v]; omega
theorem Ywq:(List.range 128).all (fun n=> decide (Lib.indexByte forb (UInt8.ofNat (n:Int).toNat)>=0)==Y51 (n:Int))=true:=by kernel_rfl
theorem Yzq (x:Int) (h0:0<=x) (h1:x < 128):decide (Lib.indexByte forb (UInt8.ofNat x.toNat)>=0)=Y51 x:=by
 obtain ⟨n,rfl⟩:=Y6v h0
 have:=Y3v.1 Ywq n (List.mem_range.2 (by omega))
 exact Y7v.1 this
theorem Yug:∀ (l:List UInt8) (c:UInt8),(∀ b∈l,b≠c)->Lib.indexByte l c < 0
 | [],c,_=> by rw [Lib.indexByte]; omega
 | b::l,c,h=> by
  have ih:=Yug l c (fun x hx=> h x (by simp [hx]))
  have hb:=h b (by simp)
  unfold Lib.indexByte
  split
  ·rename_i e; exact absurd (by simpa using e) hb
  ·split
   ·omega
   ·rename_i e
    have:=Lib.indexByte_ge l c
    have:Lib.indexByte l c=-1:=by omega
    rw [this] at e; simp at e
theorem Ycq (r:Int) (h0:128<=r) (hr:scal r=true):∃ l b,Yy1 r=l++[b]/\128<=Y9 b/\l.length<=3:=by
 have hr:=YQu hr
 have hv:Utf8.valid r=true:=by
  unfold Utf8.valid
  simp only [Bool.or_eq_true,Ylu,Yxu]; omega
 have hb:∀ n:Nat,n < 64->128<=Y9 (UInt8.ofNat (128+n)):=by
  intro n hn
  unfold Y9
  rw [UInt8.toNat_ofNat',Nat.mod_eq_of_lt (by omega)]; omega
 unfold Yy1 Utf8.encode
 rw [Yku hv]
 by_cases a:r.toNat < 128
 ·omega
 ·rw [Yju a]
  by_cases b:r.toNat < 2048
  ·rw [Yku b]
   exact ⟨[_],_,rfl,hb _ (Nat.mod_lt _ (by omega)),by simp⟩
  ·rw [Yju b]
   by_cases c:r.toNat < 65536
   ·rw [Yku c]
    exact ⟨[_,_],_,rfl,hb _ (Nat.mod_lt _ (by omega)),by simp⟩
   ·rw [Yju c]
    exact ⟨[_,_,_],_,rfl,hb _ (Nat.mod_lt _ (by omega)),by simp⟩
theorem Y3u (r:Int) (hr:scal r=true):Yt7 r=some true:=by
 have hr:=YQu hr
 rw [Yop,Yrl,show decide ((0:Int)<=r)=true from Yeu hr.1,Ygu]
 by_cases a:r < 55296
 ·rw [Yeu a,Ygu]
 ·rw [Yfu a,Yhu,show decide ((57343:Int) < r)=true from Yeu (by omega),Ygu,show decide (r<=1114111)=true from Yeu hr.2.1,Ygu]
theorem Y2t:Yr7 (forb,65533)=some (-1):=Yy6 E (k:=2000) (by kernel_rfl)
theorem YLi (r:Int) (hr:scal r=true):Yn3 (Y51 r) (Yr7 (forb,r)):=by
 have hr':=YQu hr
 by_cases a:r < 128
 ·rw [Yff,Yyd]
  simp only
  rw [show decide ((0:Int)<=r)=true from Yeu hr'.1,Ygu,Yeu a,Ygu,YP4,YB2,w8 hr'.1 (by omega)]
  exact ⟨_,rfl,Yzq r hr'.1 a⟩
 ·rw [Ybg r (by omega)]
  by_cases b:r=65533
  ·subst b; exact ⟨-1,Y2t,rfl⟩
  ·obtain ⟨l,x,he,hx,hl⟩:=Ycq r (by omega) hr
   rw [Yff,Yyd]
   simp only
   rw [show decide ((0:Int)<=r)=true from Yeu hr'.1,Ygu,Yfu a,Yhu,show (r==65533)=false from Yqu.2 b,Yhu,Y3u r hr,Yiu,YEu,Yhu,he]
   have hlen:(l++[x]).length=l.length+1:=by simp
   have hw:IntKind.i64.wrap ((((l++[x]).length:Nat):Int) - 1)=((l.length:Nat):Int):=by rw [hlen,w64 (by omega) (by omega)]; omega
   have hfl:forb.length=17:=rfl
   have hw1:IntKind.i64.wrap (((l.length:Nat):Int)+1)=((l.length+1:Nat):Int):=by rw [w64 (by omega) (by omega)]; omega
   have hg:List.getD (l++[x]) l.length 0=x:=by simp [Yvu]
   have hfb:∀ b∈forb,Y9 b < 128:=by decide
   have hfg:Y9 (List.getD forb l.length 0) < 128:=by
    rw [Yvu,Ywu (show l.length < forb.length by omega)]
    exact hfb _ (List.getElem_mem _)
   rw [hw,Yvl,Yg,Yeu (by omega),Ygu,Yj,Yeu (by omega),Ygu,hlen,Yj,Yeu (by omega),Ygu,Ymu,hg]
   rw [show (((((List.getD forb l.length 0).toNat:Nat):Int)) !=((x.toNat:Nat):Int))=true from bne_iff_ne.2 (by
    have e1:(((List.getD forb l.length 0).toNat:Nat):Int)=Y9 (List.getD forb l.length 0):=rfl
    have e2:((x.toNat:Nat):Int)=Y9 x:=rfl
    rw [e1,e2]; omega),Ygu,hw1,Yi1 (by omega),Ygu,Ygu,YR1,YP4,YB2,Yiu]
   have hn:Lib.indexByte (forb.drop (l.length+1)) (UInt8.ofNat (((x.toNat:Nat):Int)).toNat) < 0:=by
    refine Yug _ _ (fun b hb e=> ?_)
    have h1:=hfb b (List.mem_of_mem_drop hb)
    rw [Ymu,UInt8.ofNat_toNat] at e
    subst e; omega
   rw [Yeu hn,Ygu]
   exact ⟨-1,rfl,rfl⟩
theorem Y9c (s:List UInt8):∀ (n k:Nat),s.length<=k+n->k<=s.length->Yn3 (((pcs s n k).map (·.2.1)).any Y51) (Zb2 s forb s k)
 | 0,k,h,hk=> by
  rw [YNc,Yfu (by omega),Yhu]
  exact ⟨-1,rfl,rfl⟩
 | n+1,k,h,hk=> by
  rw [YNc]
  unfold pcs
  by_cases c:k < s.length
  ·have hw:=Y92 s k c
   obtain ⟨y,h1,h2⟩:=YLi (Yk s k).1 (YEb s k)
   rw [Yeu c,Ygu,Yku c,Yi4,Yy3,h1,Yiu,YBu,List.any_cons]
   dsimp only
   rw [h2]
   cases Y51 (Yk s k).1 with
   | true=> rw [Ygu,YDu]; exact ⟨_,rfl,Yeu (by omega)⟩
   | false=> rw [Yhu,YCu]; exact Y9c s n (k+wd s k) (by omega) (by omega)
  ·rw [Yfu c,Yhu,Yju c]
   exact ⟨-1,rfl,rfl⟩
def YK7:List Bool:=(List.range 256).map fun n:Nat=> Y51 (n:Int)
theorem YCr:Ylf forb=some (YK7,true):=Yy6 E (k:=2000) (by kernel_rfl)
theorem Yvq (b:UInt8):List.getD YK7 b.toNat false=Y51 (Y9 b):=by
 have:=b.toNat_lt
 unfold YK7 Y9
 rw [Yvu,List.getElem?_map,List.getElem?_range this]; rfl
theorem Yac (s:List UInt8) (hs:s.length<=1073741824):∀ (n i:Nat),i+n=s.length->Yn3 ((s.drop i).any fun b=> Y51 (Y9 b)) (Z92 s forb (i:Int) YK7)
 | 0,i,h=> by
  have:i=s.length:=by omega
  subst this
  rw [YIc,Yg,Yfu (YGu _),Yhu,YUu]
  exact ⟨-1,rfl,rfl⟩
 | n+1,i,h=> by
  have hi:i < s.length:=by omega
  have hw:IntKind.i64.wrap ((i:Int)+1)=((i+1:Nat):Int):=by rw [w64 (by omega) (by omega)]; omega
  have hg:List.getD s i 0=s[i]:=by rw [Yvu,Ywu hi]; rfl
  have hb:=s[i].toNat_lt
  rw [YIc,Yg,Yeu hi,Ygu,Yj,Yeu hi,Ygu,Ymu,hg,Ygp,YJl]
  simp only
  rw [Yj,Yeu hb,Ygu,Yiu,Ymu,show (Ty.zero .bool:Bool)=false from rfl,Yvq,hw,Yru hi,List.any_cons]
  dsimp only
  cases Y51 (Y9 s[i]) with
  | true=> rw [Ygu,YDu]; exact ⟨_,rfl,Yeu (by omega)⟩
  | false=> rw [Yhu,YCu]; exact Yac s hs n (i+1) (by omega)
def YB3 (s:List UInt8):Bool:=s.any fun b=> Y51 (Y9 b)
theorem Yzi (s:List UInt8) (hs:s.length<=1073741824):Yc4 (s,forb)=some (YB3 s):=by
 have key:Yn3 (YB3 s) (Y9a (s,forb)):=by
  rw [Y8p,Yuj]
  simp only
  rw [show (forb==([]:List UInt8))=false from rfl,Yhu,show (((forb.length:Nat):Int)==1)=false from rfl,Yhu,Ykp,YFl,Yiu]
  by_cases c:((s.length:Nat):Int) > 8
  ·rw [Yeu c,Ygu,YCr,Yiu,Ygu]
   exact Yac s hs s.length 0 (by omega)
  ·rw [Yfu c,Yhu,YOj]
   have:=Y9c s s.length 0 (by omega) (by omega)
   rw [YWd s Y51 (fun x hx=> Ybg x hx) s.length 0 (by omega),YZu] at this
   exact this
 obtain ⟨y,h1,h2⟩:=key
 rw [Y2p,YEl,h1,Yiu,h2]
end Go.Abs
namespace Go.Abs
def thr (k bias:Int):Int:=if k<=bias then 1 else if bias+26<=k then 26 else k - bias
theorem YT3 (k bias:Int):1<=thr k bias/\thr k bias<=26:=by
 unfold thr; split
 ·omega
 ·split <;> omega
theorem YF9 (k bias:Int) (h1:0<=k/\k<=1099511627776) (h2:0<=bias/\bias<=4096):Y57 (k,bias)=some (thr k bias):=by
 rw [YEn,YVj]
 simp only
 rw [w64 (x:=bias+26) (by omega) (by omega),w64 (x:=k - bias) (by omega) (by omega)]
 unfold thr
 by_cases a:k<=bias
 ·rw [Yeu a,Ygu,Yku a]
 ·rw [Yfu a,Yhu,Yju a]
  by_cases b:bias+26<=k
  ·rw [show decide (k>=bias+26)=true from Yeu b,Ygu,Yku b]
  ·rw [show decide (k>=bias+26)=false from Yfu b,Yhu,Yju b]
def YO1:Nat->Int->Int->Int
 | 0,d,k=> k+36*d / (d+38)
 | n+1,d,k=> if 455 < d then YO1 n (d / 35) (k+36) else k+36*d / (d+38)
def Yh1 (delta points:Int) (first:Bool):Int:=
 let d:=if first=true then delta / 700 else delta / 2
 YO1 11 (d+d / points) 0
theorem YSd:∀ (n:Nat) (d k:Int),0<=d->0<=k->0<=YO1 n d k/\YO1 n d k<=k+36*n+36
 | 0,d,k,hd,hk=> by
  unfold YO1
  have h1:0<=36*d / (d+38):=Int.ediv_nonneg (by omega) (by omega)
  have h2:36*d / (d+38)<=36:=by
   apply Int.le_of_lt_add_one
   apply Int.ediv_lt_of_lt_mul (by omega); omega
  omega
 | n+1,d,k,hd,hk=> by
  unfold YO1
  split
  ·have:=YSd n (d / 35) (k+36) (by omega) (by omega); omega
  ·have h1:0<=36*d / (d+38):=Int.ediv_nonneg (by omega) (by omega)
   have h2:36*d / (d+38)<=36:=by
    apply Int.le_of_lt_add_one
    apply Int.ediv_lt_of_lt_mul (by omega); omega
   omega
theorem YCh (d:Int) (hd:0<=d):0<=36*d / (d+38)/\36*d / (d+38)<=36:=by
 refine ⟨Int.ediv_nonneg (by omega) (by omega),?_⟩
 apply Int.le_of_lt_add_one
 apply Int.ediv_lt_of_lt_mul (by omega); omega
theorem YRd (pts:Int) (fst:Bool) (d k:Int) (hd:0<=d) (hn:d<=455) (hk:0<=k) (hk2:k<=100000):Z34 d pts fst k=some (k+36*d / (d+38)):=by
 have h:=YCh d hd
 rw [Ytc,show decide (d > 455)=false from Yfu (by omega),Yhu,w64 (x:=d+38) (by omega) (by omega),show (d+38 !=0)=true from bne_iff_ne.2 (by omega),Ygu,w64 (x:=36*d) (by omega) (by omega),YMu (by omega),w64 (x:=36*d / (d+38)) (by omega) (by omega),w64 (by omega) (by omega)]
theorem YTl (pts:Int) (fst:Bool) (d k:Int) (hd:455 < d) (hd2:d<=9223372036854775807) (hk:0<=k) (hk2:k<=100000):Z34 d pts fst k=Z34 (d / 35) pts fst (k+36):=by
 rw [Ytc,show decide (d > 455)=true from Yeu hd,Ygu,YMu (by omega),w64 (x:=d / 35) (by omega) (by omega),w64 (x:=k+36) (by omega) (by omega)]
def lid:Nat->Int
 | 0=> 455
 | n+1=> 35*lid n+34
theorem YUl (pts:Int) (fst:Bool) (n:Nat):∀ (d k:Int),0<=d->d<=lid n->d<=9223372036854775807->0<=k->k+36*(n:Int)<=100000->Z34 d pts fst k=some (YO1 n d k):=by
 induction n with
 | zero=> intro d k hd hn _ hk hk2; exact YRd pts fst d k hd hn hk (by omega)
 | succ n ih=>
  intro d k hd hn hb hk hk2
  unfold YO1
  unfold lid at hn
  by_cases c:455 < d
  ·rw [Yku c,YTl pts fst d k c hb hk (by omega)]
   exact ih (d / 35) (k+36) (by omega) (by omega) (by omega) (by omega) (by omega)
  ·rw [Yju c]; exact YRd pts fst d k hd (by omega) hk (by omega)
theorem YQg:4611686018427387904<=lid 11:=by decide
theorem YBe (delta points:Int) (first:Bool) (h0:0<=delta) (h1:delta<=1099511627776) (hp:1<=points) (hp2:points<=1099511627776):YC5 (delta,points,first)=some (Yh1 delta points first):=by
 have key:∀ d:Int,0<=d->d<=1099511627776->Z24 d points first=some (YO1 11 (d+d / points) 0):=by
  intro d a b
  have q0:0<=d / points:=Int.ediv_nonneg a (by omega)
  have q1:d / points<=d:=Int.ediv_le_self _ a
  have:=YQg
  rw [Y5j,show (points !=0)=true from bne_iff_ne.2 (by omega),Ygu,YMu a,w64 (x:=d / points) (by omega) (by omega),w64 (x:=d+d / points) (by omega) (by omega)]
  exact YUl points first 11 _ 0 (by omega) (by omega) (by omega) (by omega) (by omega)
 rw [Ywn,YYi]
 simp only
 unfold Yh1
 cases first with
 | true=>
  rw [Ygu,YMu h0,w64 (x:=delta / 700) (by omega) (by omega),key _ (by omega) (by omega)]; rfl
 | false=>
  rw [Yhu,YMu h0,w64 (x:=delta / 2) (by omega) (by omega),key _ (by omega) (by omega)]; rfl
theorem Y34 (delta points:Int) (first:Bool) (h0:0<=delta) (hp:1<=points):0<=Yh1 delta points first/\Yh1 delta points first<=4096:=by
 unfold Yh1
 have key:∀ d:Int,0<=d->0<=YO1 11 (d+d / points) 0/\YO1 11 (d+d / points) 0<=4096:=by
  intro d a
  have q0:0<=d / points:=Int.ediv_nonneg a (by omega)
  have:=YSd 11 (d+d / points) 0 (by omega) (by omega)
  omega
 cases first with
 | true=> exact key _ (by rw [Yku rfl]; omega)
 | false=> exact key _ (by rw [Yju (by simp)]; omega)
end Go.Abs
namespace Go.Abs
def az36:List UInt8:=[97,98,99,100,101,102,103,104,105,106,107,108,109,110,111,112,113,114,115,116,117,118,119,120,121,122,48,49,50,51,52,53,54,55,56,57]
def dval (b:Int):Int:=if 97<=b/\b<=122 then b - 97 else if 65<=b/\b<=90 then b - 65 else if 48<=b/\b<=57 then b - 22 else -1
theorem YSf (b:Int):-1<=dval b/\dval b<=35:=by
 unfold dval; split
 ·omega
 ·split
  ·omega
  ·split <;> omega
def dexp (n:Nat):Int:=
 let i:=Lib.indexByte az36 (UInt8.ofNat (n:Int).toNat)
 let c:=bits Go.BinOp.or IntKind.u8 (n:Int) 32
 if i < 0 then (if 97<=c/\c<=122 then IntKind.i64.wrap (IntKind.u8.wrap (c - 97)) else i) else i
theorem Y1q:(List.range 256).all (fun n=> decide (dexp n=dval (n:Int)))=true:=by kernel_rfl
theorem Y2q (n:Nat) (h:n < 256):dexp n=dval (n:Int):=YQu (Y3v.1 Y1q n (List.mem_range.2 h))
def numV (s:List UInt8) (bias:Int) (fr:Nat):Nat->Nat->Int->Int->Int->Int×(Int×(Int×Int))
 | 0,at',_,_,_=> (0,(0,(31,(at':Int))))
 | n+1,at',i,w,k=>
  if dval (bat s at') < 0 then (0,(0,(31,(at':Int))))
  else if 2147483647 < i+dval (bat s at')*w then (0,(0,(32,(fr:Int))))
  else if dval (bat s at') < thr k bias then (i+dval (bat s at')*w,(((at'+1:Nat):Int),(0,0)))
  else if 2147483647 < w*(36 - thr k bias) then (0,(0,(32,(fr:Int))))
  else numV s bias fr n (at'+1) (i+dval (bat s at')*w) (w*(36 - thr k bias)) (k+36)
theorem Ys4 {a b A B:Int} (ha:0<=a) (hb:0<=b) (h1:a<=A) (h2:b<=B):0<=a*b/\a*b<=A*B:=⟨Int.mul_nonneg ha hb,Int.mul_le_mul h1 h2 hb (Int.le_trans ha h1)⟩
theorem Y3b {a b:Int} (ha:1<=a) (hb:1<=b):1<=a*b:=by
 have:=Int.mul_le_mul ha hb (by omega) (by omega)
 omega
theorem YMr (s:List UInt8) (bias:Int) (fr:Nat) (hs:s.length<=1073741824) (hb:0<=bias/\bias<=4096) (n:Nat):∀ (at':Nat) (i w k:Int),at'+n=s.length->0<=i->i<=2147483647->1<=w->w<=2147483647->0<=k->k+36*(n:Int)<=1099511627776->
  Z64 s (at':Int) i bias (fr:Int) w k=some (numV s bias fr n at' i w k):=by
 induction n with
 | zero=>
  intro at' i w k hat _ _ _ _ _ _
  rw [YDc,show (((at':Nat):Int)==((s.length:Nat):Int))=true from Y7v.2 (by omega),Ygu]
  rfl
 | succ n ih=>
  intro at' i w k hat hi0 hi1 hw0 hw1 hk0 hk1
  have hlt:at' < s.length:=by omega
  have hby:=Yt s at'
  have hd:=YSf (bat s at')
  have ht:=YT3 k bias
  have hx:dexp (s.getD at' 0).toNat=dval (bat s at'):=Y2q _ (s.getD at' 0).toNat_lt
  have hwat:IntKind.i64.wrap ((at':Int)+1)=((at'+1:Nat):Int):=by rw [w64 (by omega) (by omega)]; omega
  have key:Z74 s (at':Int) i bias (fr:Int) w k (dval (bat s at'))=some (numV s bias fr (n+1) at' i w k):=by
   rw [Ywj]
   unfold numV
   by_cases a:dval (bat s at') < 0
   ·rw [Yeu a,Ygu,Yku a]
   ·have hm:=Ys4 (a:=dval (bat s at')) (b:=w) (A:=35) (B:=2147483647) (by omega) (by omega) hd.2 hw1
    rw [Yfu a,Yhu,Yju a,w64 (x:=dval (bat s at')*w) (by omega) (by omega),w64 (x:=i+dval (bat s at')*w) (by omega) (by omega)]
    by_cases b:2147483647 < i+dval (bat s at')*w
    ·rw [show decide (i+dval (bat s at')*w > 2147483647)=true from Yeu b,Ygu,Yku b]
    ·rw [show decide (i+dval (bat s at')*w > 2147483647)=false from Yfu b,Yhu,Yju b,YF9 k bias ⟨hk0,by omega⟩ hb,Yiu]
     by_cases c:dval (bat s at') < thr k bias
     ·rw [Yeu c,Ygu,Yku c,hwat]
     ·have hm2:=Ys4 (a:=w) (b:=36 - thr k bias) (A:=2147483647) (B:=35) (by omega) (by omega) hw1 (by omega)
      have hm3:1<=w*(36 - thr k bias):=Y3b hw0 (by omega)
      rw [Yfu c,Yhu,Yju c,w64 (x:=36 - thr k bias) (by omega) (by omega),w64 (x:=w*(36 - thr k bias)) (by omega) (by omega)]
      by_cases e:2147483647 < w*(36 - thr k bias)
      ·rw [show decide (w*(36 - thr k bias) > 2147483647)=true from Yeu e,Ygu,Yku e]
      ·rw [show decide (w*(36 - thr k bias) > 2147483647)=false from Yfu e,Yhu,Yju e,hwat,w64 (x:=k+36) (by omega) (by omega)]
       exact ih (at'+1) _ _ _ (by omega) (by omega) (by omega) hm3 (by omega) (by omega) (by omega)
  rw [YDc,show (((at':Nat):Int)==((s.length:Nat):Int))=false from Yqu.2 (by omega),Yhu,Yj,Yeu hlt,Ygu,Ymu,YP4,YB2,Yiu,Ygu]
  rw [show ([(97:UInt8),(98:UInt8),(99:UInt8),(100:UInt8),(101:UInt8),(102:UInt8),(103:UInt8),(104:UInt8),(105:UInt8),(106:UInt8),(107:UInt8),(108:UInt8),(109:UInt8),(110:UInt8),(111:UInt8),(112:UInt8),(113:UInt8),(114:UInt8),(115:UInt8),(116:UInt8),(117:UInt8),(118:UInt8),(119:UInt8),(120:UInt8),(121:UInt8),(122:UInt8),(48:UInt8),(49:UInt8),(50:UInt8),(51:UInt8),(52:UInt8),(53:UInt8),(54:UInt8),(55:UInt8),(56:UInt8),(57:UInt8)]:List UInt8)=az36 from rfl]
  unfold dexp at hx
  simp only at hx
  generalize Lib.indexByte az36 (UInt8.ofNat (((s.getD at' 0).toNat:Nat):Int).toNat)=x at hx ⊢
  generalize bits Go.BinOp.or IntKind.u8 (((s.getD at' 0).toNat:Nat):Int) 32=c at hx ⊢
  by_cases a:x < 0
  ·rw [Yku a] at hx
   rw [Yeu a,Ygu]
   by_cases b:97<=c
   ·rw [show decide (c>=97)=true from Yeu b,Ygu]
    by_cases e:c<=122
    ·rw [Yku ⟨b,e⟩] at hx
     rw [Yeu e,Ygu,hx]; exact key
    ·rw [Yju (fun h=> e h.2)] at hx
     rw [Yfu e,Yhu,hx]; exact key
   ·rw [Yju (fun h=> b h.1)] at hx
    rw [show decide (c>=97)=false from Yfu b,Yhu,hx]; exact key
  ·rw [Yju a] at hx
   rw [Yfu a,Yhu,hx]; exact key
theorem YDn (s:List UInt8) (at':Nat) (i bias:Int) (hs:s.length<=1073741824) (hat:at'<=s.length) (hi0:0<=i) (hi1:i<=2147483647) (hb:0<=bias/\bias<=4096):
  Y47 (s,(at':Int),i,bias)=some (numV s bias at' (s.length - at') at' i 1 36):=by
 rw [YCn,Ykj]
 exact YMr s bias at' hs hb (s.length - at') at' i 1 36 (by omega) hi0 hi1 (by omega) (by omega) (by omega) (by omega)
theorem YXa (s:List UInt8) (bias:Int) (fr:Nat) (n:Nat):∀ (at':Nat) (i w k:Int),0<=i->1<=w->at'+n=s.length->(numV s bias fr n at' i w k).2.2.1=0->
  i<=(numV s bias fr n at' i w k).1/\(numV s bias fr n at' i w k).1<=2147483647/\∃ m:Nat,(numV s bias fr n at' i w k).2.1=(m:Int)/\at' < m/\m<=s.length:=by
 induction n with
 | zero=> intro at' i w k _ _ _ h; exact absurd h (by unfold numV; simp)
 | succ n ih=>
  intro at' i w k hi hw hat
  have ht:=YT3 k bias
  unfold numV
  by_cases a:dval (bat s at') < 0
  ·rw [Yku a]; intro h; exact absurd h (by simp)
  ·rw [Yju a]
   have hm:0<=dval (bat s at')*w:=Int.mul_nonneg (by omega) (by omega)
   by_cases b:2147483647 < i+dval (bat s at')*w
   ·rw [Yku b]; intro h; exact absurd h (by simp)
   ·rw [Yju b]
    by_cases c:dval (bat s at') < thr k bias
    ·rw [Yku c]; intro _; exact ⟨by dsimp only; omega,by dsimp only; omega,at'+1,rfl,by omega,by omega⟩
    ·rw [Yju c]
     by_cases e:2147483647 < w*(36 - thr k bias)
     ·rw [Yku e]; intro h; exact absurd h (by simp)
     ·rw [Yju e]
      intro h
      have hm3:1<=w*(36 - thr k bias):=Y3b hw (by omega)
      obtain ⟨h1,h2,m,h3,h4,h5⟩:=ih (at'+1) _ _ _ (by omega) hm3 (by omega) h
      exact ⟨by omega,h2,m,h3,by omega,h5⟩
end Go.Abs
namespace Go.Abs
def Yv6:Value->Int
 | .int _ n=> n
 | _=> 0
theorem Y0i (s:List UInt8):∀ (n k:Nat) (acc:Array Value),((Conv.runesFrom ⟨s.toArray⟩ n k acc).map Yv6).toList=(acc.map Yv6).toList++(pcs s n k).map (·.2.1)
 | 0,k,acc=> by simp [Conv.runesFrom,pcs]
 | n+1,k,acc=> by
  unfold Conv.runesFrom pcs
  have hsz:(⟨s.toArray⟩:ByteArray).size=s.length:=by simp [ByteArray.size]
  rw [hsz]
  by_cases c:k < s.length
  ·rw [Yku c,Yku c]
   have h1:(((Utf8.decode ⟨s.toArray⟩ k).1:Nat):Int)=(Yk s k).1:=Yi4 s k
   have h2:(Utf8.decode ⟨s.toArray⟩ k).2=wd s k:=Yy3 s k
   show ((Conv.runesFrom ⟨s.toArray⟩ n (k+(Utf8.decode ⟨s.toArray⟩ k).2) (acc.push (.int .i32 (Int.ofNat (Utf8.decode ⟨s.toArray⟩ k).1)))).map Yv6).toList=_
   rw [Y0i s n _ _,h2,Array.map_push,Array.toList_push,YBu,Ypu]
   have e:Yv6 (.int .i32 (Int.ofNat (Utf8.decode ⟨s.toArray⟩ k).1))=(Yk s k).1:=h1
   rw [e]; rfl
  ·rw [Yju c,Yju c]; simp
theorem Y1i (s:List UInt8):YD s=Yq s:=by
 have h:=Y0i s s.length 0 #[]
 have e:YD s=((Conv.runesFrom ⟨s.toArray⟩ s.length 0 #[]).map Yv6).toList:=by
  unfold YD
  congr 2
 rw [e,h]; simp [Yq,Y72]
def Yp (s:List UInt8):Nat->Int
 | 0=> -1
 | n+1=> if bat s n=45 then (n:Int) else Yp s n
theorem YY7 (s:List UInt8):∀ n:Nat,-1<=Yp s n/\Yp s n < n
 | 0=> by unfold Yp; omega
 | n+1=> by
  have:=YY7 s n
  unfold Yp; split <;> omega
theorem YKg (s:List UInt8) (hs:s.length<=1073741824):∀ n:Nat,n<=s.length->Zd4 s 45 ((n:Int) - 1)=some (Yp s n)
 | 0,h=> by
  rw [YWc,show decide (((0:Nat):Int) - 1>=0)=false from rfl,Yhu]; rfl
 | n+1,h=> by
  have e:((n+1:Nat):Int) - 1=(n:Int):=by omega
  rw [e,YWc,show decide ((n:Int)>=0)=true from Yeu (by omega),Ygu,Yj,Yeu (by omega),Ygu,Ymu,show (((s.getD n 0).toNat:Nat):Int)=bat s n from rfl]
  unfold Yp
  by_cases c:bat s n=45
  ·rw [show (bat s n==45)=true from Y7v.2 c,Ygu,Yku c]
  ·rw [show (bat s n==45)=false from Yqu.2 c,Yhu,Yju c,w64 (by omega) (by omega),YKg s hs n (by omega)]
theorem Y2n (s:List UInt8) (hs:s.length<=1073741824):Yaa (s,45)=some (Yp s s.length):=by
 rw [Yep,Yfj,YWm,Y0k]
 simp only
 rw [w64 (by omega) (by omega),YKg s hs s.length (Nat.le_refl _)]; rfl
def ins (l:List Int) (i:Nat) (x:Int):List Int:=l.take i++[x]++l.drop i
theorem YKa (l:List Int) (i:Nat) (x:Int) (h:i<=l.length):(ins l i x).length=l.length+1:=by
 unfold ins; simp; omega
theorem YMi (l:List Int) (i:Nat) (x:Int) (hi:i<=l.length) (hl:l.length<=4294967296):Yb4 (l,(i:Int),[x])=some (ins l i x):=by
 rw [Y1p,Yw4]
 simp only
 rw [show decide ((0:Int)<=(i:Int))=true from Yeu (by omega),show decide ((i:Int)<=(l.length:Int))=true from Yeu (by omega),show decide ([x].length=1)=true from rfl,Yeu hl]
 rfl
def decV (s:List UInt8) (plain:Nat):Nat->Nat->Int->Int->Int->List Int->List UInt8×(Int×Int)
 | 0,_,_,_,_,l=> (YT2 l,(0,0))
 | f+1,at',i,n,bias,l=>
  if s.length<=at' then (YT2 l,(0,0))
  else if (numV s bias at' (s.length - at') at' i 1 36).2.2.1≠0 then ([],((numV s bias at' (s.length - at') at' i 1 36).2.2.1,(numV s bias at' (s.length - at') at' i 1 36).2.2.2))
  else if 1114111 < n+(numV s bias at' (s.length - at') at' i 1 36).1 / ((l.length+1:Nat):Int)\/(55296<=n+(numV s bias at' (s.length - at') at' i 1 36).1 / ((l.length+1:Nat):Int)/\n+(numV s bias at' (s.length - at') at' i 1 36).1 / ((l.length+1:Nat):Int)<=57343) then ([],(32,(at':Int)))
  else decV s plain f (numV s bias at' (s.length - at') at' i 1 36).2.1.toNat ((numV s bias at' (s.length - at') at' i 1 36).1 % ((l.length+1:Nat):Int)+1) (n+(numV s bias at' (s.length - at') at' i 1 36).1 / ((l.length+1:Nat):Int))
   (Yh1 ((numV s bias at' (s.length - at') at' i 1 36).1 - i) ((l.length+1:Nat):Int) (((l.length:Nat):Int)==((plain:Nat):Int))) (ins l ((numV s bias at' (s.length - at') at' i 1 36).1 % ((l.length+1:Nat):Int)).toNat (n+(numV s bias at' (s.length - at') at' i 1 36).1 / ((l.length+1:Nat):Int)))
theorem YLf (s:List UInt8) (plain:Nat) (hs:s.length<=1073741824) (f:Nat):∀ (at':Nat) (i n bias:Int) (l:List Int),s.length<=at'+f->at'<=s.length->0<=i->i<=2147483647->128<=n->n<=1114111->0<=bias/\bias<=4096->l.length<=at'->
  Zr3 s (at':Int) (plain:Int) i n bias l=some (decV s plain f at' i n bias l):=by
 induction f with
 | zero=>
  intro at' i n bias l hf hat _ _ _ _ _ _
  rw [YJ6,Yg,Yfu (by omega),Yhu]; rfl
 | succ f ih=>
  intro at' i n bias l hf hat hi0 hi1 hn0 hn1 hb hl
  unfold decV
  by_cases c:at' < s.length
  ·rw [YJ6,Yg,Yeu c,Ygu,YDn s at' i bias hs hat hi0 hi1 hb,Yiu,Yju (by omega)]
   have hfacts:=YXa s bias at' (s.length - at') at' i 1 36 hi0 (by omega) (by omega)
   generalize numV s bias at' (s.length - at') at' i 1 36=y at hfacts ⊢
   by_cases e:y.2.2.1=0
   ·obtain ⟨h1,h2,m,h3,h4,h5⟩:=hfacts e
    have hpts:IntKind.i64.wrap (((l.length:Nat):Int)+1)=((l.length+1:Nat):Int):=by rw [w64 (by omega) (by omega)]; omega
    have q0:0<=y.1 / ((l.length+1:Nat):Int):=Int.ediv_nonneg (by omega) (by omega)
    have q1:y.1 / ((l.length+1:Nat):Int)<=y.1:=Int.ediv_le_self _ (by omega)
    have r0:0<=y.1 % ((l.length+1:Nat):Int):=Int.emod_nonneg _ (by omega)
    have r1:y.1 % ((l.length+1:Nat):Int) < ((l.length+1:Nat):Int):=Int.emod_lt_of_pos _ (by omega)
    have hb':=Y34 (y.1 - i) ((l.length+1:Nat):Int) (((l.length:Nat):Int)==((plain:Nat):Int)) (by omega) (by omega)
    rw [show (y.2.2.1 !=0)=false from by simp [e],Yhu,Yju (fun h=> h e),w64 (x:=y.1 - i) (by omega) (by omega),hpts,YBe _ _ _ (by omega) (by omega) (by omega) (by omega),Yiu]
    rw [show (((l.length+1:Nat):Int) !=0)=true from bne_iff_ne.2 (by omega),Ygu,YMu (by omega),Int.tmod_eq_emod_of_nonneg (by omega),w64 (x:=y.1 / ((l.length+1:Nat):Int)) (by omega) (by omega),w64 (x:=n+y.1 / ((l.length+1:Nat):Int)) (by omega) (by omega)]
    simp only [Ygu]
    generalize y.1 / ((l.length+1:Nat):Int)=Q at q0 q1 ⊢
    generalize y.1 % ((l.length+1:Nat):Int)=M at r0 r1 ⊢
    generalize Yh1 (y.1 - i) ((l.length+1:Nat):Int) (((l.length:Nat):Int)==((plain:Nat):Int))=B at hb' ⊢
    by_cases g:n+Q > 1114111
    ·rw [Yeu g,Ygu,Yku (.inl g)]
    ·rw [Yfu g,Yhu]
     have hM:((M.toNat:Nat):Int)=M:=Int.toNat_of_nonneg r0
     have go:¬(55296<=n+Q/\n+Q<=57343)->((Yb4 (l,(M,[IntKind.i32.wrap (n+Q)]))).bind fun y2=> Zr3 s y.2.1 (plain:Int) (IntKind.i64.wrap (M+1)) (n+Q) B y2)=
       some (decV s plain f y.2.1.toNat (M+1) (n+Q) B (ins l M.toNat (n+Q))):=by
      intro _
      rw [w32 (by omega) (by omega),<-hM,YMi l M.toNat _ (by omega) (by omega),Yiu,hM,w64 (by omega) (by omega),h3,Ymu]
      exact ih m (M+1) (n+Q) B _ (by omega) (by omega) (by omega) (by omega) (by omega) (by omega) hb' (by rw [YKa _ _ _ (by omega)]; omega)
     by_cases a:n+Q>=55296
     ·rw [Yeu a,Ygu]
      by_cases b:n+Q<=57343
      ·rw [Yeu b,Ygu,Yku (.inr ⟨a,b⟩)]
      ·rw [Yfu b,Yhu,Yju (by omega)]; exact go (by omega)
     ·rw [Yfu a,Yhu,Yju (by omega)]; exact go (by omega)
   ·rw [show (y.2.2.1 !=0)=true from by simp [e],Ygu,Yku e]
  ·rw [YJ6,Yg,Yfu c,Yhu,Yku (by omega)]
end Go.Abs
