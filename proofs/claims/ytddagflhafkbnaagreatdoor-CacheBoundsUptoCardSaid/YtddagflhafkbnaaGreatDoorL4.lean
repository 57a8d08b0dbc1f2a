/- Part L4 of the proof: see the last text of the claim. No condition of its own. -/
import Derived.Test.YtddagflhafkbnaaGreatDoorL3
import Derived.Test.YtddagflhafkbnaaGreatDoorK8
set_option linter.all false
set_option autoImplicit false
namespace Go.Abs
def caps:List UInt8:=[48,49,50,51,52,53,54,55,56,57,65,66,67,68,69,70]
theorem Yhl:(List.range 256).all (fun n=> decide ((let i:=Lib.indexByte caps (UInt8.ofNat (n:Int).toNat); if i>=0 then i else if 97<=(n:Int)/\(n:Int)<=102 then (n:Int) - 87 else -1)=nib (n:Int)))=true:=by kernel_rfl
theorem Yfb (b:Int) (h0:0<=b) (h1:b<=255):YF5 b=some (nib b):=by
 obtain ⟨n,rfl⟩:=Int.eq_ofNat_of_zero_le h0
 have:=of_decide_eq_true (List.all_eq_true.1 Yhl n (List.mem_range.2 (by omega)))
 rw [YJh,YNe,YY3,YY1]
 rw [show ([(48:UInt8),(49:UInt8),(50:UInt8),(51:UInt8),(52:UInt8),(53:UInt8),(54:UInt8),(55:UInt8),(56:UInt8),(57:UInt8),(65:UInt8),(66:UInt8),(67:UInt8),(68:UInt8),(69:UInt8),(70:UInt8)]:List UInt8)=caps from rfl,YOm]
 simp only at this
 rw [<-this]
 by_cases a:Lib.indexByte caps (UInt8.ofNat (n:Int).toNat)>=0
 ·rw [YKm a,YMm,YQm a]
 ·rw [YLm a,YNm,YPm a]
  by_cases b:97<=(n:Int)
  ·rw [show decide ((n:Int)>=97)=true from YKm b,YMm]
   by_cases c:(n:Int)<=102
   ·rw [YKm c,YMm,YQm ⟨b,c⟩,w8 (by omega) (by omega),w64 (x:=(n:Int) - 97) (by omega) (by omega),w64 (by omega) (by omega)]
    congr 1; omega
   ·rw [YLm c,YNm,YPm (fun h=> c h.2)]
  ·rw [show decide ((n:Int)>=97)=false from YLm b,YNm,YPm (fun h=> b h.1)]
def trip (s:List UInt8) (k:Nat):Int:=if k+2 < s.length/\bat s k=37/\0<=nib (bat s (k+1))/\0<=nib (bat s (k+2)) then nib (bat s (k+1))*16+nib (bat s (k+2)) else -1
theorem Ytm (s:List UInt8) (k:Nat):-1<=trip s k/\trip s k<=255:=by
 have:=Y65 (bat s (k+1))
 have:=Y65 (bat s (k+2))
 unfold trip; split <;> omega
theorem or16 {h l:Int} (h0:0<=h/\h<=15) (l0:0<=l/\l<=15):bits Go.BinOp.or IntKind.i64 (shl IntKind.i64 h 4) l=h*16+l:=by
 rw [show shl IntKind.i64 h 4=h*16 from YOd (y:=4) (by omega) (by omega) (by omega)]
 obtain ⟨m,rfl⟩:=Int.eq_ofNat_of_zero_le h0.1
 obtain ⟨n,rfl⟩:=Int.eq_ofNat_of_zero_le l0.1
 have e1:(BitVec.ofInt 64 ((m:Int)*16)).toNat=2 ^ 4*m:=by
  rw [BitVec.toNat_ofInt]; omega
 have e2:(BitVec.ofInt 64 (n:Int)).toNat=n:=by
  rw [BitVec.toNat_ofInt]; omega
 have e:(BitVec.ofInt 64 ((m:Int)*16)|||BitVec.ofInt 64 (n:Int)).toNat=m*16+n:=by
  rw [BitVec.toNat_or,e1,e2,<-Nat.two_pow_add_eq_or_of_lt (by omega)]; omega
 show IntKind.i64.wrap (((BitVec.ofInt 64 ((m:Int)*16)|||BitVec.ofInt 64 (n:Int)).toNat:Nat):Int)=_
 rw [e,w64 (by omega) (by omega)]
 omega
theorem YLh (s:List UInt8) (k:Nat) (hs:s.length<=1073741824) (hk:k < s.length):YJ7 (s,(k:Int))=some (trip s k):=by
 have e1:IntKind.i64.wrap ((k:Int)+1)=((k+1:Nat):Int):=by rw [w64 (by omega) (by omega)]; omega
 have e2:IntKind.i64.wrap ((k:Int)+2)=((k+2:Nat):Int):=by rw [w64 (by omega) (by omega)]; omega
 have b1:=Yj2 s (k+1)
 have b2:=Yj2 s (k+2)
 have n1:=Y65 (bat s (k+1))
 have n2:=Y65 (bat s (k+2))
 rw [YKh,Yjf]
 simp only
 rw [e1,e2]
 unfold trip
 by_cases a:k+2 < s.length
 ·rw [show decide (((k+2:Nat):Int)>=(s.length:Int))=false from YLm (by omega),YNm,Ym,YKm hk,YMm,YSm,YSm,YSm,
   show (((s.getD k 0).toNat:Nat):Int)=bat s k from rfl,show (((s.getD (k+1) 0).toNat:Nat):Int)=bat s (k+1) from rfl,show (((s.getD (k+2) 0).toNat:Nat):Int)=bat s (k+2) from rfl]
  by_cases b:bat s k=37
  ·rw [show (bat s k !=37)=false from by simpa using b,YNm,Ym,YKm (by omega),YMm,Ym,YKm a,YMm,Yfb _ b1.1 b1.2,YOm,Yfb _ b2.1 b2.2,YOm]
   by_cases c:nib (bat s (k+1)) < 0
   ·rw [YKm c,YMm,YPm (by omega)]
   ·rw [YLm c,YNm]
    by_cases d:nib (bat s (k+2)) < 0
    ·rw [YKm d,YMm,YPm (by omega)]
    ·rw [YLm d,YNm,YQm (by omega),or16 (by omega) (by omega)]
  ·rw [show (bat s k !=37)=true from by simpa using b,YMm,YPm (fun h=> b h.2.1)]
 ·rw [show decide (((k+2:Nat):Int)>=(s.length:Int))=true from YKm (by omega),YMm,YPm (fun h=> a h.1)]
def pdec (s:List UInt8):Nat->Nat->List Int
 | 0,_=> []
 | n+1,k=> if k < s.length then (if 0<=trip s k then trip s k::pdec s n (k+3) else bat s k::pdec s n (k+1)) else []
theorem Y09 (s:List UInt8):∀ (n k:Nat),(pdec s n k).length<=n
 | 0,_=> by simp [pdec]
 | n+1,k=> by
  unfold pdec
  split
  ·split
   ·simp only [YTm]; have:=Y09 s n (k+3); omega
   ·simp only [YTm]; have:=Y09 s n (k+1); omega
  ·simp
theorem Y67 (s:List UInt8) (hs:s.length<=1073741824):∀ (n k:Nat) (r:List Int),s.length<=k+n->k<=s.length->r.length+n<=1073741824->Zo1 s (k:Int) r=some (r++pdec s n k)
 | 0,k,r,hn,hk,hr=> by
  rw [Yja,Yl,YLm (by omega),YNm,pdec,Ydn]
 | n+1,k,r,hn,hk,hr=> by
  rw [Yja,Yl]
  unfold pdec
  by_cases c:k < s.length
  ·have ht:=Ytm s k
   rw [YKm c,YMm,YQm c,YLh s k hs c,YOm]
   by_cases d:0<=trip s k
   ·have hk2:k+2 < s.length:=by
     unfold trip at d
     split at d
     ·rename_i h; exact h.1
     ·omega
    rw [show decide (trip s k>=0)=true from YKm d,YMm,YQm d,w8 d ht.2,show decide (r.length+[trip s k].length<=lim)=true from YKm (by simp [lim]; omega),YMm,
     w64 (x:=(k:Int)+2) (by omega) (by omega),w64 (by omega) (by omega),show (k:Int)+2+1=((k+3:Nat):Int) from by omega,Y67 s hs n (k+3) _ (by omega) (by omega) (by simp; omega),YVm]
    rfl
   ·rw [show decide (trip s k>=0)=false from YLm d,YNm,YPm d,Ym,YKm c,YMm,YSm,show (((s.getD k 0).toNat:Nat):Int)=bat s k from rfl,
     show decide (r.length+[bat s k].length<=lim)=true from YKm (by simp [lim]; omega),YMm,w64 (by omega) (by omega),show (k:Int)+1=((k+1:Nat):Int) from by omega,Y67 s hs n (k+1) _ (by omega) (by omega) (by simp; omega),YVm]
    rfl
  ·rw [YLm c,YNm,YPm c,Ydn]
def Yv1 (s:List UInt8):List UInt8:=Y22 (Yx (pdec s s.length 0))
theorem YBh (s:List UInt8) (hs:s.length<=1000000000):Yg3 s=some (Yv1 s):=by
 rw [YAh,YQe,YCh,YIf]
 have h:=Y67 s (by omega) s.length 0 [] (by omega) (by omega) (by simp; omega)
 have hl:=Y09 s s.length 0
 rw [show ((0:Nat):Int)=0 from rfl] at h
 rw [h,YOm,Yen,YEb _ (by unfold Yx; rw [List.length_map]; omega)]
 rfl
theorem Ymj:(List.range 256).all (fun n=> Yb (shr IntKind.u8 (n:Int) 4) 16&&(Yb (bits Go.BinOp.and IntKind.u8 (n:Int) 15) 16))=true:=by kernel_rfl
def esc (c:Int):List Int:=[37,(((caps.getD (shr IntKind.u8 c 4).toNat 0).toNat:Nat):Int),(((caps.getD (bits Go.BinOp.and IntKind.u8 c 15).toNat 0).toNat:Nat):Int)]
theorem YHh (l:List Int) (c:Int) (hl:l.length<=4294967200) (h0:0<=c) (h1:c<=255):YI7 (l,c)=some (l++esc c):=by
 obtain ⟨n,rfl⟩:=Int.eq_ofNat_of_zero_le h0
 have:=List.all_eq_true.1 Ymj n (List.mem_range.2 (by omega))
 rw [YRm] at this
 rw [YGh,YWe]
 simp only
 rw [show ([(48:UInt8),(49:UInt8),(50:UInt8),(51:UInt8),(52:UInt8),(53:UInt8),(54:UInt8),(55:UInt8),(56:UInt8),(57:UInt8),(65:UInt8),(66:UInt8),(67:UInt8),(68:UInt8),(69:UInt8),(70:UInt8)]:List UInt8)=caps from rfl,show caps.length=16 from rfl,this.1,YMm,this.2,YMm]
 rw [show decide (l.length+[(37:Int),(((caps.getD (shr IntKind.u8 (n:Int) 4).toNat 0).toNat:Nat):Int),(((caps.getD (bits Go.BinOp.and IntKind.u8 (n:Int) 15).toNat 0).toNat:Nat):Int)].length<=lim)=true from YKm (by simp [lim]; omega),YMm]
 rfl
def ctlSet:List Bool:=(List.range 256).map fun c=> decide (c < 32)||decide (126 < c)
def YEj (o:Option (List (List Bool))):Option (List Bool):=match o with
 | some l=> some (l.getD 1 [])
 | none=> none
theorem Yng:YEj (YS1 E (run E 20000) 221 ())=some ctlSet:=by kernel_rfl
theorem Ygl:∃ y:List (List Bool),Ydb ()=some y/\y.getD 1 []=ctlSet:=by
 have h:=Yng
 cases hr:YS1 E (run E 20000) 221 () with
 | none=> rw [hr] at h; cases h
 | some y=>
  rw [hr] at h
  exact ⟨y,Yo5 E hr,Option.some.inj h⟩
def encB (c:Int):List Int:=if ctlSet.getD c.toNat false=true then esc c else [c]
theorem Ydj (c:Int):1<=(encB c).length/\(encB c).length<=3:=by unfold encB esc; split <;> simp
theorem Y77 (b:List Int) (hb:∀ x∈b,0<=x/\x<=255) (hl:b.length<=1000000000):∀ (n i:Nat) (r:List Int),i+n=b.length->r.length<=3*i->Zl1 1 b b (b.length:Int) (i:Int) ctlSet r=some (Yx (r++(b.drop i).flatMap encB),0)
 | 0,i,r,h,hr=> by
  have:i=b.length:=by omega
  subst this
  rw [Yda,Yl,YLm (Ycn _),YNm,List.drop_length]; simp
 | n+1,i,r,h,hr=> by
  have hi:i < b.length:=by omega
  have hw:IntKind.i64.wrap ((i:Int)+1)=((i+1:Nat):Int):=by rw [w64 (by omega) (by omega)]; omega
  have hg:List.getD b (Int.toNat (i:Int)) (Ty.zero (.int .u8))=b[i]:=by
   rw [YSm,Y1n,Y2n hi]; rfl
  have hx:=hb _ (List.getElem_mem hi)
  have he:=Ydj b[i]
  have hin:Yb b[i] 256=true:=by unfold Yb; rw [YKm hx.1,YKm (by omega)]; rfl
  rw [Yda,Yl,YKm hi,YMm,Ym,YKm hi,YMm,hg,hin,YMm,hw,show (Ty.zero .bool:Bool)=false from rfl,YXm hi,List.flatMap_cons]
  cases hc:ctlSet.getD b[i].toNat false with
  | true=>
   have e:encB b[i]=esc b[i]:=by unfold encB; rw [YQm hc]
   rw [YMm,YHh r _ (by omega) hx.1 hx.2,YOm,Y77 b hb hl n (i+1) _ (by omega) (by rw [YUm,<-e]; omega),e,YVm]
  | false=>
   have e:encB b[i]=[b[i]]:=by unfold encB; rw [YPm (by rw [hc]; simp)]
   rw [YNm,show decide (r.length+[b[i]].length<=lim)=true from YKm (by simp [lim]; omega),YMm,Y77 b hb hl n (i+1) _ (by omega) (by rw [YUm,<-e]; omega),e,YVm]
def Y34 (s:List UInt8):List UInt8:=Yx ((YK (Y22 s)).flatMap encB)
theorem YEh (s:List UInt8) (hs:s.length<=200000000):Yh3 (1,s)=some (Y34 s,0):=by
 have hl:=YDm s
 have hbl:(YK (Y22 s)).length=(Y22 s).length:=by unfold YK; rw [List.length_map]
 rw [YDh,YLe]
 simp only
 rw [YEb s (by omega),YOm,YFh,YBf]
 simp only
 rw [YIh,YRe,show decide ((1:Int)>=1)=true from rfl,YMm,show decide ((1:Int)<=8)=true from rfl,YOm,Yan,YNm]
 obtain ⟨y,h1,h2⟩:=Ygl
 rw [h1,YOm,show Yb (1:Int) 9=true from rfl,YMm]
 have hget:List.getD y (Int.toNat 1) (Ty.zero (.arr 256 .bool))=ctlSet:=by
  rw [<-h2]
  cases hy:y[1]? with
  | none=>
   exfalso
   have:y.getD 1 []=[]:=by rw [Y1n,hy]; rfl
   rw [h2] at this
   exact absurd (congrArg List.length this) (by simp [ctlSet])
  | some z=>
   have e:Int.toNat 1=1:=rfl
   rw [e,Y1n,Y1n,hy]; rfl
 rw [hget]
 have hb:∀ x∈YK (Y22 s),0<=x/\x<=255:=by
  intro x hx
  obtain ⟨b,_,rfl⟩:=List.mem_map.1 hx
  exact Ym7 b
 have:=Y77 (YK (Y22 s)) hb (by omega) (YK (Y22 s)).length 0 [] (by omega) (by simp)
 rw [show ((0:Nat):Int)=0 from rfl] at this
 rw [this]; rfl
end Go.Abs
namespace Go.Abs
theorem Ymd (s:List UInt8) (k:Nat) (hk:k < s.length) (h:¬ut1 s k=true):128<=(Yj s k).1/\∀ j,j < wd s k->128<=bat s (k+j):=by
 have hb0:128<=bat s k:=by
  unfold ut1 at h
  rw [Y3n] at h; omega
 unfold wd Yj
 rw [YPm h]
 by_cases q2:ut2 s k=true
 ·rw [YQm q2]
  have:=of_decide_eq_true q2
  refine ⟨this.2.2.2,fun j hj=> ?_⟩
  have hj:j < 2:=hj
  have e:j=0\/j=1:=by omega
  rcases e with rfl | rfl
  ·exact hb0
  ·omega
 rw [YPm q2]
 by_cases q3:ut3 s k=true
 ·rw [YQm q3]
  unfold ut3 at q3
  rw [YRm] at q3
  have:=of_decide_eq_true q3.1
  refine ⟨by have:=this.2.2.2.2; dsimp only; omega,fun j hj=> ?_⟩
  have hj:j < 3:=hj
  have e:j=0\/j=1\/j=2:=by omega
  rcases e with rfl | rfl | rfl
  ·exact hb0
  ·omega
  ·omega
 rw [YPm q3]
 by_cases q4:ut4 s k=true
 ·rw [YQm q4]
  unfold ut4 at q4
  rw [YRm] at q4
  have:=of_decide_eq_true q4.1
  refine ⟨by have:=this.2.2.2.2.2; dsimp only; omega,fun j hj=> ?_⟩
  have hj:j < 4:=hj
  have e:j=0\/j=1\/j=2\/j=3:=by omega
  rcases e with rfl | rfl | rfl | rfl
  ·exact hb0
  ·omega
  ·omega
  ·omega
 rw [YPm q4]
 refine ⟨by dsimp only; omega,fun j hj=> ?_⟩
 have hj:j < 1:=hj
 have e:j=0:=by omega
 subst e; exact hb0
theorem Ynd (s:List UInt8) (k:Nat) (h:ut1 s k=true):(Yj s k).1=bat s k/\wd s k=1:=by
 unfold wd Yj; rw [YQm h]; exact ⟨rfl,rfl⟩
theorem Yb2 (s:List UInt8) (k:Nat) (hk:k < s.length):s.drop k=s[k]::s.drop (k+1)/\Y9 s[k]=bat s k:=by
 refine ⟨YXm hk,?_⟩
 unfold bat; rw [Y1n,Y2n hk]; rfl
theorem YFa (s:List UInt8) (P:Int->Bool) (hP:∀ x,128<=x->P x=false):∀ (w k:Nat),k+w<=s.length->(∀ j,j < w->128<=bat s (k+j))->(s.drop k).any (fun b=> P (Y9 b))=(s.drop (k+w)).any (fun b=> P (Y9 b))
 | 0,k,_,_=> rfl
 | w+1,k,h,hj=> by
  obtain ⟨h1,h2⟩:=Yb2 s k (by omega)
  have h0:=hj 0 (by omega)
  rw [Nat.add_zero] at h0
  rw [h1,List.any_cons,h2,hP _ h0,Y8n,YFa s P hP w (k+1) (by omega) (fun j hw=> by have:=hj (j+1) (by omega); rwa [show k+1+j=k+(j+1) from by omega])]
  rw [show k+1+w=k+(w+1) from by omega]
theorem YEa (s:List UInt8) (P:Int->Bool) (hP:∀ x,128<=x->P x=false):∀ (n k:Nat),s.length<=k+n->((pcs s n k).map (·.2.1)).any P=(s.drop k).any (fun b=> P (Y9 b))
 | 0,k,h=> by rw [List.drop_eq_nil_of_le (by omega)]; rfl
 | n+1,k,h=> by
  unfold pcs
  by_cases c:k < s.length
  ·have hw:=Y12 s k c
   rw [YQm c,Y7n,List.any_cons,YEa s P hP n (k+wd s k) (by omega)]
   by_cases q:ut1 s k=true
   ·obtain ⟨e1,e2⟩:=Ynd s k q
    obtain ⟨h1,h2⟩:=Yb2 s k c
    rw [e2,h1,List.any_cons,h2]
    dsimp only
    rw [e1]
   ·obtain ⟨e1,e2⟩:=Ymd s k c q
    rw [YFa s P hP (wd s k) k hw.2.2.1 e2]
    dsimp only
    rw [hP _ e1,Y8n]
  ·rw [YPm c,List.drop_eq_nil_of_le (by omega)]; rfl
theorem Yi7 (s:List UInt8):∀ (n k:Nat),s.length<=k+n->((pcs s n k).map (·.2.1)).any (fun x=> decide (127 < x))=(s.drop k).any (fun b=> decide (127 < Y9 b))
 | 0,k,h=> by rw [List.drop_eq_nil_of_le (by omega)]; rfl
 | n+1,k,h=> by
  unfold pcs
  by_cases c:k < s.length
  ·have hw:=Y12 s k c
   obtain ⟨h1,h2⟩:=Yb2 s k c
   rw [YQm c,Y7n,List.any_cons,Yi7 s n (k+wd s k) (by omega),h1,List.any_cons,h2]
   dsimp only
   by_cases q:ut1 s k=true
   ·obtain ⟨e1,e2⟩:=Ynd s k q
    rw [e2,e1]
   ·obtain ⟨e1,e2⟩:=Ymd s k c q
    have hb:=e2 0 (by omega)
    rw [Nat.add_zero] at hb
    rw [YKm (show 127 < (Yj s k).1 by omega),YKm (show 127 < bat s k by omega),Y9n,Y9n]
  ·rw [YPm c,List.drop_eq_nil_of_le (by omega)]; rfl
def YG2 (s:List UInt8):Bool:=!(s.any fun b=> decide (127 < Y9 b))
def YB2 (b:Bool) (o:Option Int):Prop:=∃ y:Int,o=some y/\decide (y>=0)=b
theorem Yvc {b:Bool} {y:Int} (h:decide (y>=0)=b):decide (y < 0)=!b:=by
 subst h
 by_cases c:y>=0
 ·rw [YKm c,YLm (by omega)]; rfl
 ·rw [YLm c,YKm (by omega)]; rfl
theorem Yuc (s:List UInt8):∀ (n k:Nat),s.length<=k+n->k<=s.length->YB2 (((pcs s n k).map (·.2.1)).any fun x=> decide (127 < x)) (Zp2 s () true s k)
 | 0,k,h,hk=> by
  rw [Yla,YLm (by omega),YNm]
  exact ⟨-1,rfl,rfl⟩
 | n+1,k,h,hk=> by
  rw [Yla]
  unfold pcs
  by_cases c:k < s.length
  ·have hw:=Y12 s k c
   rw [YKm c,YMm,YQm c,Y3h,Ymf,YOm,Yp3,YM2,Y7n,List.any_cons]
   dsimp only
   by_cases d:(127:Int) < (Yj s k).1
   ·rw [show decide ((Yj s k).1 > 127)=true from YKm d,show (true==true)=true from rfl,YMm,Y9n]
    exact ⟨_,rfl,YKm (by omega)⟩
   ·rw [show decide ((Yj s k).1 > 127)=false from YLm d,show (false==true)=false from rfl,YNm,Y8n]
    exact Yuc s n (k+wd s k) (by omega) (by omega)
  ·rw [YLm c,YNm,YPm c]
   exact ⟨-1,rfl,rfl⟩
theorem Y5h (s:List UInt8):YB7 s=some (YG2 s):=by
 rw [Y4h,YXf,Ygi,Y4g,Yoi,YMf]
 obtain ⟨y,h1,h2⟩:=Yuc s s.length 0 (by omega) (by omega)
 rw [Yi7 s s.length 0 (by omega),List.drop_zero] at h2
 simp only
 rw [h1]
 simp only [YOm]
 rw [Yvc h2]; rfl
theorem Ypd (s:List UInt8):∀ (n k:Nat),s.length<=k+n->k<=s.length->YB2 (((pcs s n k).map (·.2.1)).any fun x=> decide (127 < x)) (Zr2 s () true s k)
 | 0,k,h,hk=> by
  rw [Yoa,YLm (by omega),YNm]
  exact ⟨-1,rfl,rfl⟩
 | n+1,k,h,hk=> by
  rw [Yoa]
  unfold pcs
  by_cases c:k < s.length
  ·have hw:=Y12 s k c
   rw [YKm c,YMm,YQm c,YVh,Yze,YOm,Yp3,YM2,Y7n,List.any_cons]
   dsimp only
   by_cases d:(127:Int) < (Yj s k).1
   ·rw [show decide ((Yj s k).1 > 127)=true from YKm d,show (true==true)=true from rfl,YMm,Y9n]
    exact ⟨_,rfl,YKm (by omega)⟩
   ·rw [show decide ((Yj s k).1 > 127)=false from YLm d,show (false==true)=false from rfl,YNm,Y8n]
    exact Ypd s n (k+wd s k) (by omega) (by omega)
  ·rw [YLm c,YNm,YPm c]
   exact ⟨-1,rfl,rfl⟩
theorem Yjb (s:List UInt8):YH5 s=some (YG2 s):=by
 rw [YWh,Ygg,Yfi,Y7g,Yni,YTf]
 obtain ⟨y,h1,h2⟩:=Ypd s s.length 0 (by omega) (by omega)
 rw [Yi7 s s.length 0 (by omega),List.drop_zero] at h2
 simp only
 rw [h1]
 simp only [YOm]
 rw [Yvc h2]; rfl
def dotI (x:Int):Bool:=x==46||(x==12290||(x==65294||x==65377))
theorem YZa (x:Int):YA5 x=some (dotI x):=by
 rw [Y9h,Y2f]
 unfold dotI
 cases (x==46) <;> cases (x==12290) <;> cases (x==65294) <;> rfl
theorem Y4c (s:List UInt8):∀ (n k:Nat),s.length<=k+n->k<=s.length->YB2 (((pcs s n k).map (·.2.1)).any dotI) (Zt2 s () true s k)
 | 0,k,h,hk=> by
  rw [Yqa,YLm (by omega),YNm]
  exact ⟨-1,rfl,rfl⟩
 | n+1,k,h,hk=> by
  rw [Yqa]
  unfold pcs
  by_cases c:k < s.length
  ·have hw:=Y12 s k c
   rw [YKm c,YMm,YQm c,YZa,YOm,Yp3,YM2,Y7n,List.any_cons]
   dsimp only
   cases dotI (Yj s k).1 with
   | true=>
    rw [show (true==true)=true from rfl,YMm,Y9n]
    exact ⟨_,rfl,YKm (by omega)⟩
   | false=>
    rw [show (false==true)=false from rfl,YNm,Y8n]
    exact Y4c s n (k+wd s k) (by omega) (by omega)
  ·rw [YLm c,YNm,YPm c]
   exact ⟨-1,rfl,rfl⟩
def Y56 (s:List UInt8):Bool:=(YF s).any dotI
theorem YMg (s:List UInt8):YB2 (Y56 s) (YG4 (s,())):=by
 rw [Yei,Y9g,Ymi,YYf]
 obtain ⟨y,h1,h2⟩:=Y4c s s.length 0 (by omega) (by omega)
 simp only
 rw [h1]
 exact ⟨y,rfl,h2⟩
end Go.Abs
namespace Go.Abs
def forb:List UInt8:=[0,9,10,13,32,35,47,58,60,62,63,64,91,92,93,94,124]
def Y11 (x:Int):Bool:=forb.any fun b=> Y9 b==x
theorem Ylc (x:Int) (h:128<=x):Y11 x=false:=by
 unfold Y11
 rw [List.any_eq_false]
 intro b hb
 have:Y9 b < 128:=by
  have:∀ b∈forb,Y9 b < 128:=by decide
  exact this b hb
 simp only [beq_iff_eq]; omega
theorem Yyj:(List.range 128).all (fun n=> decide (Lib.indexByte forb (UInt8.ofNat (n:Int).toNat)>=0)==Y11 (n:Int))=true:=by kernel_rfl
theorem YBj (x:Int) (h0:0<=x) (h1:x < 128):decide (Lib.indexByte forb (UInt8.ofNat x.toNat)>=0)=Y11 x:=by
 obtain ⟨n,rfl⟩:=Int.eq_ofNat_of_zero_le h0
 have:=List.all_eq_true.1 Yyj n (List.mem_range.2 (by omega))
 exact beq_iff_eq.1 this
theorem YEc:∀ (l:List UInt8) (c:UInt8),(∀ b∈l,b≠c)->Lib.indexByte l c < 0
 | [],c,_=> by rw [Lib.indexByte]; omega
 | b::l,c,h=> by
  have ih:=YEc l c (fun x hx=> h x (by simp [hx]))
  have hb:=h b (by simp)
  unfold Lib.indexByte
  split
  ·rename_i e; exact absurd (by simpa using e) hb
  ·split
   ·omega
   ·rename_i e
    have:=Lib.indexByte_ge l c
    have:Lib.indexByte l c=-1:=by omega
    rw [this] at e; simp at e
theorem Yhj (r:Int) (h0:128<=r) (hr:scal r=true):∃ l b,Ya1 r=l++[b]/\128<=Y9 b/\l.length<=3:=by
 have hr:=of_decide_eq_true hr
 have hv:Utf8.valid r=true:=by
  unfold Utf8.valid
  simp only [Bool.or_eq_true,YRm,Y3n]; omega
 have hb:∀ n:Nat,n < 64->128<=Y9 (UInt8.ofNat (128+n)):=by
  intro n hn
  unfold Y9
  rw [UInt8.toNat_ofNat',Nat.mod_eq_of_lt (by omega)]; omega
 unfold Ya1 Utf8.encode
 rw [YQm hv]
 by_cases a:r.toNat < 128
 ·omega
 ·rw [YPm a]
  by_cases b:r.toNat < 2048
  ·rw [YQm b]
   exact ⟨[_],_,rfl,hb _ (Nat.mod_lt _ (by omega)),by simp⟩
  ·rw [YPm b]
   by_cases c:r.toNat < 65536
   ·rw [YQm c]
    exact ⟨[_,_],_,rfl,hb _ (Nat.mod_lt _ (by omega)),by simp⟩
   ·rw [YPm c]
    exact ⟨[_,_,_],_,rfl,hb _ (Nat.mod_lt _ (by omega)),by simp⟩
theorem YAm (r:Int) (hr:scal r=true):YO5 r=some true:=by
 have hr:=of_decide_eq_true hr
 rw [Yti,YBe,show decide ((0:Int)<=r)=true from YKm hr.1,YMm]
 by_cases a:r < 55296
 ·rw [YKm a,YMm]
 ·rw [YLm a,YNm,show decide ((57343:Int) < r)=true from YKm (by omega),YMm,show decide (r<=1114111)=true from YKm hr.2.1,YMm]
theorem YLl:YM5 (forb,65533)=some (-1):=Yo5 E (k:=2000) (by kernel_rfl)
theorem Yte (r:Int) (hr:scal r=true):YB2 (Y11 r) (YM5 (forb,r)):=by
 have hr':=of_decide_eq_true hr
 by_cases a:r < 128
 ·rw [Ysb,YN9]
  simp only
  rw [show decide ((0:Int)<=r)=true from YKm hr'.1,YMm,YKm a,YMm,YY3,YY1,w8 hr'.1 (by omega)]
  exact ⟨_,rfl,YBj r hr'.1 a⟩
 ·rw [Ylc r (by omega)]
  by_cases b:r=65533
  ·subst b; exact ⟨-1,YLl,rfl⟩
  ·obtain ⟨l,x,he,hx,hl⟩:=Yhj r (by omega) hr
   rw [Ysb,YN9]
   simp only
   rw [show decide ((0:Int)<=r)=true from YKm hr'.1,YMm,YLm a,YNm,show (r==65533)=false from YWm.2 b,YNm,YAm r hr,YOm,Yan,YNm,he]
   have hlen:(l++[x]).length=l.length+1:=by simp
   have hw:IntKind.i64.wrap ((((l++[x]).length:Nat):Int) - 1)=((l.length:Nat):Int):=by rw [hlen,w64 (by omega) (by omega)]; omega
   have hfl:forb.length=17:=rfl
   have hw1:IntKind.i64.wrap (((l.length:Nat):Int)+1)=((l.length+1:Nat):Int):=by rw [w64 (by omega) (by omega)]; omega
   have hg:List.getD (l++[x]) l.length 0=x:=by simp [Y1n]
   have hfb:∀ b∈forb,Y9 b < 128:=by decide
   have hfg:Y9 (List.getD forb l.length 0) < 128:=by
    rw [Y1n,Y2n (show l.length < forb.length by omega)]
    exact hfb _ (List.getElem_mem _)
   rw [hw,YDe,Yl,YKm (by omega),YMm,Ym,YKm (by omega),YMm,hlen,Ym,YKm (by omega),YMm,YSm,hg]
   rw [show (((((List.getD forb l.length 0).toNat:Nat):Int)) !=((x.toNat:Nat):Int))=true from bne_iff_ne.2 (by
    have e1:(((List.getD forb l.length 0).toNat:Nat):Int)=Y9 (List.getD forb l.length 0):=rfl
    have e2:((x.toNat:Nat):Int)=Y9 x:=rfl
    rw [e1,e2]; omega),YMm,hw1,Yo1 (by omega),YMm,YMm,YF1,YY3,YY1,YOm]
   have hn:Lib.indexByte (forb.drop (l.length+1)) (UInt8.ofNat (((x.toNat:Nat):Int)).toNat) < 0:=by
    refine YEc _ _ (fun b hb e=> ?_)
    have h1:=hfb b (List.mem_of_mem_drop hb)
    rw [YSm,UInt8.ofNat_toNat] at e
    subst e; omega
   rw [YKm hn,YMm]
   exact ⟨-1,rfl,rfl⟩
theorem YG9 (s:List UInt8):∀ (n k:Nat),s.length<=k+n->k<=s.length->YB2 (((pcs s n k).map (·.2.1)).any Y11) (Zj1 s forb s k)
 | 0,k,h,hk=> by
  rw [Y9a,YLm (by omega),YNm]
  exact ⟨-1,rfl,rfl⟩
 | n+1,k,h,hk=> by
  rw [Y9a]
  unfold pcs
  by_cases c:k < s.length
  ·have hw:=Y12 s k c
   obtain ⟨y,h1,h2⟩:=Yte (Yj s k).1 (Yj9 s k)
   rw [YKm c,YMm,YQm c,Yp3,YM2,h1,YOm,Y7n,List.any_cons]
   dsimp only
   rw [h2]
   cases Y11 (Yj s k).1 with
   | true=> rw [YMm,Y9n]; exact ⟨_,rfl,YKm (by omega)⟩
   | false=> rw [YNm,Y8n]; exact YG9 s n (k+wd s k) (by omega) (by omega)
  ·rw [YLm c,YNm,YPm c]
   exact ⟨-1,rfl,rfl⟩
def Yb6:List Bool:=(List.range 256).map fun n:Nat=> Y11 (n:Int)
theorem YIk:Yyb forb=some (Yb6,true):=Yo5 E (k:=2000) (by kernel_rfl)
theorem Yxj (b:UInt8):List.getD Yb6 b.toNat false=Y11 (Y9 b):=by
 have:=b.toNat_lt
 unfold Yb6 Y9
 rw [Y1n,List.getElem?_map,List.getElem?_range this]; rfl
theorem YH9 (s:List UInt8) (hs:s.length<=1073741824):∀ (n i:Nat),i+n=s.length->YB2 ((s.drop i).any fun b=> Y11 (Y9 b)) (Zh1 s forb (i:Int) Yb6)
 | 0,i,h=> by
  have:i=s.length:=by omega
  subst this
  rw [Y6a,Yl,YLm (Ycn _),YNm,List.drop_length]
  exact ⟨-1,rfl,rfl⟩
 | n+1,i,h=> by
  have hi:i < s.length:=by omega
  have hw:IntKind.i64.wrap ((i:Int)+1)=((i+1:Nat):Int):=by rw [w64 (by omega) (by omega)]; omega
  have hg:List.getD s i 0=s[i]:=by rw [Y1n,Y2n hi]; rfl
  have hb:=s[i].toNat_lt
  rw [Y6a,Yl,YKm hi,YMm,Ym,YKm hi,YMm,YSm,hg,Yli,YMe]
  simp only
  rw [Ym,YKm hb,YMm,YOm,YSm,show (Ty.zero .bool:Bool)=false from rfl,Yxj,hw,YXm hi,List.any_cons]
  dsimp only
  cases Y11 (Y9 s[i]) with
  | true=> rw [YMm,Y9n]; exact ⟨_,rfl,YKm (by omega)⟩
  | false=> rw [YNm,Y8n]; exact YH9 s hs n (i+1) (by omega)
def Yc6 (s:List UInt8):Bool:=s.any fun b=> Y11 (Y9 b)
theorem Yje (s:List UInt8) (hs:s.length<=1073741824):Yj3 (s,forb)=some (Yc6 s):=by
 have key:YB2 (Yc6 s) (YT7 (s,forb)):=by
  rw [Ydi,Yif]
  simp only
  rw [show (forb==([]:List UInt8))=false from rfl,YNm,show (((forb.length:Nat):Int)==1)=false from rfl,YNm,Ypi,YKe,YOm]
  by_cases c:((s.length:Nat):Int) > 8
  ·rw [YKm c,YMm,YIk,YOm,YMm]
   exact YH9 s hs s.length 0 (by omega)
  ·rw [YLm c,YNm,Ytf]
   have:=YG9 s s.length 0 (by omega) (by omega)
   rw [YEa s Y11 (fun x hx=> Ylc x hx) s.length 0 (by omega),List.drop_zero] at this
   exact this
 obtain ⟨y,h1,h2⟩:=key
 rw [Y7i,YJe,h1,YOm,h2]
end Go.Abs
namespace Go.Abs
def thr (k bias:Int):Int:=if k<=bias then 1 else if bias+26<=k then 26 else k - bias
theorem YT6 (k bias:Int):1<=thr k bias/\thr k bias<=26:=by
 unfold thr; split
 ·omega
 ·split <;> omega
theorem YO7 (k bias:Int) (h1:0<=k/\k<=1099511627776) (h2:0<=bias/\bias<=4096):YK5 (k,bias)=some (thr k bias):=by
 rw [Y2i,Yyf]
 simp only
 rw [w64 (x:=bias+26) (by omega) (by omega),w64 (x:=k - bias) (by omega) (by omega)]
 unfold thr
 by_cases a:k<=bias
 ·rw [YKm a,YMm,YQm a]
 ·rw [YLm a,YNm,YPm a]
  by_cases b:bias+26<=k
  ·rw [show decide (k>=bias+26)=true from YKm b,YMm,YQm b]
  ·rw [show decide (k>=bias+26)=false from YLm b,YNm,YPm b]
def YQ1:Nat->Int->Int->Int
 | 0,d,k=> k+36*d / (d+38)
 | n+1,d,k=> if 455 < d then YQ1 n (d / 35) (k+36) else k+36*d / (d+38)
def Y42 (delta points:Int) (first:Bool):Int:=
 let d:=if first=true then delta / 700 else delta / 2
 YQ1 11 (d+d / points) 0
theorem YAa:∀ (n:Nat) (d k:Int),0<=d->0<=k->0<=YQ1 n d k/\YQ1 n d k<=k+36*n+36
 | 0,d,k,hd,hk=> by
  unfold YQ1
  have h1:0<=36*d / (d+38):=Int.ediv_nonneg (by omega) (by omega)
  have h2:36*d / (d+38)<=36:=by
   apply Int.le_of_lt_add_one
   apply Int.ediv_lt_of_lt_mul (by omega); omega
  omega
 | n+1,d,k,hd,hk=> by
  unfold YQ1
  split
  ·have:=YAa n (d / 35) (k+36) (by omega) (by omega); omega
  ·have h1:0<=36*d / (d+38):=Int.ediv_nonneg (by omega) (by omega)
   have h2:36*d / (d+38)<=36:=by
    apply Int.le_of_lt_add_one
    apply Int.ediv_lt_of_lt_mul (by omega); omega
   omega
theorem Yvl (d:Int) (hd:0<=d):0<=36*d / (d+38)/\36*d / (d+38)<=36:=by
 refine ⟨Int.ediv_nonneg (by omega) (by omega),?_⟩
 apply Int.le_of_lt_add_one
 apply Int.ediv_lt_of_lt_mul (by omega); omega
theorem Yza (pts:Int) (fst:Bool) (d k:Int) (hd:0<=d) (hn:d<=455) (hk:0<=k) (hk2:k<=100000):Zb3 d pts fst k=some (k+36*d / (d+38)):=by
 have h:=Yvl d hd
 rw [YZ9,show decide (d > 455)=false from YLm (by omega),YNm,w64 (x:=d+38) (by omega) (by omega),show (d+38 !=0)=true from bne_iff_ne.2 (by omega),YMm,w64 (x:=36*d) (by omega) (by omega),Yin (by omega),w64 (x:=36*d / (d+38)) (by omega) (by omega),w64 (by omega) (by omega)]
theorem Yjg (pts:Int) (fst:Bool) (d k:Int) (hd:455 < d) (hd2:d<=9223372036854775807) (hk:0<=k) (hk2:k<=100000):Zb3 d pts fst k=Zb3 (d / 35) pts fst (k+36):=by
 rw [YZ9,show decide (d > 455)=true from YKm hd,YMm,Yin (by omega),w64 (x:=d / 35) (by omega) (by omega),w64 (x:=k+36) (by omega) (by omega)]
def lid:Nat->Int
 | 0=> 455
 | n+1=> 35*lid n+34
theorem Ykg (pts:Int) (fst:Bool) (n:Nat):∀ (d k:Int),0<=d->d<=lid n->d<=9223372036854775807->0<=k->k+36*(n:Int)<=100000->Zb3 d pts fst k=some (YQ1 n d k):=by
 induction n with
 | zero=> intro d k hd hn _ hk hk2; exact Yza pts fst d k hd hn hk (by omega)
 | succ n ih=>
  intro d k hd hn hb hk hk2
  unfold YQ1
  unfold lid at hn
  by_cases c:455 < d
  ·rw [YQm c,Yjg pts fst d k c hb hk (by omega)]
   exact ih (d / 35) (k+36) (by omega) (by omega) (by omega) (by omega) (by omega)
  ·rw [YPm c]; exact Yza pts fst d k hd (by omega) hk (by omega)
theorem Yyk:4611686018427387904<=lid 11:=by decide
theorem Yhb (delta points:Int) (first:Bool) (h0:0<=delta) (h1:delta<=1099511627776) (hp:1<=points) (hp2:points<=1099511627776):YE4 (delta,points,first)=some (Y42 delta points first):=by
 have key:∀ d:Int,0<=d->d<=1099511627776->Za3 d points first=some (YQ1 11 (d+d / points) 0):=by
  intro d a b
  have q0:0<=d / points:=Int.ediv_nonneg a (by omega)
  have q1:d / points<=d:=Int.ediv_le_self _ a
  have:=Yyk
  rw [Y4f,show (points !=0)=true from bne_iff_ne.2 (by omega),YMm,Yin a,w64 (x:=d / points) (by omega) (by omega),w64 (x:=d+d / points) (by omega) (by omega)]
  exact Ykg points first 11 _ 0 (by omega) (by omega) (by omega) (by omega) (by omega)
 rw [YUh,YZe]
 simp only
 unfold Y42
 cases first with
 | true=>
  rw [YMm,Yin h0,w64 (x:=delta / 700) (by omega) (by omega),key _ (by omega) (by omega)]; rfl
 | false=>
  rw [YNm,Yin h0,w64 (x:=delta / 2) (by omega) (by omega),key _ (by omega) (by omega)]; rfl
theorem Ye7 (delta points:Int) (first:Bool) (h0:0<=delta) (hp:1<=points):0<=Y42 delta points first/\Y42 delta points first<=4096:=by
 unfold Y42
 have key:∀ d:Int,0<=d->0<=YQ1 11 (d+d / points) 0/\YQ1 11 (d+d / points) 0<=4096:=by
  intro d a
  have q0:0<=d / points:=Int.ediv_nonneg a (by omega)
  have:=YAa 11 (d+d / points) 0 (by omega) (by omega)
  omega
 cases first with
 | true=> exact key _ (by rw [YQm rfl]; omega)
 | false=> exact key _ (by rw [YPm (by simp)]; omega)
end Go.Abs
namespace Go.Abs
def az36:List UInt8:=[97,98,99,100,101,102,103,104,105,106,107,108,109,110,111,112,113,114,115,116,117,118,119,120,121,122,48,49,50,51,52,53,54,55,56,57]
def dval (b:Int):Int:=if 97<=b/\b<=122 then b - 97 else if 65<=b/\b<=90 then b - 65 else if 48<=b/\b<=57 then b - 22 else -1
theorem Ybj (b:Int):-1<=dval b/\dval b<=35:=by
 unfold dval; split
 ·omega
 ·split
  ·omega
  ·split <;> omega
def dexp (n:Nat):Int:=
 let i:=Lib.indexByte az36 (UInt8.ofNat (n:Int).toNat)
 let c:=bits Go.BinOp.or IntKind.u8 (n:Int) 32
 if i < 0 then (if 97<=c/\c<=122 then IntKind.i64.wrap (IntKind.u8.wrap (c - 97)) else i) else i
theorem Y5j:(List.range 256).all (fun n=> decide (dexp n=dval (n:Int)))=true:=by kernel_rfl
theorem Y6j (n:Nat) (h:n < 256):dexp n=dval (n:Int):=of_decide_eq_true (List.all_eq_true.1 Y5j n (List.mem_range.2 h))
def numV (s:List UInt8) (bias:Int) (fr:Nat):Nat->Nat->Int->Int->Int->Int×(Int×(Int×Int))
 | 0,at',_,_,_=> (0,(0,(31,(at':Int))))
 | n+1,at',i,w,k=>
  if dval (bat s at') < 0 then (0,(0,(31,(at':Int))))
  else if 2147483647 < i+dval (bat s at')*w then (0,(0,(32,(fr:Int))))
  else if dval (bat s at') < thr k bias then (i+dval (bat s at')*w,(((at'+1:Nat):Int),(0,0)))
  else if 2147483647 < w*(36 - thr k bias) then (0,(0,(32,(fr:Int))))
  else numV s bias fr n (at'+1) (i+dval (bat s at')*w) (w*(36 - thr k bias)) (k+36)
theorem Yq6 {a b A B:Int} (ha:0<=a) (hb:0<=b) (h1:a<=A) (h2:b<=B):0<=a*b/\a*b<=A*B:=⟨Int.mul_nonneg ha hb,Int.mul_le_mul h1 h2 hb (Int.le_trans ha h1)⟩
theorem Y4d {a b:Int} (ha:1<=a) (hb:1<=b):1<=a*b:=by
 have:=Int.mul_le_mul ha hb (by omega) (by omega)
 omega
theorem YRk (s:List UInt8) (bias:Int) (fr:Nat) (hs:s.length<=1073741824) (hb:0<=bias/\bias<=4096) (n:Nat):∀ (at':Nat) (i w k:Int),at'+n=s.length->0<=i->i<=2147483647->1<=w->w<=2147483647->0<=k->k+36*(n:Int)<=1099511627776->
  Ze3 s (at':Int) i bias (fr:Int) w k=some (numV s bias fr n at' i w k):=by
 induction n with
 | zero=>
  intro at' i w k hat _ _ _ _ _ _
  rw [Y4a,show (((at':Nat):Int)==((s.length:Nat):Int))=true from beq_iff_eq.2 (by omega),YMm]
  rfl
 | succ n ih=>
  intro at' i w k hat hi0 hi1 hw0 hw1 hk0 hk1
  have hlt:at' < s.length:=by omega
  have hby:=Yj2 s at'
  have hd:=Ybj (bat s at')
  have ht:=YT6 k bias
  have hx:dexp (s.getD at' 0).toNat=dval (bat s at'):=Y6j _ (s.getD at' 0).toNat_lt
  have hwat:IntKind.i64.wrap ((at':Int)+1)=((at'+1:Nat):Int):=by rw [w64 (by omega) (by omega)]; omega
  have key:Zf3 s (at':Int) i bias (fr:Int) w k (dval (bat s at'))=some (numV s bias fr (n+1) at' i w k):=by
   rw [Ykf]
   unfold numV
   by_cases a:dval (bat s at') < 0
   ·rw [YKm a,YMm,YQm a]
   ·have hm:=Yq6 (a:=dval (bat s at')) (b:=w) (A:=35) (B:=2147483647) (by omega) (by omega) hd.2 hw1
    rw [YLm a,YNm,YPm a,w64 (x:=dval (bat s at')*w) (by omega) (by omega),w64 (x:=i+dval (bat s at')*w) (by omega) (by omega)]
    by_cases b:2147483647 < i+dval (bat s at')*w
    ·rw [show decide (i+dval (bat s at')*w > 2147483647)=true from YKm b,YMm,YQm b]
    ·rw [show decide (i+dval (bat s at')*w > 2147483647)=false from YLm b,YNm,YPm b,YO7 k bias ⟨hk0,by omega⟩ hb,YOm]
     by_cases c:dval (bat s at') < thr k bias
     ·rw [YKm c,YMm,YQm c,hwat]
     ·have hm2:=Yq6 (a:=w) (b:=36 - thr k bias) (A:=2147483647) (B:=35) (by omega) (by omega) hw1 (by omega)
      have hm3:1<=w*(36 - thr k bias):=Y4d hw0 (by omega)
      rw [YLm c,YNm,YPm c,w64 (x:=36 - thr k bias) (by omega) (by omega),w64 (x:=w*(36 - thr k bias)) (by omega) (by omega)]
      by_cases e:2147483647 < w*(36 - thr k bias)
      ·rw [show decide (w*(36 - thr k bias) > 2147483647)=true from YKm e,YMm,YQm e]
      ·rw [show decide (w*(36 - thr k bias) > 2147483647)=false from YLm e,YNm,YPm e,hwat,w64 (x:=k+36) (by omega) (by omega)]
       exact ih (at'+1) _ _ _ (by omega) (by omega) (by omega) hm3 (by omega) (by omega) (by omega)
  rw [Y4a,show (((at':Nat):Int)==((s.length:Nat):Int))=false from YWm.2 (by omega),YNm,Ym,YKm hlt,YMm,YSm,YY3,YY1,YOm,YMm]
  rw [show ([(97:UInt8),(98:UInt8),(99:UInt8),(100:UInt8),(101:UInt8),(102:UInt8),(103:UInt8),(104:UInt8),(105:UInt8),(106:UInt8),(107:UInt8),(108:UInt8),(109:UInt8),(110:UInt8),(111:UInt8),(112:UInt8),(113:UInt8),(114:UInt8),(115:UInt8),(116:UInt8),(117:UInt8),(118:UInt8),(119:UInt8),(120:UInt8),(121:UInt8),(122:UInt8),(48:UInt8),(49:UInt8),(50:UInt8),(51:UInt8),(52:UInt8),(53:UInt8),(54:UInt8),(55:UInt8),(56:UInt8),(57:UInt8)]:List UInt8)=az36 from rfl]
  unfold dexp at hx
  simp only at hx
  generalize Lib.indexByte az36 (UInt8.ofNat (((s.getD at' 0).toNat:Nat):Int).toNat)=x at hx ⊢
  generalize bits Go.BinOp.or IntKind.u8 (((s.getD at' 0).toNat:Nat):Int) 32=c at hx ⊢
  by_cases a:x < 0
  ·rw [YQm a] at hx
   rw [YKm a,YMm]
   by_cases b:97<=c
   ·rw [show decide (c>=97)=true from YKm b,YMm]
    by_cases e:c<=122
    ·rw [YQm ⟨b,e⟩] at hx
     rw [YKm e,YMm,hx]; exact key
    ·rw [YPm (fun h=> e h.2)] at hx
     rw [YLm e,YNm,hx]; exact key
   ·rw [YPm (fun h=> b h.1)] at hx
    rw [show decide (c>=97)=false from YLm b,YNm,hx]; exact key
  ·rw [YPm a] at hx
   rw [YLm a,YNm,hx]; exact key
theorem Y1i (s:List UInt8) (at':Nat) (i bias:Int) (hs:s.length<=1073741824) (hat:at'<=s.length) (hi0:0<=i) (hi1:i<=2147483647) (hb:0<=bias/\bias<=4096):
  YJ5 (s,(at':Int),i,bias)=some (numV s bias at' (s.length - at') at' i 1 36):=by
 rw [Y0i,Ybf]
 exact YRk s bias at' hs hb (s.length - at') at' i 1 36 (by omega) hi0 hi1 (by omega) (by omega) (by omega) (by omega)
theorem YQk (s:List UInt8) (bias:Int) (fr:Nat) (n:Nat):∀ (at':Nat) (i w k:Int),0<=i->1<=w->at'+n=s.length->(numV s bias fr n at' i w k).2.2.1=0->
  i<=(numV s bias fr n at' i w k).1/\(numV s bias fr n at' i w k).1<=2147483647/\∃ m:Nat,(numV s bias fr n at' i w k).2.1=(m:Int)/\at' < m/\m<=s.length:=by
 induction n with
 | zero=> intro at' i w k _ _ _ h; exact absurd h (by unfold numV; simp)
 | succ n ih=>
  intro at' i w k hi hw hat
  have ht:=YT6 k bias
  unfold numV
  by_cases a:dval (bat s at') < 0
  ·rw [YQm a]; intro h; exact absurd h (by simp)
  ·rw [YPm a]
   have hm:0<=dval (bat s at')*w:=Int.mul_nonneg (by omega) (by omega)
   by_cases b:2147483647 < i+dval (bat s at')*w
   ·rw [YQm b]; intro h; exact absurd h (by simp)
   ·rw [YPm b]
    by_cases c:dval (bat s at') < thr k bias
    ·rw [YQm c]; intro _; exact ⟨by dsimp only; omega,by dsimp only; omega,at'+1,rfl,by omega,by omega⟩
    ·rw [YPm c]
     by_cases e:2147483647 < w*(36 - thr k bias)
     ·rw [YQm e]; intro h; exact absurd h (by simp)
     ·rw [YPm e]
      intro h
      have hm3:1<=w*(36 - thr k bias):=Y4d hw (by omega)
      obtain ⟨h1,h2,m,h3,h4,h5⟩:=ih (at'+1) _ _ _ (by omega) hm3 (by omega) h
      exact ⟨by omega,h2,m,h3,by omega,h5⟩
end Go.Abs
namespace Go.Abs
def Yk5:Value->Int
 | .int _ n=> n
 | _=> 0
theorem YId (s:List UInt8):∀ (n k:Nat) (acc:Array Value),((Conv.runesFrom ⟨s.toArray⟩ n k acc).map Yk5).toList=(acc.map Yk5).toList++(pcs s n k).map (·.2.1)
 | 0,k,acc=> by simp [Conv.runesFrom,pcs]
 | n+1,k,acc=> by
  unfold Conv.runesFrom pcs
  have hsz:(⟨s.toArray⟩:ByteArray).size=s.length:=by simp [ByteArray.size]
  rw [hsz]
  by_cases c:k < s.length
  ·rw [YQm c,YQm c]
   have h1:(((Utf8.decode ⟨s.toArray⟩ k).1:Nat):Int)=(Yj s k).1:=Yp3 s k
   have h2:(Utf8.decode ⟨s.toArray⟩ k).2=wd s k:=YM2 s k
   show ((Conv.runesFrom ⟨s.toArray⟩ n (k+(Utf8.decode ⟨s.toArray⟩ k).2) (acc.push (.int .i32 (Int.ofNat (Utf8.decode ⟨s.toArray⟩ k).1)))).map Yk5).toList=_
   rw [YId s n _ _,h2,Array.map_push,Array.toList_push,Y7n,YVm]
   have e:Yk5 (.int .i32 (Int.ofNat (Utf8.decode ⟨s.toArray⟩ k).1))=(Yj s k).1:=h1
   rw [e]; rfl
  ·rw [YPm c,YPm c]; simp
theorem YJd (s:List UInt8):Yu s=YF s:=by
 have h:=YId s s.length 0 #[]
 have e:Yu s=((Conv.runesFrom ⟨s.toArray⟩ s.length 0 #[]).map Yk5).toList:=by
  unfold Yu
  congr 2
 rw [e,h]; simp [YF,Y95]
def Ys (s:List UInt8):Nat->Int
 | 0=> -1
 | n+1=> if bat s n=45 then (n:Int) else Ys s n
theorem YKc (s:List UInt8):∀ n:Nat,-1<=Ys s n/\Ys s n < n
 | 0=> by unfold Ys; omega
 | n+1=> by
  have:=YKc s n
  unfold Ys; split <;> omega
theorem YNc (s:List UInt8) (hs:s.length<=1073741824):∀ n:Nat,n<=s.length->Zl3 s 45 ((n:Int) - 1)=some (Ys s n)
 | 0,h=> by
  rw [Yfa,show decide (((0:Nat):Int) - 1>=0)=false from rfl,YNm]; rfl
 | n+1,h=> by
  have e:((n+1:Nat):Int) - 1=(n:Int):=by omega
  rw [e,Yfa,show decide ((n:Int)>=0)=true from YKm (by omega),YMm,Ym,YKm (by omega),YMm,YSm,show (((s.getD n 0).toNat:Nat):Int)=bat s n from rfl]
  unfold Ys
  by_cases c:bat s n=45
  ·rw [show (bat s n==45)=true from beq_iff_eq.2 c,YMm,YQm c]
  ·rw [show (bat s n==45)=false from YWm.2 c,YNm,YPm c,w64 (by omega) (by omega),YNc s hs n (by omega)]
theorem Yoh (s:List UInt8) (hs:s.length<=1073741824):YU7 (s,45)=some (Ys s s.length):=by
 rw [Yji,Y9f,Yih,YCf]
 simp only
 rw [w64 (by omega) (by omega),YNc s hs s.length (Nat.le_refl _)]; rfl
def ins (l:List Int) (i:Nat) (x:Int):List Int:=l.take i++[x]++l.drop i
theorem Y0k (l:List Int) (i:Nat) (x:Int) (h:i<=l.length):(ins l i x).length=l.length+1:=by
 unfold ins; simp; omega
theorem Yue (l:List Int) (i:Nat) (x:Int) (hi:i<=l.length) (hl:l.length<=4294967296):Yi3 (l,(i:Int),[x])=some (ins l i x):=by
 rw [Y6i,YE3]
 simp only
 rw [show decide ((0:Int)<=(i:Int))=true from YKm (by omega),show decide ((i:Int)<=(l.length:Int))=true from YKm (by omega),show decide ([x].length=1)=true from rfl,YKm hl]
 rfl
def decV (s:List UInt8) (plain:Nat):Nat->Nat->Int->Int->Int->List Int->List UInt8×(Int×Int)
 | 0,_,_,_,_,l=> (Y43 l,(0,0))
 | f+1,at',i,n,bias,l=>
  if s.length<=at' then (Y43 l,(0,0))
  else if (numV s bias at' (s.length - at') at' i 1 36).2.2.1≠0 then ([],((numV s bias at' (s.length - at') at' i 1 36).2.2.1,(numV s bias at' (s.length - at') at' i 1 36).2.2.2))
  else if 1114111 < n+(numV s bias at' (s.length - at') at' i 1 36).1 / ((l.length+1:Nat):Int)\/(55296<=n+(numV s bias at' (s.length - at') at' i 1 36).1 / ((l.length+1:Nat):Int)/\n+(numV s bias at' (s.length - at') at' i 1 36).1 / ((l.length+1:Nat):Int)<=57343) then ([],(32,(at':Int)))
  else decV s plain f (numV s bias at' (s.length - at') at' i 1 36).2.1.toNat ((numV s bias at' (s.length - at') at' i 1 36).1 % ((l.length+1:Nat):Int)+1) (n+(numV s bias at' (s.length - at') at' i 1 36).1 / ((l.length+1:Nat):Int))
   (Y42 ((numV s bias at' (s.length - at') at' i 1 36).1 - i) ((l.length+1:Nat):Int) (((l.length:Nat):Int)==((plain:Nat):Int))) (ins l ((numV s bias at' (s.length - at') at' i 1 36).1 % ((l.length+1:Nat):Int)).toNat (n+(numV s bias at' (s.length - at') at' i 1 36).1 / ((l.length+1:Nat):Int)))
theorem YVb (s:List UInt8) (plain:Nat) (hs:s.length<=1073741824) (f:Nat):∀ (at':Nat) (i n bias:Int) (l:List Int),s.length<=at'+f->at'<=s.length->0<=i->i<=2147483647->128<=n->n<=1114111->0<=bias/\bias<=4096->l.length<=at'->
  Zz2 s (at':Int) (plain:Int) i n bias l=some (decV s plain f at' i n bias l):=by
 induction f with
 | zero=>
  intro at' i n bias l hf hat _ _ _ _ _ _
  rw [Ys5,Yl,YLm (by omega),YNm]; rfl
 | succ f ih=>
  intro at' i n bias l hf hat hi0 hi1 hn0 hn1 hb hl
  unfold decV
  by_cases c:at' < s.length
  ·rw [Ys5,Yl,YKm c,YMm,Y1i s at' i bias hs hat hi0 hi1 hb,YOm,YPm (by omega)]
   have hfacts:=YQk s bias at' (s.length - at') at' i 1 36 hi0 (by omega) (by omega)
   generalize numV s bias at' (s.length - at') at' i 1 36=y at hfacts ⊢
   by_cases e:y.2.2.1=0
   ·obtain ⟨h1,h2,m,h3,h4,h5⟩:=hfacts e
    have hpts:IntKind.i64.wrap (((l.length:Nat):Int)+1)=((l.length+1:Nat):Int):=by rw [w64 (by omega) (by omega)]; omega
    have q0:0<=y.1 / ((l.length+1:Nat):Int):=Int.ediv_nonneg (by omega) (by omega)
    have q1:y.1 / ((l.length+1:Nat):Int)<=y.1:=Int.ediv_le_self _ (by omega)
    have r0:0<=y.1 % ((l.length+1:Nat):Int):=Int.emod_nonneg _ (by omega)
    have r1:y.1 % ((l.length+1:Nat):Int) < ((l.length+1:Nat):Int):=Int.emod_lt_of_pos _ (by omega)
    have hb':=Ye7 (y.1 - i) ((l.length+1:Nat):Int) (((l.length:Nat):Int)==((plain:Nat):Int)) (by omega) (by omega)
    rw [show (y.2.2.1 !=0)=false from by simp [e],YNm,YPm (fun h=> h e),w64 (x:=y.1 - i) (by omega) (by omega),hpts,Yhb _ _ _ (by omega) (by omega) (by omega) (by omega),YOm]
    rw [show (((l.length+1:Nat):Int) !=0)=true from bne_iff_ne.2 (by omega),YMm,Yin (by omega),Int.tmod_eq_emod_of_nonneg (by omega),w64 (x:=y.1 / ((l.length+1:Nat):Int)) (by omega) (by omega),w64 (x:=n+y.1 / ((l.length+1:Nat):Int)) (by omega) (by omega)]
    simp only [YMm]
    generalize y.1 / ((l.length+1:Nat):Int)=Q at q0 q1 ⊢
    generalize y.1 % ((l.length+1:Nat):Int)=M at r0 r1 ⊢
    generalize Y42 (y.1 - i) ((l.length+1:Nat):Int) (((l.length:Nat):Int)==((plain:Nat):Int))=B at hb' ⊢
    by_cases g:n+Q > 1114111
    ·rw [YKm g,YMm,YQm (.inl g)]
    ·rw [YLm g,YNm]
     have hM:((M.toNat:Nat):Int)=M:=Int.toNat_of_nonneg r0
     have go:¬(55296<=n+Q/\n+Q<=57343)->((Yi3 (l,(M,[IntKind.i32.wrap (n+Q)]))).bind fun y2=> Zz2 s y.2.1 (plain:Int) (IntKind.i64.wrap (M+1)) (n+Q) B y2)=
       some (decV s plain f y.2.1.toNat (M+1) (n+Q) B (ins l M.toNat (n+Q))):=by
      intro _
      rw [w32 (by omega) (by omega),<-hM,Yue l M.toNat _ (by omega) (by omega),YOm,hM,w64 (by omega) (by omega),h3,YSm]
      exact ih m (M+1) (n+Q) B _ (by omega) (by omega) (by omega) (by omega) (by omega) (by omega) hb' (by rw [Y0k _ _ _ (by omega)]; omega)
     by_cases a:n+Q>=55296
     ·rw [YKm a,YMm]
      by_cases b:n+Q<=57343
      ·rw [YKm b,YMm,YQm (.inr ⟨a,b⟩)]
      ·rw [YLm b,YNm,YPm (by omega)]; exact go (by omega)
     ·rw [YLm a,YNm,YPm (by omega)]; exact go (by omega)
   ·rw [show (y.2.2.1 !=0)=true from by simp [e],YMm,YQm e]
  ·rw [Ys5,Yl,YLm c,YNm,YQm (by omega)]
end Go.Abs
