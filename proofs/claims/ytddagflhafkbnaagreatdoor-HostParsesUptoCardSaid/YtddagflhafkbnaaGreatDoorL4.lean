/- Part L4 of the proof: see the last text of the claim. No condition of its own. -/
import Derived.Test.YtddagflhafkbnaaGreatDoorL3
import Derived.Test.YtddagflhafkbnaaGreatDoorK8
set_option linter.all false
namespace Go.Abs
set_option autoImplicit false

def caps:List UInt8:=[48,49,50,51,52,53,54,55,56,57,65,66,67,68,69,70]
theorem YEp:(List.range 256).all (fun n=> decide ((let i:=Lib.indexByte caps (UInt8.ofNat (n:Int).toNat); if i≥0 then i else if 97≤(n:Int)∧(n:Int)≤102 then (n:Int) - 87 else -1)=nib (n:Int)))=true:=by kernel_rfl
theorem YEd (b:Int) (h0:0≤b) (h1:b≤255):Yg6 b=some (nib b):=by
  obtain ⟨n,rfl⟩:=Int.eq_ofNat_of_zero_le h0
  have:=of_decide_eq_true (List.all_eq_true.1 YEp n (List.mem_range.2 (by omega)))
  rw [Ygl,YYi,Yl4,Yp2]
  rw [show ([(48:UInt8),(49:UInt8),(50:UInt8),(51:UInt8),(52:UInt8),(53:UInt8),(54:UInt8),(55:UInt8),(56:UInt8),(57:UInt8),(65:UInt8),(66:UInt8),(67:UInt8),(68:UInt8),(69:UInt8),(70:UInt8)]:List UInt8)=caps from rfl,Ylr]
  simp only at this
  rw [←this]
  by_cases a:Lib.indexByte caps (UInt8.ofNat (n:Int).toNat)≥0
  · rw [Yhr a,Yjr,Ynr a]
  · rw [Yir a,Ykr,Ymr a]
    by_cases b:97≤(n:Int)
    · rw [show decide ((n:Int)≥97)=true from Yhr b,Yjr]
      by_cases c:(n:Int)≤102
      · rw [Yhr c,Yjr,Ynr ⟨b,c⟩,w8 (by omega) (by omega),w64 (x:=(n:Int) - 97) (by omega) (by omega),w64 (by omega) (by omega)]
        congr 1; omega
      · rw [Yir c,Ykr,Ymr (fun h=> c h.2)]
    · rw [show decide ((n:Int)≥97)=false from Yir b,Ykr,Ymr (fun h=> b h.1)]

def trip (s:List UInt8) (k:Nat):Int:=if k+2 < s.length∧bat s k=37∧0≤nib (bat s (k+1))∧0≤nib (bat s (k+2)) then nib (bat s (k+1))*16+nib (bat s (k+2)) else -1
theorem Y9h (s:List UInt8) (k:Nat):-1≤trip s k∧trip s k≤255:=by
  have:=YS2 (bat s (k+1))
  have:=YS2 (bat s (k+2))
  unfold trip; split <;> omega

theorem or16 {h l:Int} (h0:0≤h∧h≤15) (l0:0≤l∧l≤15):bits Go.BinOp.or IntKind.i64 (shl IntKind.i64 h 4) l=h*16+l:=by
  rw [show shl IntKind.i64 h 4=h*16 from YK5 (y:=4) (by omega) (by omega) (by omega)]
  obtain ⟨m,rfl⟩:=Int.eq_ofNat_of_zero_le h0.1
  obtain ⟨n,rfl⟩:=Int.eq_ofNat_of_zero_le l0.1
  have e1:(BitVec.ofInt 64 ((m:Int)*16)).toNat=2 ^ 4*m:=by
    rw [BitVec.toNat_ofInt]; omega
  have e2:(BitVec.ofInt 64 (n:Int)).toNat=n:=by
    rw [BitVec.toNat_ofInt]; omega
  have e:(BitVec.ofInt 64 ((m:Int)*16)|||BitVec.ofInt 64 (n:Int)).toNat=m*16+n:=by
    rw [BitVec.toNat_or,e1,e2,←Nat.two_pow_add_eq_or_of_lt (by omega)]; omega
  show IntKind.i64.wrap (((BitVec.ofInt 64 ((m:Int)*16)|||BitVec.ofInt 64 (n:Int)).toNat:Nat):Int)=_
  rw [e,w64 (by omega) (by omega)]
  omega

theorem Yil (s:List UInt8) (k:Nat) (hs:s.length≤1073741824) (hk:k < s.length):YO8 (s,(k:Int))=some (trip s k):=by
  have e1:IntKind.i64.wrap ((k:Int)+1)=((k+1:Nat):Int):=by rw [w64 (by omega) (by omega)]; omega
  have e2:IntKind.i64.wrap ((k:Int)+2)=((k+2:Nat):Int):=by rw [w64 (by omega) (by omega)]; omega
  have b1:=Yu s (k+1)
  have b2:=Yu s (k+2)
  have n1:=YS2 (bat s (k+1))
  have n2:=YS2 (bat s (k+2))
  rw [Yhl,Yyj]
  simp only
  rw [e1,e2]
  unfold trip
  by_cases a:k+2 < s.length
  · rw [show decide (((k+2:Nat):Int)≥(s.length:Int))=false from Yir (by omega),Ykr,Yj,Yhr hk,Yjr,Ypr,Ypr,Ypr,
      show (((s.getD k 0).toNat:Nat):Int)=bat s k from rfl,show (((s.getD (k+1) 0).toNat:Nat):Int)=bat s (k+1) from rfl,show (((s.getD (k+2) 0).toNat:Nat):Int)=bat s (k+2) from rfl]
    by_cases b:bat s k=37
    · rw [show (bat s k !=37)=false from by simpa using b,Ykr,Yj,Yhr (by omega),Yjr,Yj,Yhr a,Yjr,YEd _ b1.1 b1.2,Ylr,YEd _ b2.1 b2.2,Ylr]
      by_cases c:nib (bat s (k+1)) < 0
      · rw [Yhr c,Yjr,Ymr (by omega)]
      · rw [Yir c,Ykr]
        by_cases d:nib (bat s (k+2)) < 0
        · rw [Yhr d,Yjr,Ymr (by omega)]
        · rw [Yir d,Ykr,Ynr (by omega),or16 (by omega) (by omega)]
    · rw [show (bat s k !=37)=true from by simpa using b,Yjr,Ymr (fun h=> b h.2.1)]
  · rw [show decide (((k+2:Nat):Int)≥(s.length:Int))=true from Yhr (by omega),Yjr,Ymr (fun h=> a h.1)]

def pdec (s:List UInt8):Nat→Nat→List Int
  | 0,_=> []
  | n+1,k=> if k < s.length then (if 0≤trip s k then trip s k::pdec s n (k+3) else bat s k::pdec s n (k+1)) else []
theorem Yz5 (s:List UInt8):∀ (n k:Nat),(pdec s n k).length≤n
  | 0,_=> by simp [pdec]
  | n+1,k=> by
    unfold pdec
    split
    · split
      · simp only [Yqr]; have:=Yz5 s n (k+3); omega
      · simp only [Yqr]; have:=Yz5 s n (k+1); omega
    · simp
theorem Y98 (s:List UInt8) (hs:s.length≤1073741824):∀ (n k:Nat) (r:List Int),s.length≤k+n→k≤s.length→r.length+n≤1073741824→Z05 s (k:Int) r=some (r++pdec s n k)
  | 0,k,r,hn,hk,hr=> by
    rw [Yyb,Yc,Yir (by omega),Ykr,pdec,YKr]
  | n+1,k,r,hn,hk,hr=> by
    rw [Yyb,Yc]
    unfold pdec
    by_cases c:k < s.length
    · have ht:=Y9h s k
      rw [Yhr c,Yjr,Ynr c,Yil s k hs c,Ylr]
      by_cases d:0≤trip s k
      · have hk2:k+2 < s.length:=by
          unfold trip at d
          split at d
          · rename_i h; exact h.1
          · omega
        rw [show decide (trip s k≥0)=true from Yhr d,Yjr,Ynr d,w8 d ht.2,show decide (r.length+[trip s k].length≤lim)=true from Yhr (by simp [lim]; omega),Yjr,
          w64 (x:=(k:Int)+2) (by omega) (by omega),w64 (by omega) (by omega),show (k:Int)+2+1=((k+3:Nat):Int) from by omega,Y98 s hs n (k+3) _ (by omega) (by omega) (by simp; omega),Ysr]
        rfl
      · rw [show decide (trip s k≥0)=false from Yir d,Ykr,Ymr d,Yj,Yhr c,Yjr,Ypr,show (((s.getD k 0).toNat:Nat):Int)=bat s k from rfl,
          show decide (r.length+[bat s k].length≤lim)=true from Yhr (by simp [lim]; omega),Yjr,w64 (by omega) (by omega),show (k:Int)+1=((k+1:Nat):Int) from by omega,Y98 s hs n (k+1) _ (by omega) (by omega) (by simp; omega),Ysr]
        rfl
    · rw [Yir c,Ykr,Ymr c,YKr]
def Y31 (s:List UInt8):List UInt8:=YB1 (Ym (pdec s s.length 0))
theorem Y8l (s:List UInt8) (hs:s.length≤1000000000):YH3 s=some (Y31 s):=by
  rw [Y7l,YZi,Y9l,Y2k]
  have h:=Y98 s (by omega) s.length 0 [] (by omega) (by omega) (by simp; omega)
  have hl:=Yz5 s s.length 0
  rw [show ((0:Nat):Int)=0 from rfl] at h
  rw [h,Ylr,YLr,Yte _ (by unfold Ym; rw [List.length_map]; omega)]
  rfl
theorem YBn (s:List UInt8):(Y31 s).length≤4*s.length:=by
  have h1:=Y2b (Ym (pdec s s.length 0))
  have h2:=Yz5 s s.length 0
  unfold Y31
  unfold Ym at h1 ⊢
  rw [List.length_map] at h1
  omega

theorem YTn:(List.range 256).all (fun n=> Ya (shr IntKind.u8 (n:Int) 4) 16&&(Ya (bits Go.BinOp.and IntKind.u8 (n:Int) 15) 16))=true:=by kernel_rfl
def esc (c:Int):List Int:=[37,(((caps.getD (shr IntKind.u8 c 4).toNat 0).toNat:Nat):Int),(((caps.getD (bits Go.BinOp.and IntKind.u8 c 15).toNat 0).toNat:Nat):Int)]
theorem Yel (l:List Int) (c:Int) (hl:l.length≤4294967200) (h0:0≤c) (h1:c≤255):YN8 (l,c)=some (l++esc c):=by
  obtain ⟨n,rfl⟩:=Int.eq_ofNat_of_zero_le h0
  have:=List.all_eq_true.1 YTn n (List.mem_range.2 (by omega))
  rw [Yor] at this
  rw [Ydl,Y6j]
  simp only
  rw [show ([(48:UInt8),(49:UInt8),(50:UInt8),(51:UInt8),(52:UInt8),(53:UInt8),(54:UInt8),(55:UInt8),(56:UInt8),(57:UInt8),(65:UInt8),(66:UInt8),(67:UInt8),(68:UInt8),(69:UInt8),(70:UInt8)]:List UInt8)=caps from rfl,show caps.length=16 from rfl,this.1,Yjr,this.2,Yjr]
  rw [show decide (l.length+[(37:Int),(((caps.getD (shr IntKind.u8 (n:Int) 4).toNat 0).toNat:Nat):Int),(((caps.getD (bits Go.BinOp.and IntKind.u8 (n:Int) 15).toNat 0).toNat:Nat):Int)].length≤lim)=true from Yhr (by simp [lim]; omega),Yjr]
  rfl

def ctlSet:List Bool:=(List.range 256).map fun c=> decide (c < 32)||decide (126 < c)
def Yao (o:Option (List (List Bool))):Option (List Bool):=match o with
  | some l=> some (l.getD 1 [])
  | none=> none
theorem Y7k:Yao (Yf2 E (run E 20000) 221 ())=some ctlSet:=by kernel_rfl
theorem YDp:∃ y:List (List Bool),YCd ()=some y∧y.getD 1 []=ctlSet:=by
  have h:=Y7k
  cases hr:Yf2 E (run E 20000) 221 () with
  | none=> rw [hr] at h; cases h
  | some y=>
    rw [hr] at h
    exact ⟨y,YU5 E hr,Option.some.inj h⟩
def encB (c:Int):List Int:=if ctlSet.getD c.toNat false=true then esc c else [c]
theorem YXe (c:Int):1≤(encB c).length∧(encB c).length≤3:=by unfold encB esc; split <;> simp
theorem Yb8 (b:List Int) (hb:∀ x∈b,0≤x∧x≤255) (hl:b.length≤1000000000):∀ (n i:Nat) (r:List Int),i+n=b.length→r.length≤3*i→Zx4 1 b b (b.length:Int) (i:Int) ctlSet r=some (Ym (r++(b.drop i).flatMap encB),0)
  | 0,i,r,h,hr=> by
    have:i=b.length:=by omega
    subst this
    rw [YLc,Yc,Yir (YJr _),Ykr,List.drop_length]; simp
  | n+1,i,r,h,hr=> by
    have hi:i < b.length:=by omega
    have hw:IntKind.i64.wrap ((i:Int)+1)=((i+1:Nat):Int):=by rw [w64 (by omega) (by omega)]; omega
    have hg:List.getD b (Int.toNat (i:Int)) (Ty.zero (.int .u8))=b[i]:=by
      rw [Ypr,Yyr,Yzr hi]; rfl
    have hx:=hb _ (List.getElem_mem hi)
    have he:=YXe b[i]
    have hin:Ya b[i] 256=true:=by unfold Ya; rw [Yhr hx.1,Yhr (by omega)]; rfl
    rw [YLc,Yc,Yhr hi,Yjr,Yj,Yhr hi,Yjr,hg,hin,Yjr,hw,show (Ty.zero .bool:Bool)=false from rfl,Yur hi,List.flatMap_cons]
    cases hc:ctlSet.getD b[i].toNat false with
    | true=>
      have e:encB b[i]=esc b[i]:=by unfold encB; rw [Ynr hc]
      rw [Yjr,Yel r _ (by omega) hx.1 hx.2,Ylr,Yb8 b hb hl n (i+1) _ (by omega) (by rw [Yrr,←e]; omega),e,Ysr]
    | false=>
      have e:encB b[i]=[b[i]]:=by unfold encB; rw [Ymr (by rw [hc]; simp)]
      rw [Ykr,show decide (r.length+[b[i]].length≤lim)=true from Yhr (by simp [lim]; omega),Yjr,Yb8 b hb hl n (i+1) _ (by omega) (by rw [Yrr,←e]; omega),e,Ysr]
def YA2 (s:List UInt8):List UInt8:=Ym ((YK (YB1 s)).flatMap encB)
theorem Ybl (s:List UInt8) (hs:s.length≤200000000):YI3 (1,s)=some (YA2 s,0):=by
  have hl:=Y2b s
  have hbl:(YK (YB1 s)).length=(YB1 s).length:=by unfold YK; rw [List.length_map]
  rw [Yal,YWi]
  simp only
  rw [Yte s (by omega),Ylr,Ycl,YVj]
  simp only
  rw [Yfl,Y0j,show decide ((1:Int)≥1)=true from rfl,Yjr,show decide ((1:Int)≤8)=true from rfl,Ylr,YHr,Ykr]
  obtain ⟨y,h1,h2⟩:=YDp
  rw [h1,Ylr,show Ya (1:Int) 9=true from rfl,Yjr]
  have hget:List.getD y (Int.toNat 1) (Ty.zero (.arr 256 .bool))=ctlSet:=by
    rw [←h2]
    cases hy:y[1]? with
    | none=>
      exfalso
      have:y.getD 1 []=[]:=by rw [Yyr,hy]; rfl
      rw [h2] at this
      exact absurd (congrArg List.length this) (by simp [ctlSet])
    | some z=>
      have e:Int.toNat 1=1:=rfl
      rw [e,Yyr,Yyr,hy]; rfl
  rw [hget]
  have hb:∀ x∈YK (YB1 s),0≤x∧x≤255:=by
    intro x hx
    obtain ⟨b,_,rfl⟩:=List.mem_map.1 hx
    exact Yv2 b
  have:=Yb8 (YK (YB1 s)) hb (by omega) (YK (YB1 s)).length 0 [] (by omega) (by simp)
  rw [show ((0:Nat):Int)=0 from rfl] at this
  rw [this]; rfl
end Go.Abs
namespace Go.Abs
set_option autoImplicit false

theorem Yog (s:List UInt8) (k:Nat) (hk:k < s.length) (h:¬ut1 s k=true):128≤(Yk s k).1∧∀ j,j < wd s k→128≤bat s (k+j):=by
  have hb0:128≤bat s k:=by
    unfold ut1 at h
    rw [YAr] at h; omega
  unfold wd Yk
  rw [Ymr h]
  by_cases q2:ut2 s k=true
  · rw [Ynr q2]
    have:=of_decide_eq_true q2
    refine ⟨this.2.2.2,fun j hj=> ?_⟩
    have hj:j < 2:=hj
    have e:j=0∨j=1:=by omega
    rcases e with rfl | rfl
    · exact hb0
    · omega
  rw [Ymr q2]
  by_cases q3:ut3 s k=true
  · rw [Ynr q3]
    unfold ut3 at q3
    rw [Yor] at q3
    have:=of_decide_eq_true q3.1
    refine ⟨by have:=this.2.2.2.2; dsimp only; omega,fun j hj=> ?_⟩
    have hj:j < 3:=hj
    have e:j=0∨j=1∨j=2:=by omega
    rcases e with rfl | rfl | rfl
    · exact hb0
    · omega
    · omega
  rw [Ymr q3]
  by_cases q4:ut4 s k=true
  · rw [Ynr q4]
    unfold ut4 at q4
    rw [Yor] at q4
    have:=of_decide_eq_true q4.1
    refine ⟨by have:=this.2.2.2.2.2; dsimp only; omega,fun j hj=> ?_⟩
    have hj:j < 4:=hj
    have e:j=0∨j=1∨j=2∨j=3:=by omega
    rcases e with rfl | rfl | rfl | rfl
    · exact hb0
    · omega
    · omega
    · omega
  rw [Ymr q4]
  refine ⟨by dsimp only; omega,fun j hj=> ?_⟩
  have hj:j < 1:=hj
  have e:j=0:=by omega
  subst e; exact hb0
theorem Ypg (s:List UInt8) (k:Nat) (h:ut1 s k=true):(Yk s k).1=bat s k∧wd s k=1:=by
  unfold wd Yk; rw [Ynr h]; exact ⟨rfl,rfl⟩

theorem Ys1 (s:List UInt8) (k:Nat) (hk:k < s.length):s.drop k=s[k]::s.drop (k+1)∧Y7 s[k]=bat s k:=by
  refine ⟨Yur hk,?_⟩
  unfold bat; rw [Yyr,Yzr hk]; rfl
theorem Y2d (s:List UInt8) (P:Int→Bool) (hP:∀ x,128≤x→P x=false):∀ (w k:Nat),k+w≤s.length→(∀ j,j < w→128≤bat s (k+j))→(s.drop k).any (fun b=> P (Y7 b))=(s.drop (k+w)).any (fun b=> P (Y7 b))
  | 0,k,_,_=> rfl
  | w+1,k,h,hj=> by
    obtain ⟨h1,h2⟩:=Ys1 s k (by omega)
    have h0:=hj 0 (by omega)
    rw [Nat.add_zero] at h0
    rw [h1,List.any_cons,h2,hP _ h0,YFr,Y2d s P hP w (k+1) (by omega) (fun j hw=> by have:=hj (j+1) (by omega); rwa [show k+1+j=k+(j+1) from by omega])]
    rw [show k+1+w=k+(w+1) from by omega]
theorem Y0d (s:List UInt8) (P:Int→Bool) (hP:∀ x,128≤x→P x=false):∀ (n k:Nat),s.length≤k+n→((pcs s n k).map (·.2.1)).any P=(s.drop k).any (fun b=> P (Y7 b))
  | 0,k,h=> by rw [List.drop_eq_nil_of_le (by omega)]; rfl
  | n+1,k,h=> by
    unfold pcs
    by_cases c:k < s.length
    · have hw:=Y02 s k c
      rw [Ynr c,YEr,List.any_cons,Y0d s P hP n (k+wd s k) (by omega)]
      by_cases q:ut1 s k=true
      · obtain ⟨e1,e2⟩:=Ypg s k q
        obtain ⟨h1,h2⟩:=Ys1 s k c
        rw [e2,h1,List.any_cons,h2]
        dsimp only
        rw [e1]
      · obtain ⟨e1,e2⟩:=Yog s k c q
        rw [Y2d s P hP (wd s k) k hw.2.2.1 e2]
        dsimp only
        rw [hP _ e1,YFr]
    · rw [Ymr c,List.drop_eq_nil_of_le (by omega)]; rfl
theorem Ys8 (s:List UInt8):∀ (n k:Nat),s.length≤k+n→((pcs s n k).map (·.2.1)).any (fun x=> decide (127 < x))=(s.drop k).any (fun b=> decide (127 < Y7 b))
  | 0,k,h=> by rw [List.drop_eq_nil_of_le (by omega)]; rfl
  | n+1,k,h=> by
    unfold pcs
    by_cases c:k < s.length
    · have hw:=Y02 s k c
      obtain ⟨h1,h2⟩:=Ys1 s k c
      rw [Ynr c,YEr,List.any_cons,Ys8 s n (k+wd s k) (by omega),h1,List.any_cons,h2]
      dsimp only
      by_cases q:ut1 s k=true
      · obtain ⟨e1,e2⟩:=Ypg s k q
        rw [e2,e1]
      · obtain ⟨e1,e2⟩:=Yog s k c q
        have hb:=e2 0 (by omega)
        rw [Nat.add_zero] at hb
        rw [Yhr (show 127 < (Yk s k).1 by omega),Yhr (show 127 < bat s k by omega),YGr,YGr]
    · rw [Ymr c,List.drop_eq_nil_of_le (by omega)]; rfl
def Yc1 (s:List UInt8):Bool:=!(s.any fun b=> decide (127 < Y7 b))

def YX2 (b:Bool) (o:Option Int):Prop:=∃ y:Int,o=some y∧decide (y≥0)=b
theorem Yhf {b:Bool} {y:Int} (h:decide (y≥0)=b):decide (y < 0)=!b:=by
  subst h
  by_cases c:y≥0
  · rw [Yhr c,Yir (by omega)]; rfl
  · rw [Yir c,Yhr (by omega)]; rfl
theorem Ygf (s:List UInt8):∀ (n k:Nat),s.length≤k+n→k≤s.length→YX2 (((pcs s n k).map (·.2.1)).any fun x=> decide (127 < x)) (Z16 s () true s k)
  | 0,k,h,hk=> by
    rw [YAb,Yir (by omega),Ykr]
    exact ⟨-1,rfl,rfl⟩
  | n+1,k,h,hk=> by
    rw [YAb]
    unfold pcs
    by_cases c:k < s.length
    · have hw:=Y02 s k c
      rw [Yhr c,Yjr,Ynr c,YEk,YEj,Ylr,YP3,Ya3,YEr,List.any_cons]
      dsimp only
      by_cases d:(127:Int) < (Yk s k).1
      · rw [show decide ((Yk s k).1 > 127)=true from Yhr d,show (true==true)=true from rfl,Yjr,YGr]
        exact ⟨_,rfl,Yhr (by omega)⟩
      · rw [show decide ((Yk s k).1 > 127)=false from Yir d,show (false==true)=false from rfl,Ykr,YFr]
        exact Ygf s n (k+wd s k) (by omega) (by omega)
    · rw [Yir c,Ykr,Ymr c]
      exact ⟨-1,rfl,rfl⟩
theorem YGk (s:List UInt8):YI8 s=some (Yc1 s):=by
  rw [YFk,Y0i,YUm,Y8i,Y1n,YHh]
  obtain ⟨y,h1,h2⟩:=Ygf s s.length 0 (by omega) (by omega)
  rw [Ys8 s s.length 0 (by omega),List.drop_zero] at h2
  simp only
  rw [h1]
  simp only [Ylr]
  rw [Yhf h2]; rfl
theorem Yrg (s:List UInt8):∀ (n k:Nat),s.length≤k+n→k≤s.length→YX2 (((pcs s n k).map (·.2.1)).any fun x=> decide (127 < x)) (Z36 s () true s k)
  | 0,k,h,hk=> by
    rw [YDb,Yir (by omega),Ykr]
    exact ⟨-1,rfl,rfl⟩
  | n+1,k,h,hk=> by
    rw [YDb]
    unfold pcs
    by_cases c:k < s.length
    · have hw:=Y02 s k c
      rw [Yhr c,Yjr,Ynr c,Yql,YFi,Ylr,YP3,Ya3,YEr,List.any_cons]
      dsimp only
      by_cases d:(127:Int) < (Yk s k).1
      · rw [show decide ((Yk s k).1 > 127)=true from Yhr d,show (true==true)=true from rfl,Yjr,YGr]
        exact ⟨_,rfl,Yhr (by omega)⟩
      · rw [show decide ((Yk s k).1 > 127)=false from Yir d,show (false==true)=false from rfl,Ykr,YFr]
        exact Yrg s n (k+wd s k) (by omega) (by omega)
    · rw [Yir c,Ykr,Ymr c]
      exact ⟨-1,rfl,rfl⟩
theorem YJd (s:List UInt8):Yi6 s=some (Yc1 s):=by
  rw [Yrl,Yzi,YTm,Yei,Y0n,YRh]
  obtain ⟨y,h1,h2⟩:=Yrg s s.length 0 (by omega) (by omega)
  rw [Ys8 s s.length 0 (by omega),List.drop_zero] at h2
  simp only
  rw [h1]
  simp only [Ylr]
  rw [Yhf h2]; rfl

def dotI (x:Int):Bool:=x==46||(x==12290||(x==65294||x==65377))
theorem Ynd (x:Int):Yb6 x=some (dotI x):=by
  rw [YKk,Yej]
  unfold dotI
  cases (x==46) <;> cases (x==12290) <;> cases (x==65294) <;> rfl
theorem YSe (s:List UInt8):∀ (n k:Nat),s.length≤k+n→k≤s.length→YX2 (((pcs s n k).map (·.2.1)).any dotI) (Z56 s () true s k)
  | 0,k,h,hk=> by
    rw [YHb,Yir (by omega),Ykr]
    exact ⟨-1,rfl,rfl⟩
  | n+1,k,h,hk=> by
    rw [YHb]
    unfold pcs
    by_cases c:k < s.length
    · have hw:=Y02 s k c
      rw [Yhr c,Yjr,Ynr c,Ynd,Ylr,YP3,Ya3,YEr,List.any_cons]
      dsimp only
      cases dotI (Yk s k).1 with
      | true=>
        rw [show (true==true)=true from rfl,Yjr,YGr]
        exact ⟨_,rfl,Yhr (by omega)⟩
      | false=>
        rw [show (false==true)=false from rfl,Ykr,YFr]
        exact YSe s n (k+wd s k) (by omega) (by omega)
    · rw [Yir c,Ykr,Ymr c]
      exact ⟨-1,rfl,rfl⟩
def Yu4 (s:List UInt8):Bool:=(Yq s).any dotI
theorem Yrk (s:List UInt8):YX2 (Yu4 s) (Yj5 (s,())):=by
  rw [YSm,Yii,YZm,Y1i]
  obtain ⟨y,h1,h2⟩:=YSe s s.length 0 (by omega) (by omega)
  simp only
  rw [h1]
  exact ⟨y,rfl,h2⟩
end Go.Abs
namespace Go.Abs
set_option autoImplicit false

def forb:List UInt8:=[0,9,10,13,32,35,47,58,60,62,63,64,91,92,93,94,124]
def Y51 (x:Int):Bool:=forb.any fun b=> Y7 b==x
theorem Y9f (x:Int) (h:128≤x):Y51 x=false:=by
  unfold Y51
  rw [List.any_eq_false]
  intro b hb
  have:Y7 b < 128:=by
    have:∀ b∈forb,Y7 b < 128:=by decide
    exact this b hb
  simp only [beq_iff_eq]; omega
theorem Y4o:(List.range 128).all (fun n=> decide (Lib.indexByte forb (UInt8.ofNat (n:Int).toNat)≥0)==Y51 (n:Int))=true:=by kernel_rfl
theorem Y7o (x:Int) (h0:0≤x) (h1:x < 128):decide (Lib.indexByte forb (UInt8.ofNat x.toNat)≥0)=Y51 x:=by
  obtain ⟨n,rfl⟩:=Int.eq_ofNat_of_zero_le h0
  have:=List.all_eq_true.1 Y4o n (List.mem_range.2 (by omega))
  exact beq_iff_eq.1 this

theorem Yof:∀ (l:List UInt8) (c:UInt8),(∀ b∈l,b≠c)→Lib.indexByte l c < 0
  | [],c,_=> by rw [Lib.indexByte]; omega
  | b::l,c,h=> by
    have ih:=Yof l c (fun x hx=> h x (by simp [hx]))
    have hb:=h b (by simp)
    unfold Lib.indexByte
    split
    · rename_i e; exact absurd (by simpa using e) hb
    · split
      · omega
      · rename_i e
        have:=Lib.indexByte_ge l c
        have:Lib.indexByte l c=-1:=by omega
        rw [this] at e; simp at e

theorem YOn (r:Int) (h0:128≤r) (hr:scal r=true):∃ l b,Yt1 r=l++[b]∧128≤Y7 b∧l.length≤3:=by
  have hr:=of_decide_eq_true hr
  have hv:Utf8.valid r=true:=by
    unfold Utf8.valid
    simp only [Bool.or_eq_true,Yor,YAr]; omega
  have hb:∀ n:Nat,n < 64→128≤Y7 (UInt8.ofNat (128+n)):=by
    intro n hn
    unfold Y7
    rw [UInt8.toNat_ofNat',Nat.mod_eq_of_lt (by omega)]; omega
  unfold Yt1 Utf8.encode
  rw [Ynr hv]
  by_cases a:r.toNat < 128
  · omega
  · rw [Ymr a]
    by_cases b:r.toNat < 2048
    · rw [Ynr b]
      exact ⟨[_],_,rfl,hb _ (Nat.mod_lt _ (by omega)),by simp⟩
    · rw [Ymr b]
      by_cases c:r.toNat < 65536
      · rw [Ynr c]
        exact ⟨[_,_],_,rfl,hb _ (Nat.mod_lt _ (by omega)),by simp⟩
      · rw [Ymr c]
        exact ⟨[_,_,_],_,rfl,hb _ (Nat.mod_lt _ (by omega)),by simp⟩
theorem Y3r (r:Int) (hr:scal r=true):YK6 r=some true:=by
  have hr:=of_decide_eq_true hr
  rw [Y6n,YHi,show decide ((0:Int)≤r)=true from Yhr hr.1,Yjr]
  by_cases a:r < 55296
  · rw [Yhr a,Yjr]
  · rw [Yir a,Ykr,show decide ((57343:Int) < r)=true from Yhr (by omega),Yjr,show decide (r≤1114111)=true from Yhr hr.2.1,Yjr]
theorem Ydq:YI6 (forb,65533)=some (-1):=YU5 E (k:=2000) (by kernel_rfl)
theorem YDh (r:Int) (hr:scal r=true):YX2 (Y51 r) (YI6 (forb,r)):=by
  have hr':=of_decide_eq_true hr
  by_cases a:r < 128
  · rw [Yhe,YXb]
    simp only
    rw [show decide ((0:Int)≤r)=true from Yhr hr'.1,Yjr,Yhr a,Yjr,Yl4,Yp2,w8 hr'.1 (by omega)]
    exact ⟨_,rfl,Y7o r hr'.1 a⟩
  · rw [Y9f r (by omega)]
    by_cases b:r=65533
    · subst b; exact ⟨-1,Ydq,rfl⟩
    · obtain ⟨l,x,he,hx,hl⟩:=YOn r (by omega) hr
      rw [Yhe,YXb]
      simp only
      rw [show decide ((0:Int)≤r)=true from Yhr hr'.1,Yjr,Yir a,Ykr,show (r==65533)=false from Ytr.2 b,Ykr,Y3r r hr,Ylr,YHr,Ykr,he]
      have hlen:(l++[x]).length=l.length+1:=by simp
      have hw:IntKind.i64.wrap ((((l++[x]).length:Nat):Int) - 1)=((l.length:Nat):Int):=by rw [hlen,w64 (by omega) (by omega)]; omega
      have hfl:forb.length=17:=rfl
      have hw1:IntKind.i64.wrap (((l.length:Nat):Int)+1)=((l.length+1:Nat):Int):=by rw [w64 (by omega) (by omega)]; omega
      have hg:List.getD (l++[x]) l.length 0=x:=by simp [Yyr]
      have hfb:∀ b∈forb,Y7 b < 128:=by decide
      have hfg:Y7 (List.getD forb l.length 0) < 128:=by
        rw [Yyr,Yzr (show l.length < forb.length by omega)]
        exact hfb _ (List.getElem_mem _)
      rw [hw,YJi,Yc,Yhr (by omega),Yjr,Yj,Yhr (by omega),Yjr,hlen,Yj,Yhr (by omega),Yjr,Ypr,hg]
      rw [show (((((List.getD forb l.length 0).toNat:Nat):Int)) !=((x.toNat:Nat):Int))=true from bne_iff_ne.2 (by
        have e1:(((List.getD forb l.length 0).toNat:Nat):Int)=Y7 (List.getD forb l.length 0):=rfl
        have e2:((x.toNat:Nat):Int)=Y7 x:=rfl
        rw [e1,e2]; omega),Yjr,hw1,Yj1 (by omega),Yjr,Yjr,YN1,Yl4,Yp2,Ylr]
      have hn:Lib.indexByte (forb.drop (l.length+1)) (UInt8.ofNat (((x.toNat:Nat):Int)).toNat) < 0:=by
        refine Yof _ _ (fun b hb e=> ?_)
        have h1:=hfb b (List.mem_of_mem_drop hb)
        rw [Ypr,UInt8.ofNat_toNat] at e
        subst e; omega
      rw [Yhr hn,Yjr]
      exact ⟨-1,rfl,rfl⟩

theorem Ydb (s:List UInt8):∀ (n k:Nat),s.length≤k+n→k≤s.length→YX2 (((pcs s n k).map (·.2.1)).any Y51) (Zv4 s forb s k)
  | 0,k,h,hk=> by
    rw [YEc,Yir (by omega),Ykr]
    exact ⟨-1,rfl,rfl⟩
  | n+1,k,h,hk=> by
    rw [YEc]
    unfold pcs
    by_cases c:k < s.length
    · have hw:=Y02 s k c
      obtain ⟨y,h1,h2⟩:=YDh (Yk s k).1 (YIa s k)
      rw [Yhr c,Yjr,Ynr c,YP3,Ya3,h1,Ylr,YEr,List.any_cons]
      dsimp only
      rw [h2]
      cases Y51 (Yk s k).1 with
      | true=> rw [Yjr,YGr]; exact ⟨_,rfl,Yhr (by omega)⟩
      | false=> rw [Ykr,YFr]; exact Ydb s n (k+wd s k) (by omega) (by omega)
    · rw [Yir c,Ykr,Ymr c]
      exact ⟨-1,rfl,rfl⟩
def Y37:List Bool:=(List.range 256).map fun n:Nat=> Y51 (n:Int)
theorem Y8p:Yne forb=some (Y37,true):=YU5 E (k:=2000) (by kernel_rfl)
theorem Y3o (b:UInt8):List.getD Y37 b.toNat false=Y51 (Y7 b):=by
  have:=b.toNat_lt
  unfold Y37 Y7
  rw [Yyr,List.getElem?_map,List.getElem?_range this]; rfl
theorem Yeb (s:List UInt8) (hs:s.length≤1073741824):∀ (n i:Nat),i+n=s.length→YX2 ((s.drop i).any fun b=> Y51 (Y7 b)) (Zt4 s forb (i:Int) Y37)
  | 0,i,h=> by
    have:i=s.length:=by omega
    subst this
    rw [Yyc,Yc,Yir (YJr _),Ykr,List.drop_length]
    exact ⟨-1,rfl,rfl⟩
  | n+1,i,h=> by
    have hi:i < s.length:=by omega
    have hw:IntKind.i64.wrap ((i:Int)+1)=((i+1:Nat):Int):=by rw [w64 (by omega) (by omega)]; omega
    have hg:List.getD s i 0=s[i]:=by rw [Yyr,Yzr hi]; rfl
    have hb:=s[i].toNat_lt
    rw [Yyc,Yc,Yhr hi,Yjr,Yj,Yhr hi,Yjr,Ypr,hg,YYm,YXi]
    simp only
    rw [Yj,Yhr hb,Yjr,Ylr,Ypr,show (Ty.zero .bool:Bool)=false from rfl,Y3o,hw,Yur hi,List.any_cons]
    dsimp only
    cases Y51 (Y7 s[i]) with
    | true=> rw [Yjr,YGr]; exact ⟨_,rfl,Yhr (by omega)⟩
    | false=> rw [Ykr,YFr]; exact Yeb s hs n (i+1) (by omega)
def YB4 (s:List UInt8):Bool:=s.any fun b=> Y51 (Y7 b)
theorem Yrh (s:List UInt8) (hs:s.length≤1073741824):YL3 (s,forb)=some (YB4 s):=by
  have key:YX2 (YB4 s) (Yh9 (s,forb)):=by
    rw [YRm,Yxj]
    simp only
    rw [show (forb==([]:List UInt8))=false from rfl,Ykr,show (((forb.length:Nat):Int)==1)=false from rfl,Ykr,Y2n,YRi,Ylr]
    by_cases c:((s.length:Nat):Int) > 8
    · rw [Yhr c,Yjr,Y8p,Ylr,Yjr]
      exact Yeb s hs s.length 0 (by omega)
    · rw [Yir c,Ykr,YLj]
      have:=Ydb s s.length 0 (by omega) (by omega)
      rw [Y0d s Y51 (fun x hx=> Y9f x hx) s.length 0 (by omega),List.drop_zero] at this
      exact this
  obtain ⟨y,h1,h2⟩:=key
  rw [YLm,YQi,h1,Ylr,h2]
end Go.Abs
namespace Go.Abs
set_option autoImplicit false

def thr (k bias:Int):Int:=if k≤bias then 1 else if bias+26≤k then 26 else k - bias
theorem Yt3 (k bias:Int):1≤thr k bias∧thr k bias≤26:=by
  unfold thr; split
  · omega
  · split <;> omega
theorem YS8 (k bias:Int) (h1:0≤k∧k≤1099511627776) (h2:0≤bias∧bias≤4096):Yl6 (k,bias)=some (thr k bias):=by
  rw [Yxl,YRj]
  simp only
  rw [w64 (x:=bias+26) (by omega) (by omega),w64 (x:=k - bias) (by omega) (by omega)]
  unfold thr
  by_cases a:k≤bias
  · rw [Yhr a,Yjr,Ynr a]
  · rw [Yir a,Ykr,Ymr a]
    by_cases b:bias+26≤k
    · rw [show decide (k≥bias+26)=true from Yhr b,Yjr,Ynr b]
    · rw [show decide (k≥bias+26)=false from Yir b,Ykr,Ymr b]

def YL1:Nat→Int→Int→Int
  | 0,d,k=> k+36*d / (d+38)
  | n+1,d,k=> if 455 < d then YL1 n (d / 35) (k+36) else k+36*d / (d+38)
def Yi1 (delta points:Int) (first:Bool):Int:=
  let d:=if first=true then delta / 700 else delta / 2
  YL1 11 (d+d / points) 0
theorem YWc:∀ (n:Nat) (d k:Int),0≤d→0≤k→0≤YL1 n d k∧YL1 n d k≤k+36*n+36
  | 0,d,k,hd,hk=> by
    unfold YL1
    have h1:0≤36*d / (d+38):=Int.ediv_nonneg (by omega) (by omega)
    have h2:36*d / (d+38)≤36:=by
      apply Int.le_of_lt_add_one
      apply Int.ediv_lt_of_lt_mul (by omega); omega
    omega
  | n+1,d,k,hd,hk=> by
    unfold YL1
    split
    · have:=YWc n (d / 35) (k+36) (by omega) (by omega); omega
    · have h1:0≤36*d / (d+38):=Int.ediv_nonneg (by omega) (by omega)
      have h2:36*d / (d+38)≤36:=by
        apply Int.le_of_lt_add_one
        apply Int.ediv_lt_of_lt_mul (by omega); omega
      omega
theorem Yug (d:Int) (hd:0≤d):0≤36*d / (d+38)∧36*d / (d+38)≤36:=by
  refine ⟨Int.ediv_nonneg (by omega) (by omega),?_⟩
  apply Int.le_of_lt_add_one
  apply Int.ediv_lt_of_lt_mul (by omega); omega
theorem YVc (pts:Int) (fst:Bool) (d k:Int) (hd:0≤d) (hn:d≤455) (hk:0≤k) (hk2:k≤100000):Zn6 d pts fst k=some (k+36*d / (d+38)):=by
  have h:=Yug d hd
  rw [Yoc,show decide (d > 455)=false from Yir (by omega),Ykr,w64 (x:=d+38) (by omega) (by omega),show (d+38 !=0)=true from bne_iff_ne.2 (by omega),Yjr,w64 (x:=36*d) (by omega) (by omega),YPr (by omega),w64 (x:=36*d / (d+38)) (by omega) (by omega),w64 (by omega) (by omega)]
theorem Y3k (pts:Int) (fst:Bool) (d k:Int) (hd:455 < d) (hd2:d≤9223372036854775807) (hk:0≤k) (hk2:k≤100000):Zn6 d pts fst k=Zn6 (d / 35) pts fst (k+36):=by
  rw [Yoc,show decide (d > 455)=true from Yhr hd,Yjr,YPr (by omega),w64 (x:=d / 35) (by omega) (by omega),w64 (x:=k+36) (by omega) (by omega)]
def lid:Nat→Int
  | 0=> 455
  | n+1=> 35*lid n+34
theorem Y4k (pts:Int) (fst:Bool) (n:Nat):∀ (d k:Int),0≤d→d≤lid n→d≤9223372036854775807→0≤k→k+36*(n:Int)≤100000→Zn6 d pts fst k=some (YL1 n d k):=by
  induction n with
  | zero=> intro d k hd hn _ hk hk2; exact YVc pts fst d k hd hn hk (by omega)
  | succ n ih=>
    intro d k hd hn hb hk hk2
    unfold YL1
    unfold lid at hn
    by_cases c:455 < d
    · rw [Ynr c,Y3k pts fst d k c hb hk (by omega)]
      exact ih (d / 35) (k+36) (by omega) (by omega) (by omega) (by omega) (by omega)
    · rw [Ymr c]; exact YVc pts fst d k hd (by omega) hk (by omega)
theorem YKf:4611686018427387904≤lid 11:=by decide
theorem YHd (delta points:Int) (first:Bool) (h0:0≤delta) (h1:delta≤1099511627776) (hp:1≤points) (hp2:points≤1099511627776):Y95 (delta,points,first)=some (Yi1 delta points first):=by
  have key:∀ d:Int,0≤d→d≤1099511627776→Zm6 d points first=some (YL1 11 (d+d / points) 0):=by
    intro d a b
    have q0:0≤d / points:=Int.ediv_nonneg a (by omega)
    have q1:d / points≤d:=Int.ediv_le_self _ a
    have:=YKf
    rw [Ygj,show (points !=0)=true from bne_iff_ne.2 (by omega),Yjr,YPr a,w64 (x:=d / points) (by omega) (by omega),w64 (x:=d+d / points) (by omega) (by omega)]
    exact Y4k points first 11 _ 0 (by omega) (by omega) (by omega) (by omega) (by omega)
  rw [Ypl,Ybj]
  simp only
  unfold Yi1
  cases first with
  | true=>
    rw [Yjr,YPr h0,w64 (x:=delta / 700) (by omega) (by omega),key _ (by omega) (by omega)]; rfl
  | false=>
    rw [Ykr,YPr h0,w64 (x:=delta / 2) (by omega) (by omega),key _ (by omega) (by omega)]; rfl
theorem YD3 (delta points:Int) (first:Bool) (h0:0≤delta) (hp:1≤points):0≤Yi1 delta points first∧Yi1 delta points first≤4096:=by
  unfold Yi1
  have key:∀ d:Int,0≤d→0≤YL1 11 (d+d / points) 0∧YL1 11 (d+d / points) 0≤4096:=by
    intro d a
    have q0:0≤d / points:=Int.ediv_nonneg a (by omega)
    have:=YWc 11 (d+d / points) 0 (by omega) (by omega)
    omega
  cases first with
  | true=> exact key _ (by rw [Ynr rfl]; omega)
  | false=> exact key _ (by rw [Ymr (by simp)]; omega)
end Go.Abs
namespace Go.Abs
set_option autoImplicit false

def az36:List UInt8:=[97,98,99,100,101,102,103,104,105,106,107,108,109,110,111,112,113,114,115,116,117,118,119,120,121,122,48,49,50,51,52,53,54,55,56,57]
def dval (b:Int):Int:=if 97≤b∧b≤122 then b - 97 else if 65≤b∧b≤90 then b - 65 else if 48≤b∧b≤57 then b - 22 else -1
theorem YVe (b:Int):-1≤dval b∧dval b≤35:=by
  unfold dval; split
  · omega
  · split
    · omega
    · split <;> omega
def dexp (n:Nat):Int:=
  let i:=Lib.indexByte az36 (UInt8.ofNat (n:Int).toNat)
  let c:=bits Go.BinOp.or IntKind.u8 (n:Int) 32
  if i < 0 then (if 97≤c∧c≤122 then IntKind.i64.wrap (IntKind.u8.wrap (c - 97)) else i) else i
theorem YFn:(List.range 256).all (fun n=> decide (dexp n=dval (n:Int)))=true:=by kernel_rfl
theorem YGn (n:Nat) (h:n < 256):dexp n=dval (n:Int):=of_decide_eq_true (List.all_eq_true.1 YFn n (List.mem_range.2 h))

def numV (s:List UInt8) (bias:Int) (fr:Nat):Nat→Nat→Int→Int→Int→Int×(Int×(Int×Int))
  | 0,at',_,_,_=> (0,(0,(31,(at':Int))))
  | n+1,at',i,w,k=>
    if dval (bat s at') < 0 then (0,(0,(31,(at':Int))))
    else if 2147483647 < i+dval (bat s at')*w then (0,(0,(32,(fr:Int))))
    else if dval (bat s at') < thr k bias then (i+dval (bat s at')*w,(((at'+1:Nat):Int),(0,0)))
    else if 2147483647 < w*(36 - thr k bias) then (0,(0,(32,(fr:Int))))
    else numV s bias fr n (at'+1) (i+dval (bat s at')*w) (w*(36 - thr k bias)) (k+36)

theorem Y04 {a b A B:Int} (ha:0≤a) (hb:0≤b) (h1:a≤A) (h2:b≤B):0≤a*b∧a*b≤A*B:=⟨Int.mul_nonneg ha hb,Int.mul_le_mul h1 h2 hb (Int.le_trans ha h1)⟩

theorem Y6a {a b:Int} (ha:1≤a) (hb:1≤b):1≤a*b:=by
  have:=Int.mul_le_mul ha hb (by omega) (by omega)
  omega

theorem Yep (s:List UInt8) (bias:Int) (fr:Nat) (hs:s.length≤1073741824) (hb:0≤bias∧bias≤4096) (n:Nat):∀ (at':Nat) (i w k:Int),at'+n=s.length→0≤i→i≤2147483647→1≤w→w≤2147483647→0≤k→k+36*(n:Int)≤1099511627776→
    Zq6 s (at':Int) i bias (fr:Int) w k=some (numV s bias fr n at' i w k):=by
  induction n with
  | zero=>
    intro at' i w k hat _ _ _ _ _ _
    rw [Yvc,show (((at':Nat):Int)==((s.length:Nat):Int))=true from beq_iff_eq.2 (by omega),Yjr]
    rfl
  | succ n ih=>
    intro at' i w k hat hi0 hi1 hw0 hw1 hk0 hk1
    have hlt:at' < s.length:=by omega
    have hby:=Yu s at'
    have hd:=YVe (bat s at')
    have ht:=Yt3 k bias
    have hx:dexp (s.getD at' 0).toNat=dval (bat s at'):=YGn _ (s.getD at' 0).toNat_lt
    have hwat:IntKind.i64.wrap ((at':Int)+1)=((at'+1:Nat):Int):=by rw [w64 (by omega) (by omega)]; omega
    have key:Zr6 s (at':Int) i bias (fr:Int) w k (dval (bat s at'))=some (numV s bias fr (n+1) at' i w k):=by
      rw [Yzj]
      unfold numV
      by_cases a:dval (bat s at') < 0
      · rw [Yhr a,Yjr,Ynr a]
      · have hm:=Y04 (a:=dval (bat s at')) (b:=w) (A:=35) (B:=2147483647) (by omega) (by omega) hd.2 hw1
        rw [Yir a,Ykr,Ymr a,w64 (x:=dval (bat s at')*w) (by omega) (by omega),w64 (x:=i+dval (bat s at')*w) (by omega) (by omega)]
        by_cases b:2147483647 < i+dval (bat s at')*w
        · rw [show decide (i+dval (bat s at')*w > 2147483647)=true from Yhr b,Yjr,Ynr b]
        · rw [show decide (i+dval (bat s at')*w > 2147483647)=false from Yir b,Ykr,Ymr b,YS8 k bias ⟨hk0,by omega⟩ hb,Ylr]
          by_cases c:dval (bat s at') < thr k bias
          · rw [Yhr c,Yjr,Ynr c,hwat]
          · have hm2:=Y04 (a:=w) (b:=36 - thr k bias) (A:=2147483647) (B:=35) (by omega) (by omega) hw1 (by omega)
            have hm3:1≤w*(36 - thr k bias):=Y6a hw0 (by omega)
            rw [Yir c,Ykr,Ymr c,w64 (x:=36 - thr k bias) (by omega) (by omega),w64 (x:=w*(36 - thr k bias)) (by omega) (by omega)]
            by_cases e:2147483647 < w*(36 - thr k bias)
            · rw [show decide (w*(36 - thr k bias) > 2147483647)=true from Yhr e,Yjr,Ynr e]
            · rw [show decide (w*(36 - thr k bias) > 2147483647)=false from Yir e,Ykr,Ymr e,hwat,w64 (x:=k+36) (by omega) (by omega)]
              exact ih (at'+1) _ _ _ (by omega) (by omega) (by omega) hm3 (by omega) (by omega) (by omega)
    rw [Yvc,show (((at':Nat):Int)==((s.length:Nat):Int))=false from Ytr.2 (by omega),Ykr,Yj,Yhr hlt,Yjr,Ypr,Yl4,Yp2,Ylr,Yjr]
    rw [show ([(97:UInt8),(98:UInt8),(99:UInt8),(100:UInt8),(101:UInt8),(102:UInt8),(103:UInt8),(104:UInt8),(105:UInt8),(106:UInt8),(107:UInt8),(108:UInt8),(109:UInt8),(110:UInt8),(111:UInt8),(112:UInt8),(113:UInt8),(114:UInt8),(115:UInt8),(116:UInt8),(117:UInt8),(118:UInt8),(119:UInt8),(120:UInt8),(121:UInt8),(122:UInt8),(48:UInt8),(49:UInt8),(50:UInt8),(51:UInt8),(52:UInt8),(53:UInt8),(54:UInt8),(55:UInt8),(56:UInt8),(57:UInt8)]:List UInt8)=az36 from rfl]
    unfold dexp at hx
    simp only at hx
    generalize Lib.indexByte az36 (UInt8.ofNat (((s.getD at' 0).toNat:Nat):Int).toNat)=x at hx ⊢
    generalize bits Go.BinOp.or IntKind.u8 (((s.getD at' 0).toNat:Nat):Int) 32=c at hx ⊢
    by_cases a:x < 0
    · rw [Ynr a] at hx
      rw [Yhr a,Yjr]
      by_cases b:97≤c
      · rw [show decide (c≥97)=true from Yhr b,Yjr]
        by_cases e:c≤122
        · rw [Ynr ⟨b,e⟩] at hx
          rw [Yhr e,Yjr,hx]; exact key
        · rw [Ymr (fun h=> e h.2)] at hx
          rw [Yir e,Ykr,hx]; exact key
      · rw [Ymr (fun h=> b h.1)] at hx
        rw [show decide (c≥97)=false from Yir b,Ykr,hx]; exact key
    · rw [Ymr a] at hx
      rw [Yir a,Ykr,hx]; exact key
theorem Ywl (s:List UInt8) (at':Nat) (i bias:Int) (hs:s.length≤1073741824) (hat:at'≤s.length) (hi0:0≤i) (hi1:i≤2147483647) (hb:0≤bias∧bias≤4096):
    Yk6 (s,(at':Int),i,bias)=some (numV s bias at' (s.length - at') at' i 1 36):=by
  rw [Yvl,Yoj]
  exact Yep s bias at' hs hb (s.length - at') at' i 1 36 (by omega) hi0 hi1 (by omega) (by omega) (by omega) (by omega)
theorem Y0a (s:List UInt8) (bias:Int) (fr:Nat) (n:Nat):∀ (at':Nat) (i w k:Int),0≤i→1≤w→at'+n=s.length→(numV s bias fr n at' i w k).2.2.1=0→
    i≤(numV s bias fr n at' i w k).1∧(numV s bias fr n at' i w k).1≤2147483647∧∃ m:Nat,(numV s bias fr n at' i w k).2.1=(m:Int)∧at' < m∧m≤s.length:=by
  induction n with
  | zero=> intro at' i w k _ _ _ h; exact absurd h (by unfold numV; simp)
  | succ n ih=>
    intro at' i w k hi hw hat
    have ht:=Yt3 k bias
    unfold numV
    by_cases a:dval (bat s at') < 0
    · rw [Ynr a]; intro h; exact absurd h (by simp)
    · rw [Ymr a]
      have hm:0≤dval (bat s at')*w:=Int.mul_nonneg (by omega) (by omega)
      by_cases b:2147483647 < i+dval (bat s at')*w
      · rw [Ynr b]; intro h; exact absurd h (by simp)
      · rw [Ymr b]
        by_cases c:dval (bat s at') < thr k bias
        · rw [Ynr c]; intro _; exact ⟨by dsimp only; omega,by dsimp only; omega,at'+1,rfl,by omega,by omega⟩
        · rw [Ymr c]
          by_cases e:2147483647 < w*(36 - thr k bias)
          · rw [Ynr e]; intro h; exact absurd h (by simp)
          · rw [Ymr e]
            intro h
            have hm3:1≤w*(36 - thr k bias):=Y6a hw (by omega)
            obtain ⟨h1,h2,m,h3,h4,h5⟩:=ih (at'+1) _ _ _ (by omega) hm3 (by omega) h
            exact ⟨by omega,h2,m,h3,by omega,h5⟩
end Go.Abs
namespace Go.Abs
set_option autoImplicit false

def YR5:Value→Int
  | .int _ n=> n
  | _=> 0
theorem YQg (s:List UInt8):∀ (n k:Nat) (acc:Array Value),((Conv.runesFrom ⟨s.toArray⟩ n k acc).map YR5).toList=(acc.map YR5).toList++(pcs s n k).map (·.2.1)
  | 0,k,acc=> by simp [Conv.runesFrom,pcs]
  | n+1,k,acc=> by
    unfold Conv.runesFrom pcs
    have hsz:(⟨s.toArray⟩:ByteArray).size=s.length:=by simp [ByteArray.size]
    rw [hsz]
    by_cases c:k < s.length
    · rw [Ynr c,Ynr c]
      have h1:(((Utf8.decode ⟨s.toArray⟩ k).1:Nat):Int)=(Yk s k).1:=YP3 s k
      have h2:(Utf8.decode ⟨s.toArray⟩ k).2=wd s k:=Ya3 s k
      show ((Conv.runesFrom ⟨s.toArray⟩ n (k+(Utf8.decode ⟨s.toArray⟩ k).2) (acc.push (.int .i32 (Int.ofNat (Utf8.decode ⟨s.toArray⟩ k).1)))).map YR5).toList=_
      rw [YQg s n _ _,h2,Array.map_push,Array.toList_push,YEr,Ysr]
      have e:YR5 (.int .i32 (Int.ofNat (Utf8.decode ⟨s.toArray⟩ k).1))=(Yk s k).1:=h1
      rw [e]; rfl
    · rw [Ymr c,Ymr c]; simp
theorem YRg (s:List UInt8):YE s=Yq s:=by
  have h:=YQg s s.length 0 #[]
  have e:YE s=((Conv.runesFrom ⟨s.toArray⟩ s.length 0 #[]).map YR5).toList:=by
    unfold YE
    congr 2
  rw [e,h]; simp [Yq,YY1]

def Yp (s:List UInt8):Nat→Int
  | 0=> -1
  | n+1=> if bat s n=45 then (n:Int) else Yp s n
theorem Yj7 (s:List UInt8):∀ n:Nat,-1≤Yp s n∧Yp s n < n
  | 0=> by unfold Yp; omega
  | n+1=> by
    have:=Yj7 s n
    unfold Yp; split <;> omega
theorem YEf (s:List UInt8) (hs:s.length≤1073741824):∀ n:Nat,n≤s.length→Zx6 s 45 ((n:Int) - 1)=some (Yp s n)
  | 0,h=> by
    rw [YNc,show decide (((0:Nat):Int) - 1≥0)=false from rfl,Ykr]; rfl
  | n+1,h=> by
    have e:((n+1:Nat):Int) - 1=(n:Int):=by omega
    rw [e,YNc,show decide ((n:Int)≥0)=true from Yhr (by omega),Yjr,Yj,Yhr (by omega),Yjr,Ypr,show (((s.getD n 0).toNat:Nat):Int)=bat s n from rfl]
    unfold Yp
    by_cases c:bat s n=45
    · rw [show (bat s n==45)=true from beq_iff_eq.2 c,Yjr,Ynr c]
    · rw [show (bat s n==45)=false from Ytr.2 c,Ykr,Ymr c,w64 (by omega) (by omega),YEf s hs n (by omega)]
theorem YZk (s:List UInt8) (hs:s.length≤1073741824):Yj9 (s,45)=some (Yp s s.length):=by
  rw [YWm,Ymj,YTk,YWj]
  simp only
  rw [w64 (by omega) (by omega),YEf s hs s.length (Nat.le_refl _)]; rfl

def ins (l:List Int) (i:Nat) (x:Int):List Int:=l.take i++[x]++l.drop i
theorem YO9 (l:List Int) (i:Nat) (x:Int) (h:i≤l.length):(ins l i x).length=l.length+1:=by
  unfold ins; simp; omega
theorem YEh (l:List Int) (i:Nat) (x:Int) (hi:i≤l.length) (hl:l.length≤4294967296):YK3 (l,(i:Int),[x])=some (ins l i x):=by
  rw [YKm,Y34]
  simp only
  rw [show decide ((0:Int)≤(i:Int))=true from Yhr (by omega),show decide ((i:Int)≤(l.length:Int))=true from Yhr (by omega),show decide ([x].length=1)=true from rfl,Yhr hl]
  rfl

def decV (s:List UInt8) (plain:Nat):Nat→Nat→Int→Int→Int→List Int→List UInt8×(Int×Int)
  | 0,_,_,_,_,l=> (YD2 l,(0,0))
  | f+1,at',i,n,bias,l=>
    if s.length≤at' then (YD2 l,(0,0))
    else if (numV s bias at' (s.length - at') at' i 1 36).2.2.1≠0 then ([],((numV s bias at' (s.length - at') at' i 1 36).2.2.1,(numV s bias at' (s.length - at') at' i 1 36).2.2.2))
    else if 1114111 < n+(numV s bias at' (s.length - at') at' i 1 36).1 / ((l.length+1:Nat):Int)∨(55296≤n+(numV s bias at' (s.length - at') at' i 1 36).1 / ((l.length+1:Nat):Int)∧n+(numV s bias at' (s.length - at') at' i 1 36).1 / ((l.length+1:Nat):Int)≤57343) then ([],(32,(at':Int)))
    else decV s plain f (numV s bias at' (s.length - at') at' i 1 36).2.1.toNat ((numV s bias at' (s.length - at') at' i 1 36).1 % ((l.length+1:Nat):Int)+1) (n+(numV s bias at' (s.length - at') at' i 1 36).1 / ((l.length+1:Nat):Int))
      (Yi1 ((numV s bias at' (s.length - at') at' i 1 36).1 - i) ((l.length+1:Nat):Int) (((l.length:Nat):Int)==((plain:Nat):Int))) (ins l ((numV s bias at' (s.length - at') at' i 1 36).1 % ((l.length+1:Nat):Int)).toNat (n+(numV s bias at' (s.length - at') at' i 1 36).1 / ((l.length+1:Nat):Int)))

theorem YNe (s:List UInt8) (plain:Nat) (hs:s.length≤1073741824) (f:Nat):∀ (at':Nat) (i n bias:Int) (l:List Int),s.length≤at'+f→at'≤s.length→0≤i→i≤2147483647→128≤n→n≤1114111→0≤bias∧bias≤4096→l.length≤at'→
    Zb6 s (at':Int) (plain:Int) i n bias l=some (decV s plain f at' i n bias l):=by
  induction f with
  | zero=>
    intro at' i n bias l hf hat _ _ _ _ _ _
    rw [Y16,Yc,Yir (by omega),Ykr]; rfl
  | succ f ih=>
    intro at' i n bias l hf hat hi0 hi1 hn0 hn1 hb hl
    unfold decV
    by_cases c:at' < s.length
    · rw [Y16,Yc,Yhr c,Yjr,Ywl s at' i bias hs hat hi0 hi1 hb,Ylr,Ymr (by omega)]
      have hfacts:=Y0a s bias at' (s.length - at') at' i 1 36 hi0 (by omega) (by omega)
      generalize numV s bias at' (s.length - at') at' i 1 36=y at hfacts ⊢
      by_cases e:y.2.2.1=0
      · obtain ⟨h1,h2,m,h3,h4,h5⟩:=hfacts e
        have hpts:IntKind.i64.wrap (((l.length:Nat):Int)+1)=((l.length+1:Nat):Int):=by rw [w64 (by omega) (by omega)]; omega
        have q0:0≤y.1 / ((l.length+1:Nat):Int):=Int.ediv_nonneg (by omega) (by omega)
        have q1:y.1 / ((l.length+1:Nat):Int)≤y.1:=Int.ediv_le_self _ (by omega)
        have r0:0≤y.1 % ((l.length+1:Nat):Int):=Int.emod_nonneg _ (by omega)
        have r1:y.1 % ((l.length+1:Nat):Int) < ((l.length+1:Nat):Int):=Int.emod_lt_of_pos _ (by omega)
        have hb':=YD3 (y.1 - i) ((l.length+1:Nat):Int) (((l.length:Nat):Int)==((plain:Nat):Int)) (by omega) (by omega)
        rw [show (y.2.2.1 !=0)=false from by simp [e],Ykr,Ymr (fun h=> h e),w64 (x:=y.1 - i) (by omega) (by omega),hpts,YHd _ _ _ (by omega) (by omega) (by omega) (by omega),Ylr]
        rw [show (((l.length+1:Nat):Int) !=0)=true from bne_iff_ne.2 (by omega),Yjr,YPr (by omega),Int.tmod_eq_emod_of_nonneg (by omega),w64 (x:=y.1 / ((l.length+1:Nat):Int)) (by omega) (by omega),w64 (x:=n+y.1 / ((l.length+1:Nat):Int)) (by omega) (by omega)]
        simp only [Yjr]
        generalize y.1 / ((l.length+1:Nat):Int)=Q at q0 q1 ⊢
        generalize y.1 % ((l.length+1:Nat):Int)=M at r0 r1 ⊢
        generalize Yi1 (y.1 - i) ((l.length+1:Nat):Int) (((l.length:Nat):Int)==((plain:Nat):Int))=B at hb' ⊢
        by_cases g:n+Q > 1114111
        · rw [Yhr g,Yjr,Ynr (.inl g)]
        · rw [Yir g,Ykr]
          have hM:((M.toNat:Nat):Int)=M:=Int.toNat_of_nonneg r0
          have go:¬(55296≤n+Q∧n+Q≤57343)→((YK3 (l,(M,[IntKind.i32.wrap (n+Q)]))).bind fun y2=> Zb6 s y.2.1 (plain:Int) (IntKind.i64.wrap (M+1)) (n+Q) B y2)=
              some (decV s plain f y.2.1.toNat (M+1) (n+Q) B (ins l M.toNat (n+Q))):=by
            intro _
            rw [w32 (by omega) (by omega),←hM,YEh l M.toNat _ (by omega) (by omega),Ylr,hM,w64 (by omega) (by omega),h3,Ypr]
            exact ih m (M+1) (n+Q) B _ (by omega) (by omega) (by omega) (by omega) (by omega) (by omega) hb' (by rw [YO9 _ _ _ (by omega)]; omega)
          by_cases a:n+Q≥55296
          · rw [Yhr a,Yjr]
            by_cases b:n+Q≤57343
            · rw [Yhr b,Yjr,Ynr (.inr ⟨a,b⟩)]
            · rw [Yir b,Ykr,Ymr (by omega)]; exact go (by omega)
          · rw [Yir a,Ykr,Ymr (by omega)]; exact go (by omega)
      · rw [show (y.2.2.1 !=0)=true from by simp [e],Yjr,Ynr e]
    · rw [Y16,Yc,Yir c,Ykr,Ynr (by omega)]
end Go.Abs
