/- Part L2 of the proof: see the last text of the claim. No condition of its own. -/
import Derived.Test.YtddagflhafkbnaaGreatDoorL1
set_option linter.all false
set_option autoImplicit false
namespace Go.Abs
theorem pre1 (c b:UInt8) (l:List UInt8):([c]:List UInt8).isPrefixOf (b::l)=(c==b):=by simp [List.isPrefixOf]
theorem YFc (c:UInt8):∀ x:List UInt8,decide (Lib.index x [c]>=0)=x.any (fun b=> b==c)
 | []=> rfl
 | b::l=> by
  have ih:=YFc c l
  have hge:=Lib.index_ge l [c]
  rw [Lib.index,pre1,List.any_cons,<-ih]
  by_cases h:c=b
  ·subst h; simp
  ·have h1:(c==b)=false:=by simpa using h
   have h2:(b==c)=false:=by simpa using fun e=> h e.symm
   rw [h1,h2,YPm (by simp),Y8n]
   by_cases h3:Lib.index l [c]=-1
   ·rw [h3]; rfl
   ·rw [YPm (by simpa using h3)]
    rw [YKm (by omega:Lib.index l [c]>=0),YKm (by omega:Lib.index l [c]+1>=0)]
def Yq8 (x:List UInt8):Bool:=x.any fun b=> b==46
theorem Y9i (x:List UInt8) (hx:x.length<=1073741824):YR7 (x,[46])=some (Yq8 x):=by
 rw [Y8i,YHf,Yhi,YN1]
 rw [show decide (x.length < 4294967281)=true from YKm (by omega),YMm,YOm,YFc]
 rfl
def Yn2:Int->List UInt8->Int
 | n,[]=> n
 | n,b::l=> Yn2 (n*10+(Y9 b - 48)) l
def dec3 (x:List UInt8):Option Int:=
 if x.length < 1\/3 < x.length then none else if x.all YT=true then (if x.getD 0 0=48/\1 < x.length then none else if 255 < Yn2 0 x then none else some (Yn2 0 x)) else none
theorem Yxg (b:UInt8):(((b.toNat:Nat):Int)==48)=decide (b=48):=by
 by_cases h:b=48
 ·subst h; rfl
 ·have:b.toNat≠48:=fun e=> h (UInt8.toNat_inj.1 e)
  rw [YLm h]; simp; omega
theorem YHc (b:UInt8) (h:YT b=true):48<=Y9 b/\Y9 b<=57:=by simpa [YT] using h
end Go.Abs
namespace Go.Abs
theorem w16 {x:Int} (h1:0<=x) (h2:x<=65535):IntKind.u16.wrap x=x:=by
 change (if (false&&decide (x % (65536:Int)>=(32768:Int)))=true then x % (65536:Int) - (65536:Int) else x % (65536:Int))=x
 rw [YPm (by simp)]; omega
theorem Y7j:(List.range 256).all (fun n=> Yy digs (Y9 (UInt8.ofNat n))==YT (UInt8.ofNat n))=true:=by kernel_rfl
theorem Y8j (b:UInt8):Yy digs (Y9 b)=YT b:=by
 refine Yu5 (p:=fun b=> Yy digs (Y9 b)=YT b) (fun n hn=> ?_) b
 have:=List.all_eq_true.1 Y7j n (List.mem_range.2 hn)
 simpa using this
theorem Ylg (x:List UInt8) (hx:x.length<=1073741824):YT3 (x,[48,49,50,51,52,53,54,55,56,57])=some (x.all YT):=by
 rw [show ([48,49,50,51,52,53,54,55,56,57]:List UInt8)=digs from rfl,Yz5 x digs Ya8 hx]
 congr 2
 funext b
 exact Y8j b
theorem YTb:∀ (x:List UInt8) (n:Int),0<=n->x.all YT=true->0<=Yn2 n x
 | [],n,h,_=> h
 | b::l,n,h,hd=> by
  rw [List.all_cons,YRm] at hd
  have:=YHc b hd.1
  exact YTb l _ (by omega) hd.2
theorem Y06 {x:List UInt8} {v:Int} (h:dec3 x=some v):1<=x.length/\x.length<=3/\x.all YT=true/\¬(x.getD 0 0=48/\1 < x.length)/\v=Yn2 0 x/\0<=v/\v<=255:=by
 unfold dec3 at h
 split at h
 ·cases h
 ·split at h
  ·split at h
   ·cases h
   ·split at h
    ·cases h
    ·rename_i h1 h2 h3 h4
     have:=Option.some.inj h
     have:=YTb x 0 (by omega) h2
     exact ⟨by omega,by omega,h2,h3,by omega,by omega,by omega⟩
  ·cases h
theorem Y6d {a b:Int} (ha:0<=a/\a<=255) (hb:0<=b/\b<=255):bits Go.BinOp.or IntKind.u16 (a*256) b=a*256+b:=by
 obtain ⟨m,rfl⟩:=Int.eq_ofNat_of_zero_le ha.1
 obtain ⟨n,rfl⟩:=Int.eq_ofNat_of_zero_le hb.1
 have e1:(BitVec.ofInt 16 ((m:Int)*256)).toNat=m*2 ^ 8:=by
  rw [BitVec.toNat_ofInt]; omega
 have e2:(BitVec.ofInt 16 (n:Int)).toNat=n:=by
  rw [BitVec.toNat_ofInt]; omega
 have e:(BitVec.ofInt 16 ((m:Int)*256)|||BitVec.ofInt 16 (n:Int)).toNat=m*256+n:=by
  rw [BitVec.toNat_or,e1,e2,Nat.mul_comm m,<-Nat.two_pow_add_eq_or_of_lt (by omega)]
 show IntKind.u16.wrap (((BitVec.ofInt 16 ((m:Int)*256)|||BitVec.ofInt 16 (n:Int)).toNat:Nat):Int)=_
 rw [e,w16 (by omega) (by omega)]
 omega
theorem YNd {a:Int} (h0:0<=a) (h1:a<=255):shl IntKind.u16 a 8=a*256:=by
 show IntKind.u16.wrap (a*2 ^ (min 8 16))=_
 rw [show (2:Int) ^ (min 8 16)=256 from rfl,w16 (by omega) (by omega)]
def YD6:List (List UInt8)->Option (List Int)
 | [x0,x1,x2,x3]=> (dec3 x0).bind fun a=> (dec3 x1).bind fun b=> (dec3 x2).bind fun c=> (dec3 x3).bind fun d=> some [a*256+b,c*256+d]
 | _=> none
def quad (x:List UInt8):Option (List Int):=YD6 (YM x 46)
end Go.Abs
namespace Go.Abs
theorem Ygd (s:List UInt8) (i:Nat) (x:List UInt8) (b:List Int) (r0:List (List UInt8)) (hi:i < 4) (hb:b.length=4) (hx:x.length<=3):∀ (k j:Nat) (m:Int),j+k=x.length->0<=m->m < 10 ^ j->(x.drop j).all YT=true->
  Zp s (i:Int) x 4 (i:Int) (x.length:Int) (j:Int) (b.set i m) r0=
   if 255 < Yn2 m (x.drop j) then some ([],false) else Zo s 4 ((i+1:Nat):Int) (b.set i (Yn2 m (x.drop j))) r0
 | 0,j,m,hk,h0,h1,hd=> by
  have:j=x.length:=by omega
  subst this
  have hg:List.getD (b.set i m) (Int.toNat (i:Int)) (Ty.zero (.int .u16))=m:=by
   rw [YSm,Y1n,List.getElem?_set_self (by omega)]; rfl
  have hw:IntKind.i64.wrap ((i:Int)+1)=((i+1:Nat):Int):=by rw [w64 (by omega) (by omega)]; omega
  rw [Yma,Yl,YLm (Ycn _),YNm,Ym,YKm hi,YMm,hg,List.drop_length,Yn2,hw]
  by_cases c:255 < m
  ·rw [show decide (m > 255)=true from YKm c,YMm,YQm c]
  ·rw [show decide (m > 255)=false from YLm c,YNm,YPm c]
 | k+1,j,m,hk,h0,h1,hd=> by
  have hj:j < x.length:=by omega
  have hg:List.getD (b.set i m) (Int.toNat (i:Int)) (Ty.zero (.int .u16))=m:=by
   rw [YSm,Y1n,List.getElem?_set_self (by omega)]; rfl
  have hget:x.getD (Int.toNat (j:Int)) 0=x[j]:=by
   rw [YSm,Y1n,Y2n hj]; rfl
  have hw:IntKind.i64.wrap ((j:Int)+1)=((j+1:Nat):Int):=by rw [w64 (by omega) (by omega)]; omega
  have hm:m < 1000:=by
   have:j=0\/j=1\/j=2:=by omega
   rcases this with rfl | rfl | rfl <;> simp at h1 <;> omega
  rw [YXm hj,List.all_cons,YRm] at hd
  have hdig:=YHc _ hd.1
  rw [Yma,Yl,YKm hj,YMm,Ym,YKm hi,YMm,Ym,YKm hj,YMm,YMm,hg,hget,hw]
  rw [show ((x[j].toNat:Nat):Int)=Y9 x[j] from rfl,w8 (by omega) (by omega),w16 (x:=10*m) (by omega) (by omega),w16 (x:=Y9 x[j] - 48) (by omega) (by omega),w16 (by omega) (by omega)]
  rw [YSm,List.set_set,YXm hj,Yn2,Int.mul_comm 10 m]
  exact Ygd s i x b r0 hi hb hx k (j+1) _ (by omega) (by omega) (by rw [Int.pow_succ]; omega) hd.2
theorem YA6 (s:List UInt8) (i:Nat) (b:List Int) (r0:List (List UInt8)) (x:List UInt8) (hi:i < 4) (hb:b.length=4) (hxi:r0[i]? =some x) (hb0:b[i]? =some 0) (hx:x.length<=1073741824):
  Zo s 4 (i:Int) b r0=match dec3 x with | none=> some ([],false) | some v=> Zo s 4 ((i+1:Nat):Int) (b.set i v) r0:=by
 have hget:List.getD r0 (Int.toNat (i:Int)) (Ty.zero .str)=x:=by
  rw [YSm,Y1n,hxi]; rfl
 have hl:i < r0.length:=by
  rcases Nat.lt_or_ge i r0.length with h | h
  ·exact h
  ·rw [List.getElem?_eq_none h] at hxi; cases hxi
 rw [Yka,show decide ((i:Int) < 4)=true from YKm (by omega),YMm,Ym,YKm hl,YMm,hget,Ylg x hx,YOm]
 by_cases h0:x.length < 1
 ·have:x=[]:=List.eq_nil_of_length_eq_zero (by omega)
  subst this; rfl
 have hne:(x==([]:List UInt8))=false:=by
  rw [YWm]; intro e; rw [e] at h0; simp at h0
 rw [hne,YNm]
 unfold dec3
 by_cases h3:3 < x.length
 ·rw [show decide (((x.length:Nat):Int) > 3)=true from YKm (by omega),YMm,YQm (.inr h3)]
 rw [show decide (((x.length:Nat):Int) > 3)=false from YLm (by omega),YNm,YPm (show ¬(x.length < 1\/3 < x.length) from by omega)]
 cases hd:x.all YT with
 | false=> rfl
 | true=>
  rw [Yan,YNm,YQm rfl,show Yb (0:Int) x.length=true from by rw [show (0:Int)=((0:Nat):Int) from rfl,Ym]; exact YKm (by omega),YMm,Yxg,show Int.toNat (0:Int)=0 from rfl]
  have hbs:b.set i 0=b:=by
   apply List.ext_getElem?
   intro n
   by_cases e:i=n
   ·subst e; rw [List.getElem?_set_self (by omega),hb0]
   ·rw [List.getElem?_set_ne e]
  have loop:=Ygd s i x b r0 hi hb (by omega) x.length 0 0 (by omega) (by omega) (by simp) hd
  rw [show ((0:Nat):Int)=0 from rfl,List.drop_zero,hbs] at loop
  rw [loop]
  by_cases c:x.getD 0 0=48
  ·rw [YKm c,YMm]
   by_cases d:1 < x.length
   ·rw [show decide (((x.length:Nat):Int) > 1)=true from YKm (by omega),YMm,YQm (show x.getD 0 0=48/\1 < x.length from ⟨c,d⟩)]
   ·rw [show decide (((x.length:Nat):Int) > 1)=false from YLm (by omega),YNm,YPm (show ¬(x.getD 0 0=48/\1 < x.length) from fun h=> d h.2)]
    split <;> rfl
  ·rw [YLm c,YNm,YPm (show ¬(x.getD 0 0=48/\1 < x.length) from fun h=> c h.1)]
   split <;> rfl
theorem Yhh (x:List UInt8) (hx:x.length<=1073741824):YD7 x=match quad x with | none=> some ([],false) | some l=> some (l,true):=by
 rw [Ygh,YLf,YD5 x 46 hx,YOm]
 have hle:∀ y∈YM x 46,y.length<=1073741824:=by
  intro y hy
  have:=Yh5 46 x [] y hy
  simp at this; omega
 unfold quad
 generalize YM x 46=y at hle ⊢
 match y,hle with
 | [],_=> rfl
 | [_],_=> rfl
 | [_,_],_=> rfl
 | [_,_,_],_=> rfl
 | x0::x1::x2::x3::x4::l,_=>
  rw [show ((((x0::x1::x2::x3::x4::l).length:Nat):Int) !=4)=true from by simp only [YTm,bne_iff_ne]; omega,YMm]; rfl
 | [x0,x1,x2,x3],hle=>
  rw [show ((((([x0,x1,x2,x3]:List (List UInt8)).length):Nat):Int) !=4)=false from rfl,YNm]
  have s0:=YA6 x 0 [0,0,0,0] [x0,x1,x2,x3] x0 (by omega) rfl rfl rfl (hle x0 (by simp))
  rw [show ((0:Nat):Int)=0 from rfl] at s0
  rw [show (((([x0,x1,x2,x3]:List (List UInt8)).length:Nat):Int))=4 from rfl,show (Ty.zero (.arr 4 (.int .u16)):List Int)=[0,0,0,0] from rfl,s0]
  rw [show YD6 [x0,x1,x2,x3]=(dec3 x0).bind fun a=> (dec3 x1).bind fun b=> (dec3 x2).bind fun c=> (dec3 x3).bind fun d=> some [a*256+b,c*256+d] from rfl]
  cases h0:dec3 x0 with
  | none=> rfl
  | some a=>
   have b0:=Y06 h0
   simp only [YOm]
   rw [YA6 x 1 _ [x0,x1,x2,x3] x1 (by omega) rfl rfl rfl (hle x1 (by simp))]
   cases h1:dec3 x1 with
   | none=> rfl
   | some b=>
    have b1:=Y06 h1
    simp only [YOm]
    rw [YA6 x 2 _ [x0,x1,x2,x3] x2 (by omega) rfl rfl rfl (hle x2 (by simp))]
    cases h2:dec3 x2 with
    | none=> rfl
    | some c=>
     have b2:=Y06 h2
     simp only [YOm]
     rw [YA6 x 3 _ [x0,x1,x2,x3] x3 (by omega) rfl rfl rfl (hle x3 (by simp))]
     cases h3:dec3 x3 with
     | none=> rfl
     | some d=>
      have b3:=Y06 h3
      simp only [YOm]
      rw [Yka,show decide (((3+1:Nat):Int) < 4)=false from rfl,YNm]
      show some ([bits Go.BinOp.or IntKind.u16 (shl IntKind.u16 a 8) b,bits Go.BinOp.or IntKind.u16 (shl IntKind.u16 c 8) d],true)=_
      rw [YNd (by omega) (by omega),YNd (by omega) (by omega),Y6d (by omega) (by omega),Y6d (by omega) (by omega)]
end Go.Abs
namespace Go.Abs
def Ya4 (x:List UInt8):Option Int:=if x.length < 1\/4 < x.length then none else if Y21 16 0 x < 0 then none else some (IntKind.u16.wrap (Y21 16 0 x))
def run6 (t:Bool):List (List UInt8)->Option (List Int)
 | []=> some []
 | x::l=> if t=true/\l=[]/\Yq8 x=true then quad x else (Ya4 x).bind fun v=> (run6 t l).map (v::·)
def YX1 (t:Bool) (s:List UInt8):Option (List Int):=if s=[] then some [] else run6 t (YM s 58)
theorem YNj {α:Type} (x:List UInt8) (r:List Int) (F:List Int->Option (List Int×Bool)) (hr:r.length<=1073741825):
  (bif (x==([]:List UInt8)) then some (([]:List Int),false)
   else bif (decide (((x.length:Nat):Int) > (4:Int))) then some (([]:List Int),false)
   else bif (decide (((List.length ([(48:UInt8),(120:UInt8)]:List UInt8))+x.length)<=(2 ^ 62))) then
    (Yf3 (([(48:UInt8),(120:UInt8)]:List UInt8)++x)).bind fun y1=>
     bif (!y1.2) then some (([]:List Int),false)
     else bif (decide (((List.length r)+(List.length ([(IntKind.wrap IntKind.u16 y1.1)]:List Int)))<=(lim))) then F (r++([(IntKind.wrap IntKind.u16 y1.1)]:List Int))
     else none
   else none)=match Ya4 x with | none=> some ([],false) | some v=> F (r++[v]):=by
 unfold Ya4
 by_cases h0:x.length < 1
 ·have:x=[]:=List.eq_nil_of_length_eq_zero (by omega)
  subst this; rfl
 have hne:(x==([]:List UInt8))=false:=by
  rw [YWm]; intro e; rw [e] at h0; simp at h0
 rw [hne,YNm]
 by_cases h4:4 < x.length
 ·rw [show decide (((x.length:Nat):Int) > 4)=true from YKm (by omega),YMm,YQm (.inr h4)]
 rw [show decide (((x.length:Nat):Int) > 4)=false from YLm (by omega),YNm,YPm (show ¬(x.length < 1\/4 < x.length) from by omega)]
 rw [show decide (((List.length ([(48:UInt8),(120:UInt8)]:List UInt8))+x.length)<=(2 ^ 62))=true from YKm (by simp; omega),YMm]
 rw [show ([(48:UInt8),(120:UInt8)]:List UInt8)++x=48::120::x from rfl,Y1b _ (by simp; omega),Y3d,YQm (show Y9 48=48 from rfl),YQm (show isX 120=true from rfl),YOm]
 unfold YW1
 by_cases hn:Y21 16 0 x < 0
 ·rw [YQm hn,YQm hn]; rfl
 ·rw [YPm hn,YPm hn]
  simp only [Yan,YNm]
  rw [show decide (r.length+[IntKind.u16.wrap (Y21 16 0 x)].length<=lim)=true from YKm (by simp [lim]; omega),YMm]
def Ok6 (o:Option (List Int)) (r:List Int) (y:Option (List Int×Bool)):Prop:=match o with
 | none=> ∃ u,y=some (u,false)
 | some l=> y=some (r++l,true)
theorem Yfd (s:List UInt8) (t:Bool) (parts:List (List UInt8)) (hl:parts.length<=1073741825) (hp:∀ x∈parts,x.length<=1073741824):∀ (k j:Nat) (r:List Int),j+k=parts.length->r.length<=j->
  Ok6 (run6 t (parts.drop j)) r (Zf s t (parts.length:Int) (j:Int) r parts)
 | 0,j,r,hk,hr=> by
  have:j=parts.length:=by omega
  subst this
  rw [Y5a,Yl,YLm (Ycn _),YNm,List.drop_length]
  show some (r,true)=some (r++[],true)
  rw [Ydn]
 | k+1,j,r,hk,hr=> by
  have hj:j < parts.length:=by omega
  have hget:List.getD parts (Int.toNat (j:Int)) (Ty.zero .str)=parts[j]:=by
   rw [YSm,Y1n,Y2n hj]; rfl
  have hw:IntKind.i64.wrap ((j:Int)+1)=((j+1:Nat):Int):=by rw [w64 (by omega) (by omega)]; omega
  have hx:=hp _ (List.getElem_mem hj)
  have hwl:IntKind.i64.wrap ((parts.length:Int) - 1)=((parts.length - 1:Nat):Int):=by rw [w64 (by omega) (by omega)]; omega
  have hex:=YNj (α:=Unit) parts[j] r (fun q=> Zf s t (parts.length:Int) ((j+1:Nat):Int) q parts) (by omega)
  have next:∀ v,Ok6 ((run6 t (parts.drop (j+1))).map (v::·)) r (Zf s t (parts.length:Int) ((j+1:Nat):Int) (r++[v]) parts):=by
   intro v
   have ih:=Yfd s t parts hl hp k (j+1) (r++[v]) (by omega) (by simp; omega)
   cases ho:run6 t (parts.drop (j+1)) with
   | none=> rw [ho] at ih; exact ih
   | some l=>
    rw [ho] at ih
    refine (show _=some _ from ih).trans ?_
    simp
  have hexOk:Ok6 ((Ya4 parts[j]).bind fun v=> (run6 t (parts.drop (j+1))).map (v::·)) r (match Ya4 parts[j] with | none=> some ([],false) | some v=> Zf s t (parts.length:Int) ((j+1:Nat):Int) (r++[v]) parts):=by
   cases Ya4 parts[j] with
   | none=> exact ⟨[],rfl⟩
   | some v=> exact next v
  rw [Y5a,Yl,YKm hj,YMm,Ym,YKm hj,YMm,hget,hw,hwl,YXm hj,run6,hex]
  cases t with
  | false=>
   rw [YNm,YPm (fun h=> Bool.noConfusion h.1)]
   exact hexOk
  | true=>
   rw [YMm]
   by_cases e:j=parts.length - 1
   ·rw [show (((j:Nat):Int)==((parts.length - 1:Nat):Int))=true from beq_iff_eq.2 (by omega),YMm,Y9i _ hx,YOm]
    have hnil:parts.drop (j+1)=[]:=List.drop_eq_nil_of_le (by omega)
    cases hd:Yq8 parts[j] with
    | false=>
     rw [YNm,YPm (fun h=> Bool.noConfusion h.2.2)]
     exact hexOk
    | true=>
     rw [YMm,YQm ⟨rfl,hnil,rfl⟩,Yhh _ hx]
     cases hq:quad parts[j] with
     | none=>
      simp only [YOm]
      rw [show decide (r.length+([]:List Int).length<=lim)=true from YKm (by simp [lim]; omega),YMm]
      exact ⟨_,rfl⟩
     | some l=>
      have hl2:l.length=2:=by
       unfold quad YD6 at hq
       split at hq
       ·simp only [Yhn] at hq
        obtain ⟨a,_,b,_,c,_,d,_,h⟩:=hq
        rw [<-Option.some.inj h]; rfl
       ·cases hq
      simp only [YOm]
      rw [show decide (r.length+l.length<=lim)=true from YKm (by simp [lim]; omega),YMm]
      rfl
   ·rw [show (((j:Nat):Int)==((parts.length - 1:Nat):Int))=false from YWm.2 (by omega),YNm]
    have hnn:¬parts.drop (j+1)=[]:=by
     rw [List.drop_eq_nil_iff]; omega
    rw [YPm (fun h=> hnn h.2.1)]
    exact hexOk
theorem YWd (s:List UInt8) (sep:Int):(YM s sep).length<=s.length+1/\∀ x∈YM s sep,x.length<=s.length:=by
 refine ⟨YK3 sep s [],fun x hx=> ?_⟩
 have:=Yh5 sep s [] x hx
 simpa using this
theorem YC5 (s:List UInt8) (t:Bool) (hs:s.length<=1073741823):Ok6 (YX1 t s) [] (Yl2 (s,t)):=by
 rw [Yfh,Yhf]
 unfold YX1
 by_cases h:s=[]
 ·subst h; exact rfl
 ·rw [show (s==([]:List UInt8))=false from YWm.2 h,YNm,YPm h]
  simp only
  rw [YD5 s 58 (by omega),YOm]
  have:=YWd s 58
  exact Yfd s t (YM s 58) (by omega) (fun x hx=> by have:=this.2 x hx; omega) (YM s 58).length 0 [] (by omega) (by simp)
end Go.Abs
namespace Go.Abs
def cc:List UInt8:=[58,58]
def z8:List Int:=[0,0,0,0,0,0,0,0]
def lay8 (a b:List Int):List Int:=(a++z8.drop a.length).take (8 - b.length)++b
def Yce (a b:Option (List Int)):List Int×Int:=match a,b with
 | some a,some b=> if 7 < a.length+b.length then (z8,55) else (lay8 a b,0)
 | _,_=> (z8,55)
def Ybe (a:Option (List Int)):List Int×Int:=match a with
 | some l=> if l.length=8 then (l,0) else (z8,55)
 | none=> (z8,55)
def v6Of (s:List UInt8):List Int×Int:=
 if Lib.index s cc < 0 then Ybe (YX1 true s) else Yce (YX1 false (s.take (Lib.index s cc).toNat)) (YX1 true (s.drop ((Lib.index s cc).toNat+2)))
theorem Yvd (t:Bool):∀ (l:List (List UInt8)) (r:List Int),run6 t l=some r->r.length<=l.length+1
 | [],r,h=> by rw [<-Option.some.inj h]; simp
 | x::l,r,h=> by
  unfold run6 at h
  split at h
  ·unfold quad YD6 at h
   split at h
   ·simp only [Yhn] at h
    obtain ⟨a,_,b,_,c,_,d,_,h⟩:=h
    rw [<-Option.some.inj h]; simp
   ·cases h
  ·simp only [Yhn,Ygn] at h
   obtain ⟨v,_,q,hq,h⟩:=h
   have:=Yvd t l q hq
   rw [<-h]; simp only [YTm]; omega
theorem Y19 (t:Bool) (s:List UInt8) (r:List Int) (h:YX1 t s=some r):r.length<=s.length+2:=by
 unfold YX1 at h
 split at h
 ·rw [<-Option.some.inj h]; simp
 ·have:=Yvd t _ r h
  have:=(YWd s 58).1
  omega
theorem Yt8:∀ s:List UInt8,0<=Lib.index s cc->(Lib.index s cc).toNat+2<=s.length
 | [],h=> by simp [Lib.index,cc] at h
 | [a],h=> by simp [Lib.index,cc,List.isPrefixOf] at h
 | a::b::l,h=> by
  have ih:=Yt8 (b::l)
  rw [Lib.index] at h ⊢
  split
  ·simp
  ·rename_i hp
   rw [YPm hp] at h
   have hge:=Lib.index_ge (b::l) cc
   split
   ·rename_i hn; rw [YQm hn] at h; omega
   ·rename_i hn
    rw [YPm hn] at h
    have h1:Lib.index (b::l) cc≠-1:=by simpa using hn
    have:=ih (by omega)
    simp only [YTm] at this ⊢
    omega
theorem YQb (a b:List Int) (h:a.length+b.length<=8):
  (List.take (Int.toNat (IntKind.i64.wrap ((8:Int) - (b.length:Int)))) ((List.take 0 z8++List.take (8 - 0) a)++List.drop (0+min a.length (8 - 0)) z8)++List.take (8 - Int.toNat (IntKind.i64.wrap ((8:Int) - (b.length:Int)))) b)++
   List.drop (Int.toNat (IntKind.i64.wrap ((8:Int) - (b.length:Int)))+min b.length (8 - Int.toNat (IntKind.i64.wrap ((8:Int) - (b.length:Int))))) ((List.take 0 z8++List.take (8 - 0) a)++List.drop (0+min a.length (8 - 0)) z8)=lay8 a b:=by
 have hw:Int.toNat (IntKind.i64.wrap ((8:Int) - (b.length:Int)))=8 - b.length:=by rw [w64 (by omega) (by omega)]; omega
 have hA:(List.take 0 z8++List.take (8 - 0) a)++List.drop (0+min a.length (8 - 0)) z8=a++z8.drop a.length:=by
  rw [List.take_zero,Yen,List.take_of_length_le (by omega),Nat.zero_add,Nat.min_eq_left (by omega)]
 have hl:(a++z8.drop a.length).length=8:=by rw [YUm,Y5n,show z8.length=8 from rfl]; omega
 unfold lay8
 rw [hw,hA]
 generalize a++z8.drop a.length=A at hl
 rw [List.take_of_length_le (l:=b) (by omega),Nat.min_eq_left (by omega),List.drop_eq_nil_of_le (by omega),Ydn]
theorem cut8 (b:List Int) (h:b.length<=8):Yh (some (IntKind.i64.wrap ((8:Int) - (b.length:Int)))) none 8=true:=by
 rw [w64 (by omega) (by omega),show ((8:Int) - (b.length:Int))=((8 - b.length:Nat):Int) from by omega]
 exact Yo1 (by omega)
theorem Ybi (s:List UInt8) (hs:s.length<=1073741823):
  YS7 (s,[58,58])=some (if Lib.index s cc < 0 then (s,[],false) else (s.take (Lib.index s cc).toNat,s.drop ((Lib.index s cc).toNat+2),true)):=by
 rw [Yai,Ydf,Yjh,YEf,Ymh,YN1,show decide (s.length < 4294967281)=true from YKm (by omega),YMm,YOm]
 rw [show ([58,58]:List UInt8)=cc from rfl]
 by_cases h:Lib.index s cc < 0
 ·rw [show decide (Lib.index s cc>=0)=false from YLm (by omega),YNm,YQm h]; rfl
 ·have hle:=Yt8 s (by omega)
  rw [show decide (Lib.index s cc>=0)=true from YKm (by omega),YMm,YPm h]
  obtain ⟨n,hn⟩:=Int.eq_ofNat_of_zero_le (show 0<=Lib.index s cc by omega)
  rw [hn] at hle ⊢
  rw [YSm] at hle ⊢
  have hc:Yh none (some (n:Int)) s.length=true:=by simp [Yh]; omega
  have hcl:Yn none (some (n:Int)) s=s.take n:=by simp [Yn]
  have hw:IntKind.i64.wrap ((n:Int)+((cc.length:Nat):Int))=((n+2:Nat):Int):=by
   rw [show ((cc.length:Nat):Int)=2 from rfl,w64 (by omega) (by omega)]; omega
  rw [hc,YMm,hcl,hw,Yo1 hle,YMm,YF1]; rfl
theorem YVg (s:List UInt8) (hs:s.length<=1073741823):Yy7 s=some (v6Of s):=by
 rw [YUg,YPe,Ybi s hs,YOm]
 unfold v6Of
 by_cases h:Lib.index s cc < 0
 ·rw [YQm h,YQm h]
  simp only [Ybn,YMm,YNm]
  have o1:=YC5 s true hs
  have o2:Yl2 ([],true)=some ([],true):=YC5 [] true (by simp)
  have ln:=Y19 true s
  unfold Ybe
  cases hp:YX1 true s with
  | none=>
   rw [hp] at o1
   obtain ⟨u,hu⟩:=o1
   rw [hu,o2]; rfl
  | some l=>
   rw [hp] at o1
   have ln:=ln l hp
   have hu:Yl2 (s,true)=some (l,true):=o1
   rw [hu,o2]
   simp only [YOm,Yan,YNm]
   rw [w64 (by simp only [YYm]; omega) (by simp only [YYm]; omega)]
   rw [show ((l.length:Nat):Int)+((([]:List Int).length:Nat):Int)=(l.length:Int) from by simp]
   by_cases c:l.length=8
   ·rw [show (((l.length:Nat):Int) !=8)=false from by simp [c],YNm,YQm c,cut8 [] (by simp),YMm]
    have:=YQb l [] (by simp [c])
    refine congrArg some (Prod.ext ?_ rfl)
    refine this.trans ?_
    unfold lay8
    rw [c,show z8.drop 8=[] from rfl,Ydn,Ydn,List.take_of_length_le (by simp [c])]
   ·rw [show (((l.length:Nat):Int) !=8)=true from by simp; omega,YMm,YPm c]; rfl
 ·rw [YPm h,YPm h]
  have hle:=Yt8 s (by omega)
  simp only [Yan,YMm,YNm]
  have o1:=YC5 (s.take (Lib.index s cc).toNat) false (by simp; omega)
  have o2:=YC5 (s.drop ((Lib.index s cc).toNat+2)) true (by simp; omega)
  have l1:=Y19 false (s.take (Lib.index s cc).toNat)
  have l2:=Y19 true (s.drop ((Lib.index s cc).toNat+2))
  unfold Yce
  cases h1:YX1 false (s.take (Lib.index s cc).toNat) with
  | none=>
   rw [h1] at o1
   obtain ⟨u,hu⟩:=o1
   rw [hu]
   cases h2:YX1 true (s.drop ((Lib.index s cc).toNat+2)) with
   | none=>
    rw [h2] at o2
    obtain ⟨u2,hu2⟩:=o2
    rw [hu2]; rfl
   | some b=>
    rw [h2] at o2
    rw [show Yl2 (s.drop ((Lib.index s cc).toNat+2),true)=some (b,true) from o2]; rfl
  | some a=>
   rw [h1] at o1
   have l1:=l1 a h1
   rw [show Yl2 (s.take (Lib.index s cc).toNat,false)=some (a,true) from o1]
   cases h2:YX1 true (s.drop ((Lib.index s cc).toNat+2)) with
   | none=>
    rw [h2] at o2
    obtain ⟨u2,hu2⟩:=o2
    rw [hu2]; rfl
   | some b=>
    rw [h2] at o2
    have l2:=l2 b h2
    rw [show Yl2 (s.drop ((Lib.index s cc).toNat+2),true)=some (b,true) from o2]
    simp only [Y4n,Y5n] at l1 l2
    simp only [YOm,Yan,YNm]
    rw [w64 (by omega) (by omega)]
    by_cases c:7 < a.length+b.length
    ·rw [show decide (((a.length:Nat):Int)+((b.length:Nat):Int) > 7)=true from YKm (by omega),YMm,YQm c]; rfl
    ·rw [show decide (((a.length:Nat):Int)+((b.length:Nat):Int) > 7)=false from YLm (by omega),YNm,YPm c,cut8 b (by omega),YMm]
     exact congrArg some (Prod.ext (YQb a b (by omega)) rfl)
end Go.Abs
namespace Go.Abs
end Go.Abs
