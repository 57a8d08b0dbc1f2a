/- Part L1 of the proof: see the last text of the claim. No condition of its own. -/
import Derived.Test.YtddagflhafkbnaaGreatDoorQ1
import Derived.Lib.TrimU
set_option linter.all false
set_option autoImplicit false
namespace Go.Abs
theorem w64 {x:Int} (h1:-9223372036854775808<=x) (h2:x<=9223372036854775807):IntKind.i64.wrap x=x:=by
 change (if (true&&decide (x % (18446744073709551616:Int)>=(9223372036854775808:Int)))=true then x % (18446744073709551616:Int) - (18446744073709551616:Int) else x % (18446744073709551616:Int))=x
 by_cases h:x % (18446744073709551616:Int)>=(9223372036854775808:Int)
 ·rw [YQm (by simp [h])]; omega
 ·rw [YPm (by simp [h])]; omega
theorem Ym {i n:Nat}:Yb (i:Int) n=decide (i < n):=by
 unfold Yb
 by_cases h:i < n
 ·simp [h]
 ·simp [h]
theorem Yl {i n:Nat}:decide ((i:Int) < (n:Int))=decide (i < n):=by
 by_cases h:i < n
 ·simp [h]
 ·simp [h]
theorem YY5 {f i n:Nat} (h1:f<=i) (h2:i<=n):Yh (some (f:Int)) (some (i:Int)) n=true:=by
 simp [Yh]; omega
theorem Yo1 {f n:Nat} (h1:f<=n):Yh (some (f:Int)) none n=true:=by
 simp [Yh]; omega
theorem YX5 {α:Type} (f i:Nat) (x:List α):Yn (some (f:Int)) (some (i:Int)) x=(x.take i).drop f:=by simp [Yn]
theorem YF1 {α:Type} (f:Nat) (x:List α):Yn (some (f:Int)) none x=x.drop f:=by simp [Yn]
def Yi1 (sep:Int):List UInt8->List UInt8->List (List UInt8)
 | cur,[]=> [cur]
 | cur,b::l=> if ((b.toNat:Nat):Int)=sep then cur::Yi1 sep [] l else Yi1 sep (cur++[b]) l
def YM (s:List UInt8) (sep:Int):List (List UInt8):=Yi1 sep [] s
theorem YK3 (sep:Int):∀ (l cur:List UInt8),(Yi1 sep cur l).length<=l.length+1
 | [],cur=> by simp [Yi1]
 | b::l,cur=> by
  unfold Yi1
  split
  ·simp only [YTm]; have:=YK3 sep l []; omega
  ·have:=YK3 sep l (cur++[b]); simp only [YTm]; omega
theorem YXd {s:List UInt8} {f i:Nat} (hf:f<=i) (hi:i < s.length):(s.take (i+1)).drop f=(s.take i).drop f++[s[i]]:=by
 rw [List.take_succ_eq_append_getElem hi,List.drop_append_of_le_length (by simp; omega)]
theorem YS8 (s:List UInt8) (sep:Int) (hs:s.length<=1073741824):∀ (k f i:Nat) (r:List (List UInt8)),f<=i->i+k=s.length->r.length+k<=1073741824->
  Zk s sep (f:Int) (s.length:Int) (i:Int) r=some (r++Yi1 sep ((s.take i).drop f) (s.drop i))
 | 0,f,i,r,hf,hk,hr=> by
  have hi:i=s.length:=by omega
  subst hi
  rw [Yca]
  simp only [Yl,Ycn,decide_false,YNm,Yo1 hf,YMm,YF1,List.take_length,List.drop_length,Yi1]
  have:decide (r.length+[List.drop f s].length<=lim)=true:=by simp [lim]; omega
  rw [this]; rfl
 | k+1,f,i,r,hf,hk,hr=> by
  have hi:i < s.length:=by omega
  have hw:IntKind.i64.wrap ((i:Int)+1)=((i+1:Nat):Int):=by rw [w64 (by omega) (by omega)]; omega
  have hget:s.getD (Int.toNat (i:Int)) 0=s[i]:=by
   rw [YSm,Y1n,Y2n hi]; rfl
  have hdrop:s.drop i=s[i]::s.drop (i+1):=YXm hi
  rw [Yca]
  simp only [Yl,hi,decide_true,YMm,Ym,hget,hw,YY5 hf (Nat.le_of_lt hi),YX5]
  rw [hdrop,Yi1]
  by_cases hsep:((s[i].toNat:Nat):Int)=sep
  ·have hb:((((s[i].toNat:Nat):Int))==sep)=true:=by simp [hsep]
   have hl:decide (r.length+[List.drop f (List.take i s)].length<=lim)=true:=by simp [lim]; omega
   rw [hb,YMm,hl,YMm,YQm hsep,YS8 s sep hs k (i+1) (i+1) _ (Nat.le_refl _) (by omega) (by simp; omega)]
   simp
  ·have hb:((((s[i].toNat:Nat):Int))==sep)=false:=by simp [hsep]
   rw [hb,YNm,YPm hsep,YS8 s sep hs k f (i+1) r (by omega) (by omega) (by omega),YXd hf hi]
theorem YD5 (s:List UInt8) (sep:Int) (hs:s.length<=1073741824):YW3 (s,sep)=some (YM s sep):=by
 rw [Yvh,YAf]
 exact YS8 s sep hs s.length 0 0 [] (Nat.le_refl _) (by omega) (by simpa using hs)
end Go.Abs
namespace Go.Abs
def Y9 (b:UInt8):Int:=((b.toNat:Nat):Int)
def lowI (x:Int):Int:=if 65<=x/\x<=90 then bits Go.BinOp.xor IntKind.u8 x 32 else x
def lowB (b:UInt8):UInt8:=UInt8.ofNat (lowI (Y9 b)).toNat
theorem Ym7 (b:UInt8):0<=Y9 b/\Y9 b<=255:=by
 unfold Y9
 have:=b.toNat_lt
 omega
theorem YT8 (s0:List UInt8):∀ (k i:Nat) (r:List Int),i+k=r.length->r.length<=1073741824->
  Zr s0 65 90 (r.length:Int) (i:Int) r=some (Yx (r.take i++(r.drop i).map lowI))
 | 0,i,r,hk,hr=> by
  have hi:i=r.length:=by omega
  subst hi
  rw [Ypa]
  simp [Yl]
 | k+1,i,r,hk,hr=> by
  have hi:i < r.length:=by omega
  have hw:IntKind.i64.wrap ((i:Int)+1)=((i+1:Nat):Int):=by rw [w64 (by omega) (by omega)]; omega
  have hget:List.getD r (Int.toNat (i:Int)) (Ty.zero (.int .u8))=r[i]:=by
   rw [YSm,Y1n,Y2n hi]; rfl
  have hdrop:r.drop i=r[i]::r.drop (i+1):=YXm hi
  have htake:∀ l:List Int,(h:i < l.length)->l.take (i+1)=l.take i++[l[i]]:=fun l h=> List.take_succ_eq_append_getElem h
  rw [Ypa]
  simp only [Yl,hi,decide_true,YMm,Ym,hget,hw]
  rw [hdrop,Y7n]
  have next:Zr s0 65 90 (r.length:Int) ((i+1:Nat):Int) r=some (Yx (r.take i++[r[i]]++(r.drop (i+1)).map lowI)):=by
   rw [YT8 s0 k (i+1) r (by omega) hr,htake r hi]
  by_cases h1:(65:Int)<=r[i]
  ·have e1:decide (r[i]>=65)=true:=by simpa using h1
   rw [e1,YMm]
   by_cases h2:r[i]<=(90:Int)
   ·have e2:decide (r[i]<=90)=true:=by simpa using h2
    rw [e2,YMm]
    have hl:(List.set r (Int.toNat (i:Int)) (bits Go.BinOp.xor IntKind.u8 r[i] 32)).length=r.length:=by simp
    have:=YT8 s0 k (i+1) (List.set r (Int.toNat (i:Int)) (bits Go.BinOp.xor IntKind.u8 r[i] 32)) (by rw [hl]; omega) (by rw [hl]; exact hr)
    rw [hl] at this
    rw [this,YSm]
    have e3:lowI r[i]=bits Go.BinOp.xor IntKind.u8 r[i] 32:=by unfold lowI; rw [YQm ⟨h1,h2⟩]
    rw [e3,htake _ (by simpa using hi)]
    simp [List.take_set_of_le,List.drop_set_of_lt]
   ·have e2:decide (r[i]<=90)=false:=by simpa using h2
    rw [e2,YNm,next]
    have e3:lowI r[i]=r[i]:=by unfold lowI; rw [YPm (fun h=> h2 h.2)]
    rw [e3,YVm]; rfl
  ·have e1:decide (r[i]>=65)=false:=by simpa using h1
   rw [e1,YNm,next]
   have e3:lowI r[i]=r[i]:=by unfold lowI; rw [YPm (fun h=> h1 h.1)]
   rw [e3,YVm]; rfl
theorem YV3 (s:List UInt8) (hs:s.length<=1073741824):YH2 s=some (s.map lowB):=by
 rw [Ysh,Ypf,Ywh]
 simp only
 rw [YVf]
 have hl:(YK s).length=s.length:=by simp [YK]
 have:=YT8 s (YK s).length 0 (YK s) (by omega) (by omega)
 rw [show ((0:Nat):Int)=(0:Int) from rfl] at this
 rw [this]
 simp [Yx,YK,lowB,Y9,Function.comp_def]
def nib (x:Int):Int:=
 if 48<=x/\x<=57 then x - 48 else if 97<=x/\x<=102 then x - 87 else if 65<=x/\x<=70 then x - 55 else -1
theorem w8 {x:Int} (h1:0<=x) (h2:x<=255):IntKind.u8.wrap x=x:=by
 change (if (false&&decide (x % (256:Int)>=(128:Int)))=true then x % (256:Int) - (256:Int) else x % (256:Int))=x
 rw [YPm (by simp)]; omega
def hexs:List UInt8:=[48,49,50,51,52,53,54,55,56,57,97,98,99,100,101,102]
theorem YOj:(List.range 256).all (fun n=> decide (Lib.indexByte hexs (UInt8.ofNat (Y9 (lowB (UInt8.ofNat n))).toNat)=nib (Y9 (UInt8.ofNat n))))=true:=by kernel_rfl
theorem Yu5 {p:UInt8->Prop} (h:∀ n,n < 256->p (UInt8.ofNat n)) (b:UInt8):p b:=by
 have:=h b.toNat b.toNat_lt
 rwa [UInt8.ofNat_toNat] at this
theorem YPj (b:UInt8):Lib.indexByte hexs (UInt8.ofNat (Y9 (lowB b)).toNat)=nib (Y9 b):=by
 refine Yu5 (p:=fun b=> Lib.indexByte hexs (UInt8.ofNat (Y9 (lowB b)).toNat)=nib (Y9 b)) (fun n hn=> ?_) b
 have:=List.all_eq_true.1 YOj n (List.mem_range.2 hn)
 simpa using this
def Y21 (base:Int):Int->List UInt8->Int
 | n,[]=> n
 | n,b::l=> if nib (Y9 b) < 0\/base<=nib (Y9 b) then -1 else Y21 base (if n*base+nib (Y9 b) < 1099511627776 then n*base+nib (Y9 b) else 1099511627776) l
theorem Y65 (x:Int):-1<=nib x/\nib x<=15:=by
 unfold nib; split
 ·omega
 ·split
  ·omega
  ·split <;> omega
def YW1 (v:Int):Int×Bool:=if v < 0 then (0,false) else (v,true)
theorem Yed (s:List UInt8) (base:Int) (hb:2<=base/\base<=16) (hs:s.length<=1073741824):∀ (k i:Nat) (n:Int),i+k=s.length->0<=n->n<=1099511627776->
  Zc s base n (s.length:Int) (i:Int)=some (YW1 (Y21 base n (s.drop i)))
 | 0,i,n,hk,h0,h1=> by
  have hi:i=s.length:=by omega
  subst hi
  rw [Y2a]
  simp [Yl,Y21,YW1]
  omega
 | k+1,i,n,hk,h0,h1=> by
  have hi:i < s.length:=by omega
  have hw:IntKind.i64.wrap ((i:Int)+1)=((i+1:Nat):Int):=by rw [w64 (by omega) (by omega)]; omega
  have hnb:=Y65 (Y9 s[i])
  have hm0:0<=n*base:=Int.mul_nonneg h0 (by omega)
  have hm1:n*base<=1099511627776*16:=Int.mul_le_mul h1 hb.2 (by omega) (by omega)
  have hcut:(s.take (i+1)).drop i=[s[i]]:=by
   rw [YXd (Nat.le_refl _) hi]; simp
  rw [Y2a]
  simp only [Yl,hi,decide_true,YMm,hw,YY5 (Nat.le_succ i) hi,YX5,hcut]
  rw [YV3 _ (by simp)]
  simp only [YOm,Y7n,List.map_nil]
  have e0:Yb (0:Int) [lowB s[i]].length=true:=by rw [show (0:Int)=((0:Nat):Int) from rfl,Ym]; simp
  rw [e0,YMm,YY3]
  simp only [YY1]
  rw [show (([lowB s[i]].getD (Int.toNat 0) (0:UInt8)).toNat:Int)=Y9 (lowB s[i]) from rfl]
  rw [show Lib.indexByte [48,49,50,51,52,53,54,55,56,57,97,98,99,100,101,102] (UInt8.ofNat (Y9 (lowB s[i])).toNat)=nib (Y9 s[i]) from YPj s[i]]
  simp only [YOm]
  rw [YXm hi,Y21]
  by_cases a:nib (Y9 s[i]) < 0
  ·rw [YKm a,YMm,YQm (show nib (Y9 s[i]) < 0\/base<=nib (Y9 s[i]) from .inl a)]; rfl
  ·rw [YLm a,YNm]
   by_cases b:base<=nib (Y9 s[i])
   ·rw [show decide (nib (Y9 s[i])>=base)=true from by simpa using b,YMm,YQm (show nib (Y9 s[i]) < 0\/base<=nib (Y9 s[i]) from .inr b)]; rfl
   ·rw [show decide (nib (Y9 s[i])>=base)=false from by simpa using b,YNm,YPm (show ¬(nib (Y9 s[i]) < 0\/base<=nib (Y9 s[i])) from fun h=> h.elim a b)]
    rw [w64 (x:=n*base) (by omega) (by omega),w64 (by omega) (by omega)]
    exact Yed s base hb hs k (i+1) _ (by omega) (by split <;> omega) (by split <;> omega)
end Go.Abs
namespace Go.Abs
def isX (b:UInt8):Bool:=Y9 b==120||Y9 b==88
theorem Y8k:(List.range 256).all (fun n=> (bits Go.BinOp.or IntKind.u8 (Y9 (UInt8.ofNat n)) 32==(120:Int))==isX (UInt8.ofNat n))=true:=by kernel_rfl
theorem Y2l (b:UInt8):(bits Go.BinOp.or IntKind.u8 (Y9 b) 32==(120:Int))=isX b:=by
 refine Yu5 (p:=fun b=> (bits Go.BinOp.or IntKind.u8 (Y9 b) 32==(120:Int))=isX b) (fun n hn=> ?_) b
 have:=List.all_eq_true.1 Y8k n (List.mem_range.2 hn)
 simpa using this
def YK1 (s:List UInt8):Int:=match s with
 | []=> -1
 | [b]=> Y21 10 0 [b]
 | a::b::l=> if Y9 a=48 then (if isX b=true then Y21 16 0 l else Y21 8 0 (b::l)) else Y21 10 0 (a::b::l)
theorem Y3d (a b:UInt8) (l:List UInt8):YK1 (a::b::l)=if Y9 a=48 then (if isX b=true then Y21 16 0 l else Y21 8 0 (b::l)) else Y21 10 0 (a::b::l):=rfl
theorem Yz6 (s:List UInt8) (base:Int) (hb:2<=base/\base<=16) (hs:s.length<=1073741824):Za s base=some (YW1 (Y21 base 0 s)):=by
 rw [Y6f]
 exact Yed s base hb hs s.length 0 0 (by omega) (by omega) (by omega)
theorem YGj (a b:UInt8) (l:List UInt8):decide ((((a::b::l).length:Nat):Int)>=2)=true:=by simp; omega
theorem YFj (a:UInt8):decide ((([a].length:Nat):Int)>=2)=false:=by simp
theorem Ys8 {α:Type} (a:α) (l:List α):Yb (0:Int) (a::l).length=true:=by
 rw [show (0:Int)=((0:Nat):Int) from rfl,Ym]; simp
theorem YVj {α:Type} (a b:α) (l:List α):Yb (1:Int) (a::b::l).length=true:=by
 rw [show (1:Int)=((1:Nat):Int) from rfl,Ym]; simp
theorem cut1 (a b:UInt8) (l:List UInt8):Yh (some (1:Int)) none (a::b::l).length=true:=Yo1 (f:=1) (by simp)
theorem cut2 (a b:UInt8) (l:List UInt8):Yh (some (2:Int)) none (a::b::l).length=true:=Yo1 (f:=2) (by simp)
theorem Y0j (a b:UInt8) (l:List UInt8):Yn (some (1:Int)) none (a::b::l)=b::l:=YF1 1 _
theorem Y1j (a b:UInt8) (l:List UInt8):Yn (some (2:Int)) none (a::b::l)=l:=YF1 2 _
theorem get0 (a:UInt8) (l:List UInt8):(((List.getD (a::l) (Int.toNat (0:Int)) (0:UInt8)).toNat:Nat):Int)=Y9 a:=rfl
theorem get1 (a b:UInt8) (l:List UInt8):(((List.getD (a::b::l) (Int.toNat (1:Int)) (0:UInt8)).toNat:Nat):Int)=Y9 b:=rfl
theorem Y1b (s:List UInt8) (hs:s.length<=1073741824):Yf3 s=some (YW1 (YK1 s)):=by
 rw [Ydh,Y1f]
 match s,hs with
 | [],_=> rfl
 | [a],hs=>
  simp only [YFj,YNm]
  rw [show (([a]:List UInt8)==[])=false from rfl,YNm,Y1a,Yz6 _ _ (by omega) hs]
  rfl
 | a::b::l,hs=>
  have hl:(b::l).length<=1073741824:=by simp only [YTm] at hs ⊢; omega
  have hl2:l.length<=1073741824:=by simp only [YTm] at hs; omega
  have e0:((a::b::l:List UInt8)==[])=false:=rfl
  simp only [e0,YNm,YGj,YMm,Ys8,YVj,get0,get1,cut1,cut2,Y0j,Y1j,Y2l,Y1a,Yz6 _ _ (show (2:Int)<=16/\(16:Int)<=16 by omega) hl2,
   Yz6 _ _ (show (2:Int)<=8/\(8:Int)<=16 by omega) hl,Yz6 _ _ (show (2:Int)<=10/\(10:Int)<=16 by omega) hs]
  rw [Y3d]
  by_cases h48:Y9 a=48
  ·rw [YQm h48,show (Y9 a==48)=true from by simpa using h48]
   simp only [YMm]
   cases hx:isX b <;> simp
  ·rw [YPm h48,show (Y9 a==48)=false from by simpa using h48]
   simp only [YNm]
theorem Y75 (base:Int):∀ (l:List UInt8) (n:Int),n<=1099511627776->Y21 base n l<=1099511627776
 | [],n,h=> h
 | b::l,n,h=> by
  unfold Y21
  split
  ·omega
  ·exact Y75 base l _ (by split <;> omega)
theorem YPk (s:List UInt8):YK1 s<=1099511627776:=by
 unfold YK1
 split
 ·omega
 ·exact Y75 _ _ _ (by omega)
 ·split
  ·split
   ·exact Y75 _ _ _ (by omega)
   ·exact Y75 _ _ _ (by omega)
  ·exact Y75 _ _ _ (by omega)
def YZ (s:List UInt8):List (List UInt8):=
 if 1 < (YM s 46).length/\(YM s 46).getD ((YM s 46).length - 1) []=[] then (YM s 46).take ((YM s 46).length - 1) else YM s 46
theorem YQ6 (sep:Int):∀ (l cur:List UInt8),1<=(Yi1 sep cur l).length
 | [],cur=> by simp [Yi1]
 | b::l,cur=> by
  unfold Yi1
  split
  ·simp
  ·exact YQ6 sep l _
theorem Yfl (y:List (List UInt8)) (h1:1<=y.length) (h2:y.length<=1073741825):
  (bif (decide ((((List.length y):Nat):Int) > (1:Int))) then
    bif (Yb (IntKind.wrap IntKind.i64 ((((List.length y):Nat):Int) - (1:Int))) (List.length y)) then
     bif ((List.getD y (Int.toNat (IntKind.wrap IntKind.i64 ((((List.length y):Nat):Int) - (1:Int)))) (Ty.zero .str))==([]:List UInt8)) then
      bif (Yh none (some (IntKind.wrap IntKind.i64 ((((List.length y):Nat):Int) - (1:Int)))) (List.length y)) then
       some (List.take (Option.getD (Option.map (Int.toNat) (some (IntKind.wrap IntKind.i64 ((((List.length y):Nat):Int) - (1:Int))))) (List.length y)) y)
      else
       none
     else
      some y
    else
     none
   else
    some y)=some (if 1 < y.length/\y.getD (y.length - 1) []=[] then y.take (y.length - 1) else y):=by
 have hw:IntKind.i64.wrap ((y.length:Int) - 1)=((y.length - 1:Nat):Int):=by rw [w64 (by omega) (by omega)]; omega
 by_cases h:1 < y.length
 ·have e1:decide (((y.length:Nat):Int) > 1)=true:=by simp; omega
  rw [e1,YMm,hw,Ym,YKm (by omega:y.length - 1 < y.length),YMm,YSm]
  rw [show Ty.zero .str=([]:List UInt8) from rfl]
  by_cases g:y.getD (y.length - 1) []=[]
  ·rw [g,show ((([]:List UInt8))==[])=true from rfl,YMm,YQm ⟨h,rfl⟩]
   have:Yh none (some ((y.length - 1:Nat):Int)) y.length=true:=by simp [Yh]
   rw [this,YMm]
   simp
  ·rw [show (y.getD (y.length - 1) []==([]:List UInt8))=false from by simpa using g,YNm,YPm (fun k=> g k.2)]
 ·have e1:decide (((y.length:Nat):Int) > 1)=false:=by simp; omega
  rw [e1,YNm,YPm (fun k=> h k.1)]
theorem Y2b (s:List UInt8) (hs:s.length<=1073741824):YB5 s=some (YZ s):=by
 rw [Yeh,YXe,YD5 s 46 hs]
 exact Yfl _ (YQ6 _ _ _) (by have:=YK3 46 s []; unfold YM; omega)
theorem Yh5 (sep:Int):∀ (l cur x:List UInt8),x∈Yi1 sep cur l->x.length<=cur.length+l.length
 | [],cur,x,h=> by
  simp only [Yi1,Yjn] at h; subst h; simp
 | b::l,cur,x,h=> by
  unfold Yi1 at h
  split at h
  ·rcases Y0n.1 h with rfl | h
   ·simp
   ·have:=Yh5 sep l [] x h; simp only [YYm,YTm] at this ⊢; omega
  ·have:=Yh5 sep l _ x h; simp only [YUm,YTm,YYm] at this ⊢; omega
theorem Yjd (s x:List UInt8) (h:x∈YZ s):x.length<=s.length:=by
 have:x∈YM s 46:=by
  unfold YZ at h
  split at h
  ·exact List.mem_of_mem_take h
  ·exact h
 have:=Yh5 46 s [] x this
 simpa using this
theorem YX8 (s:List UInt8):1<=(YZ s).length:=by
 have:=YQ6 46 s []
 unfold YZ
 split
 ·rename_i h; rw [Y4n]; omega
 ·exact this
theorem Yel (s:List UInt8):(YZ s).length<=s.length+1:=by
 have:=YK3 46 s []
 unfold YZ
 split
 ·rw [Y4n]; unfold YM; omega
 ·exact this
end Go.Abs
namespace Go.Abs
theorem YOd {x:Int} {y:Nat} (hy:y<=64) (h1:-9223372036854775808<=x*2 ^ y) (h2:x*2 ^ y<=9223372036854775807):shl IntKind.i64 x (y:Int)=x*2 ^ y:=by
 unfold shl
 rw [YSm,show (min y IntKind.i64.bits)=y from Nat.min_eq_left hy]
 exact w64 h1 h2
def ip4:List Int->Int×Int
 | [a]=> if 4294967296<=a then (0,4) else (IntKind.u32.wrap a,0)
 | [a,b]=> if 16777216<=b\/255 < a then (0,4) else (IntKind.u32.wrap (b+a*16777216),0)
 | [a,b,c]=> if 65536<=c\/255 < a\/255 < b then (0,4) else (IntKind.u32.wrap (c+a*16777216+b*65536),0)
 | [a,b,c,d]=> if 256<=d\/255 < a\/255 < b\/255 < c then (0,4) else (IntKind.u32.wrap (d+a*16777216+b*65536+c*256),0)
 | _=> (0,0)
theorem Y3k (a:Int):ip4 [a]=if 4294967296<=a then (0,4) else (IntKind.u32.wrap a,0):=rfl
theorem Y4k (a b:Int):ip4 [a,b]=if 16777216<=b\/255 < a then (0,4) else (IntKind.u32.wrap (b+a*16777216),0):=rfl
theorem Y5k (a b c:Int):ip4 [a,b,c]=if 65536<=c\/255 < a\/255 < b then (0,4) else (IntKind.u32.wrap (c+a*16777216+b*65536),0):=rfl
theorem Y6k (a b c d:Int):ip4 [a,b,c,d]=if 256<=d\/255 < a\/255 < b\/255 < c then (0,4) else (IntKind.u32.wrap (d+a*16777216+b*65536+c*256),0):=rfl
theorem d32:decide ((0:Int)<=32)=true:=rfl
theorem d24:decide ((0:Int)<=24)=true:=rfl
theorem d16:decide ((0:Int)<=16)=true:=rfl
theorem d8:decide ((0:Int)<=8)=true:=rfl
theorem o32:shl IntKind.i64 1 32=4294967296:=by kernel_rfl
theorem o24:shl IntKind.i64 1 24=16777216:=by kernel_rfl
theorem o16:shl IntKind.i64 1 16=65536:=by kernel_rfl
theorem o8:shl IntKind.i64 1 8=256:=by kernel_rfl
theorem k1:IntKind.i64.wrap ((1:Int) - 1)=0:=by kernel_rfl
theorem k2:IntKind.i64.wrap ((2:Int) - 1)=1:=by kernel_rfl
theorem k3:IntKind.i64.wrap ((3:Int) - 1)=2:=by kernel_rfl
theorem k4:IntKind.i64.wrap ((4:Int) - 1)=3:=by kernel_rfl
theorem q1:IntKind.i64.wrap (8*IntKind.i64.wrap ((5:Int) - 1))=32:=by kernel_rfl
theorem q2:IntKind.i64.wrap (8*IntKind.i64.wrap ((5:Int) - 2))=24:=by kernel_rfl
theorem q3:IntKind.i64.wrap (8*IntKind.i64.wrap ((5:Int) - 3))=16:=by kernel_rfl
theorem q4:IntKind.i64.wrap (8*IntKind.i64.wrap ((5:Int) - 4))=8:=by kernel_rfl
theorem r0:IntKind.i64.wrap (8*IntKind.i64.wrap ((3:Int) - 0))=24:=by kernel_rfl
theorem r1:IntKind.i64.wrap (8*IntKind.i64.wrap ((3:Int) - 1))=16:=by kernel_rfl
theorem r2:IntKind.i64.wrap (8*IntKind.i64.wrap ((3:Int) - 2))=8:=by kernel_rfl
theorem a1:IntKind.i64.wrap ((0:Int)+1)=1:=by kernel_rfl
theorem a2:IntKind.i64.wrap ((1:Int)+1)=2:=by kernel_rfl
theorem a3:IntKind.i64.wrap ((2:Int)+1)=3:=by kernel_rfl
theorem Yy6 (s:List UInt8) (n:Int) (hi:Nat) (r:List Int):Z5 s n 0 hi (hi:Int) (hi:Int) r=some (IntKind.u32.wrap n,0):=by
 rw [YU9]; simp
theorem Yn4 (s:List UInt8) (n:Int) (hi i:Nat) (r:List Int) (x:Int) (hx:r[i]? =some x) (h:i < hi) (hhi:hi<=3) (h0:0<=x) (hn0:0<=n) (hn1:n<=1099511627776):
  Z5 s n 0 hi (hi:Int) (i:Int) r=if 255 < x then some (0,4) else Z5 s (n+x*2 ^ (8*(3 - i))) 0 hi (hi:Int) ((i+1:Nat):Int) r:=by
 have hget:List.getD r (0+Int.toNat (i:Int)) (Ty.zero (.int .i64))=x:=by
  rw [Nat.zero_add,YSm,Y1n,hx]; rfl
 have hw:IntKind.i64.wrap ((i:Int)+1)=((i+1:Nat):Int):=by rw [w64 (by omega) (by omega)]; omega
 have hsh:IntKind.i64.wrap (8*IntKind.i64.wrap ((3:Int) - (i:Int)))=((8*(3 - i):Nat):Int):=by
  rw [w64 (x:=3 - (i:Int)) (by omega) (by omega),w64 (by omega) (by omega)]; omega
 rw [YU9]
 simp only [Yl,h,decide_true,YMm,Nat.sub_zero,Ym,hget,hw,hsh]
 by_cases c:255 < x
 ·rw [show decide (x > 255)=true from by simpa using c,YMm,YQm c]
 ·rw [show decide (x > 255)=false from by simpa using c,YNm,YPm c,show decide ((0:Int)<=((8*(3 - i):Nat):Int))=true from by simp; omega,YMm]
  have h2:x*2 ^ (8*(3 - i))<=255*16777216:=by
   have:i=0\/i=1\/i=2:=by omega
   rcases this with rfl | rfl | rfl <;> simp <;> omega
  have h1:0<=x*2 ^ (8*(3 - i)):=Int.mul_nonneg h0 (Int.le_of_lt (Int.pow_pos (by omega)))
  rw [YOd (by omega) (by omega) (by omega),w64 (by omega) (by omega)]
theorem Ydl (s:List UInt8) (m:Nat) (parts:List (List UInt8)) (r:List Int) (h1:1<=r.length) (h4:r.length<=4) (hr:∀ x∈r,0<=x/\x<=1099511627776):Z4 s (m:Int) (m:Int) r parts=some (ip4 r):=by
 rw [YR9]
 have e:decide ((m:Int) < (m:Int))=false:=by simp
 rw [e,YNm]
 match r,h1,h4,hr with
 | [a],_,_,hr=>
  obtain ⟨ha0,ha1⟩:=hr a (by simp)
  simp only [YTm,YYm,Nat.zero_add,Int.natCast_one,Int.cast_ofNat_Int,k1,q1,o32,d32]
  rw [show Yb (0:Int) 1=true from rfl]
  simp only [YMm]
  rw [show List.getD [a] (Int.toNat 0) (Ty.zero (.int .i64))=a from rfl]
  rw [Y3k]
  by_cases c:4294967296<=a
  ·rw [show decide (a>=4294967296)=true from by simpa using c,YMm,YQm c]
  ·rw [show decide (a>=4294967296)=false from by simpa using c,YNm,YPm c]
   rw [show Yh none (some (0:Int)) 1=true from rfl,YMm]
   exact Yy6 s a 0 [a]
 | [a,b],_,_,hr=>
  obtain ⟨ha0,ha1⟩:=hr a (by simp)
  obtain ⟨hb0,hb1⟩:=hr b (by simp)
  simp only [YTm,YYm,Nat.zero_add,Nat.reduceAdd,Int.cast_ofNat_Int,k2,q2,o24,d24]
  rw [show Yb (1:Int) 2=true from rfl]
  simp only [YMm]
  rw [show List.getD [a,b] (Int.toNat 1) (Ty.zero (.int .i64))=b from rfl]
  rw [Y4k]
  by_cases c:16777216<=b
  ·rw [show decide (b>=16777216)=true from by simpa using c,YMm,YQm (.inl c)]
  ·rw [show decide (b>=16777216)=false from by simpa using c,YNm]
   rw [show Yh none (some (1:Int)) 2=true from rfl,YMm]
   refine (Yn4 s b 1 0 [a,b] a rfl (by omega) (by omega) ha0 hb0 hb1).trans ?_
   by_cases d:255 < a
   ·rw [YQm d,YQm (.inr d)]
   ·rw [YPm d,YPm (fun h=> h.elim c d)]
    exact Yy6 s _ 1 _
 | [a,b,c],_,_,hr=>
  obtain ⟨ha0,ha1⟩:=hr a (by simp)
  obtain ⟨hb0,hb1⟩:=hr b (by simp)
  obtain ⟨hc0,hc1⟩:=hr c (by simp)
  simp only [YTm,YYm,Nat.zero_add,Nat.reduceAdd,Int.cast_ofNat_Int,k3,q3,o16,d16]
  rw [show Yb (2:Int) 3=true from rfl]
  simp only [YMm]
  rw [show List.getD [a,b,c] (Int.toNat 2) (Ty.zero (.int .i64))=c from rfl]
  rw [Y5k]
  by_cases g:65536<=c
  ·rw [show decide (c>=65536)=true from by simpa using g,YMm,YQm (.inl g)]
  ·rw [show decide (c>=65536)=false from by simpa using g,YNm]
   rw [show Yh none (some (2:Int)) 3=true from rfl,YMm]
   refine (Yn4 s c 2 0 [a,b,c] a rfl (by omega) (by omega) ha0 hc0 hc1).trans ?_
   by_cases d:255 < a
   ·rw [YQm d,YQm (.inr (.inl d))]
   ·rw [YPm d]
    refine (Yn4 s _ 2 1 [a,b,c] b rfl (by omega) (by omega) hb0 (by omega) (by omega)).trans ?_
    by_cases f:255 < b
    ·rw [YQm f,YQm (.inr (.inr f))]
    ·rw [YPm f,YPm (fun h=> h.elim g (fun h=> h.elim d f))]
     exact Yy6 s _ 2 _
 | [a,b,c,x],_,_,hr=>
  obtain ⟨ha0,ha1⟩:=hr a (by simp)
  obtain ⟨hb0,hb1⟩:=hr b (by simp)
  obtain ⟨hc0,hc1⟩:=hr c (by simp)
  obtain ⟨hx0,hx1⟩:=hr x (by simp)
  simp only [YTm,YYm,Nat.zero_add,Nat.reduceAdd,Int.cast_ofNat_Int,k4,q4,o8,d8]
  rw [show Yb (3:Int) 4=true from rfl]
  simp only [YMm]
  rw [show List.getD [a,b,c,x] (Int.toNat 3) (Ty.zero (.int .i64))=x from rfl]
  rw [Y6k]
  by_cases g:256<=x
  ·rw [show decide (x>=256)=true from by simpa using g,YMm,YQm (.inl g)]
  ·rw [show decide (x>=256)=false from by simpa using g,YNm]
   rw [show Yh none (some (3:Int)) 4=true from rfl,YMm]
   refine (Yn4 s x 3 0 [a,b,c,x] a rfl (by omega) (by omega) ha0 hx0 hx1).trans ?_
   by_cases d:255 < a
   ·rw [YQm d,YQm (.inr (.inl d))]
   ·rw [YPm d]
    refine (Yn4 s _ 3 1 [a,b,c,x] b rfl (by omega) (by omega) hb0 (by omega) (by omega)).trans ?_
    by_cases f:255 < b
    ·rw [YQm f,YQm (.inr (.inr (.inl f)))]
    ·rw [YPm f]
     refine (Yn4 s _ 3 2 [a,b,c,x] c rfl (by omega) (by omega) hc0 (by omega) (by omega)).trans ?_
     by_cases k:255 < c
     ·rw [YQm k,YQm (.inr (.inr (.inr k)))]
     ·rw [YPm k,YPm (fun h=> h.elim g (fun h=> h.elim d (fun h=> h.elim f k)))]
      exact Yy6 s _ 3 _
def Yg4:List (List UInt8)->Option (List Int)
 | []=> some []
 | x::l=> if YK1 x < 0 then none else match Yg4 l with
  | some r=> some (YK1 x::r)
  | none=> none
def YZ4 (r:List Int):Option (List Int)->Int×Int
 | some l=> ip4 (r++l)
 | none=> (0,54)
theorem Ybd (s:List UInt8) (parts:List (List UInt8)) (h4:parts.length<=4) (hp:∀ x∈parts,x.length<=1073741824):∀ (k i:Nat) (r:List Int),i+k=parts.length->r.length=i->(∀ x∈r,0<=x/\x<=1099511627776)->1<=parts.length->
  Z4 s (parts.length:Int) (i:Int) r parts=some (YZ4 r (Yg4 (parts.drop i)))
 | 0,i,r,hk,hl,hr,h1=> by
  have hi:i=parts.length:=by omega
  subst hi
  rw [Ydl s parts.length parts r (by omega) (by omega) hr]
  simp [Yg4,YZ4]
 | k+1,i,r,hk,hl,hr,h1=> by
  have hi:i < parts.length:=by omega
  have hw:IntKind.i64.wrap ((i:Int)+1)=((i+1:Nat):Int):=by rw [w64 (by omega) (by omega)]; omega
  have hget:List.getD parts (Int.toNat (i:Int)) (Ty.zero .str)=parts[i]:=by
   rw [YSm,Y1n,Y2n hi]; rfl
  rw [YR9]
  simp only [Yl,hi,decide_true,YMm,Ym,hget,hw,Y1b _ (hp _ (List.getElem_mem hi)),YOm]
  rw [YXm hi,Yg4]
  by_cases c:YK1 parts[i] < 0
  ·simp [YW1,c,YZ4]
  ·have hb:decide (r.length+[(YW1 (YK1 parts[i])).1].length<=lim)=true:=by simp [lim]; omega
   have e1:(YW1 (YK1 parts[i])).2=true:=by simp [YW1,c]
   have e2:(YW1 (YK1 parts[i])).1=YK1 parts[i]:=by simp [YW1,c]
   rw [hb,e1,e2,Yan,YNm,YMm,YPm c]
   have hle:=YPk parts[i]
   rw [Ybd s parts h4 hp k (i+1) _ (by omega) (by simp; omega) (by
    intro x hx
    rcases Y6n.1 hx with hx | hx
    ·exact hr x hx
    ·have:x=YK1 parts[i]:=by simpa using hx
     subst this; omega) h1]
   cases Yg4 (parts.drop (i+1)) <;> simp [YZ4]
def ipOf (s:List UInt8):Int×Int:=if 4 < (YZ s).length then (0,3) else YZ4 [] (Yg4 (YZ s))
theorem YTg (s:List UInt8) (hs:s.length<=1073741823):Yx7 s=some (ipOf s):=by
 rw [YSg,YFe,Y2b s (by omega)]
 simp only [YOm]
 unfold ipOf
 by_cases c:4 < (YZ s).length
 ·rw [show decide ((((YZ s).length:Nat):Int) > 4)=true from by simp; omega,YMm,YQm c]
 ·rw [show decide ((((YZ s).length:Nat):Int) > 4)=false from by simp; omega,YNm,YPm c]
  exact Ybd s (YZ s) (by omega) (fun x hx=> by have:=Yjd s x hx; omega) (YZ s).length 0 [] (by omega) rfl (fun x hx=> by cases hx) (YX8 s)
end Go.Abs
namespace Go.Abs
theorem Yo8 (l:List UInt8) (i:Nat):((⟨l.toArray⟩:ByteArray).get! i)=l.getD i 0:=by
 show l.toArray[i]! =_
 simp [Y1n,getElem!_def]
 cases l[i]? <;> rfl
theorem Y16 (s:List UInt8) (i:Nat) (h:(s.getD i 0).toNat < 128):Yp s i=((s.getD i 0).toNat,1):=by
 unfold Yp Utf8.decode
 simp only [Nat.add_zero,Yo8]
 rw [YQm h]
theorem YUb (s:List UInt8) (i:Nat) (h:128<=(s.getD i 0).toNat):128<=(Yp s i).1:=by
 unfold Yp Utf8.decode
 simp only [Nat.add_zero,Yo8]
 rw [YPm (by omega)]
 have hr:Utf8.runeError=65533:=rfl
 split
 ·split <;> simp only <;> omega
 ·split
  ·split
   ·rename_i h1; simp only [YRm,Y3n] at h1; simp only; omega
   ·simp only; omega
  ·split
   ·split
    ·rename_i h1; simp only [YRm,Y3n] at h1; simp only; omega
    ·simp only; omega
   ·simp only; omega
def Yy (of:List UInt8) (c:Int):Bool:=of.any fun b=> c==Y9 b
theorem YQ8 (s of t:List UInt8) (i c:Int) (n:Nat) (hof:∀ b∈of,b.toNat < 128):∀ (k j:Nat) (fl:Bool),j+k=of.length->
  Zv s of i c fl t n of j=Zv s of i c (fl||Yy (of.drop j) c) t n of of.length
 | 0,j,fl,hk=> by
  have:j=of.length:=by omega
  subst this
  simp [Yy]
 | k+1,j,fl,hk=> by
  have hj:j < of.length:=by omega
  have hget:of.getD j 0=of[j]:=by rw [Y1n,Y2n hj]; rfl
  have hd:Yp of j=(of[j].toNat,1):=by
   rw [Y16 of j (by rw [hget]; exact hof _ (List.getElem_mem hj)),hget]
  rw [Ysa]
  simp only [YKm hj,YMm,hd]
  rw [YXm hj]
  cases fl with
  | true=>
   rw [YMm,YQ8 s of t i c n hof k (j+1) true (by omega)]
   simp
  | false=>
   rw [YNm,YQ8 s of t i c n hof k (j+1) _ (by omega)]
   rfl
theorem YR8 (s of:List UInt8) (c w:Int) (hof:∀ b∈of,b.toNat < 128):∀ (k j:Nat) (fl:Bool),j+k=of.length->
  Zy s of c w fl of j=Zy s of c w (fl||Yy (of.drop j) c) of of.length
 | 0,j,fl,hk=> by
  have:j=of.length:=by omega
  subst this
  simp [Yy]
 | k+1,j,fl,hk=> by
  have hj:j < of.length:=by omega
  have hget:of.getD j 0=of[j]:=by rw [Y1n,Y2n hj]; rfl
  have hd:Yp of j=(of[j].toNat,1):=by
   rw [Y16 of j (by rw [hget]; exact hof _ (List.getElem_mem hj)),hget]
  rw [Yxa]
  simp only [YKm hj,YMm,hd]
  rw [YXm hj]
  cases fl with
  | true=>
   rw [YMm,YR8 s of c w hof k (j+1) true (by omega)]
   simp
  | false=>
   rw [YNm,YR8 s of c w hof k (j+1) _ (by omega)]
   rfl
theorem Yf6 (of:List UInt8) (hof:∀ b∈of,b.toNat < 128) (c:Int) (h:128<=c):Yy of c=false:=by
 unfold Yy
 rw [List.any_eq_false]
 intro b hb
 have:=hof b hb
 simp only [Y9,beq_iff_eq]
 omega
theorem Ycd (s of:List UInt8) (hof:∀ b∈of,b.toNat < 128) (hs:s.length<=1073741824):∀ (k n:Nat),n+k=s.length->
  Zu s of s n=some ((s.drop n).dropWhile fun b=> Yy of (Y9 b))
 | 0,n,hk=> by
  have:n=s.length:=by omega
  subst this
  rw [Yra]; simp
 | k+1,n,hk=> by
  have hn:n < s.length:=by omega
  have hget:s.getD n 0=s[n]:=by rw [Y1n,Y2n hn]; rfl
  rw [Yra,YKm hn,YMm,YQ8 s of s _ _ _ hof of.length 0 false (by omega),List.drop_zero,Y8n,Ysa]
  rw [show decide (of.length < of.length)=false from by simp,YNm,YXm hn]
  by_cases ha:s[n].toNat < 128
  ·have hd:=Y16 s n (by rw [hget]; exact ha)
   rw [hget] at hd
   rw [hd]
   show (bif !(Yy of (Y9 s[n])) then _ else _)=_
   rw [List.dropWhile_cons]
   cases hin:Yy of (Y9 s[n]) with
   | true=>
    rw [YQm rfl]
    exact Ycd s of hof hs k (n+1) (by omega)
   | false=>
    rw [Ybn,YMm,Yo1 (by omega),YMm,YF1,YPm (by simp),YXm hn]
  ·have hd:=YUb s n (by rw [hget]; omega)
   have h1:Yy of (((Yp s n).1:Nat):Int)=false:=Yf6 of hof _ (by omega)
   have h2:Yy of (Y9 s[n])=false:=Yf6 of hof _ (by unfold Y9; omega)
   rw [h1,Ybn,YMm,Yo1 (by omega),YMm,YF1,List.dropWhile_cons,h2,YPm (by simp),YXm hn]
theorem Y7h (s of:List UInt8) (hof:∀ b∈of,b.toNat < 128) (hs:s.length<=1073741824):YC7 (s,of)=some (s.dropWhile fun b=> Yy of (Y9 b)):=by
 rw [Y6h,Y3g]
 exact Ycd s of hof hs s.length 0 (by omega)
theorem Ypk (l:List UInt8) (b:UInt8) (h:128<=b.toNat):128<=(Lib.decodeLastL (l++[b])).1:=by
 unfold Lib.decodeLastL
 have hr:Utf8.runeError=65533:=rfl
 have hlast:(l++[b]).getD ((l++[b]).length - 1) 0=b:=by simp
 rw [YPm (by simp),hlast,YPm (by omega)]
 simp only
 split
 ·rename_i hd
  generalize Lib.lastStart (l++[b])=st at hd ⊢
  unfold Lib.decodeL at hd ⊢
  rcases Nat.lt_or_ge (((l++[b]).drop st).getD 0 0).toNat 128 with hlt | hge
  ·have e:=Y16 ((l++[b]).drop st) 0 hlt
   unfold Yp at e
   rw [e] at hd
   simp only [YUm,YTm,YYm] at hd
   have hst:st=l.length:=by omega
   subst hst
   simp at hlt
   omega
  ·exact YUb ((l++[b]).drop st) 0 hge
 ·simp only; omega
theorem Ydd (of:List UInt8) (hof:∀ b∈of,b.toNat < 128):∀ (k:Nat) (s:List UInt8),s.length=k->s.length<=1073741824->∃ r,Zx s of=some r/\(r=[]↔s.all (fun b=> Yy of (Y9 b))=true)
 | 0,s,hk,hs=> by
  have:s=[]:=List.eq_nil_of_length_eq_zero hk
  subst this
  exact ⟨[],by rw [Ywa]; rfl,by simp⟩
 | k+1,s,hk,hs=> by
  obtain ⟨l,b,rfl⟩:∃ l b,s=l++[b]:=by
   have hne:s≠[]:=by intro e; rw [e] at hk; cases hk
   exact ⟨s.dropLast,s.getLast hne,(List.dropLast_concat_getLast hne).symm⟩
  have hl:l.length=k:=by simpa using hk
  rw [Ywa,show decide ((((l++[b]).length:Nat):Int) > 0)=true from by simp,YMm,Yri]
  rw [YD3,show decide ((l++[b]).length<=9223372036854775807)=true from YKm (by omega),YMm,YOm]
  rw [YR8 _ of _ _ hof of.length 0 false (by omega),List.drop_zero,Y8n,Yxa,show decide (of.length < of.length)=false from by simp,YNm]
  by_cases ha:b.toNat < 128
  ·have hd:Lib.decodeLastL (l++[b])=(b.toNat,1):=by
    unfold Lib.decodeLastL
    have hlast:(l++[b]).getD ((l++[b]).length - 1) 0=b:=by simp
    rw [YPm (by simp),hlast,YQm ha]
   rw [hd]
   show ∃ r,(bif !(Yy of (Y9 b)) then _ else _)=some r/\_
   cases hin:Yy of (Y9 b) with
   | false=>
    exact ⟨l++[b],rfl,by simp [hin]⟩
   | true=>
    have hw:IntKind.i64.wrap ((((l++[b]).length:Nat):Int) - ((1:Nat):Int))=((l.length:Nat):Int):=by
     simp only [YUm,YTm,YYm]
     rw [w64 (by omega) (by omega)]; omega
    rw [Yan,YNm,hw]
    have hc:Yh none (some ((l.length:Nat):Int)) (l++[b]).length=true:=by simp [Yh]; omega
    have hcl:Yn none (some ((l.length:Nat):Int)) (l++[b])=l:=by simp [Yn]
    rw [hc,YMm,hcl]
    obtain ⟨r,h1,h2⟩:=Ydd of hof k l hl (by simp at hs; omega)
    exact ⟨r,h1,by rw [h2]; simp [hin]⟩
  ·have h1:=Ypk l b (by omega)
   have h2:Yy of (((Lib.decodeLastL (l++[b])).1:Nat):Int)=false:=Yf6 of hof _ (by omega)
   have h3:Yy of (Y9 b)=false:=Yf6 of hof _ (by unfold Y9; omega)
   rw [h2]
   exact ⟨l++[b],rfl,by simp [h3]⟩
theorem Yz5 (s of:List UInt8) (hof:∀ b∈of,b.toNat < 128) (hs:s.length<=1073741824):YT3 (s,of)=some (s.all fun b=> Yy of (Y9 b)):=by
 rw [Y2h,Ywf,Y7h s of hof hs]
 simp only [YOm]
 have hle:(s.dropWhile fun b=> Yy of (Y9 b)).length<=s.length:=by
  exact (List.dropWhile_suffix _).length_le
 rw [Y8h,Yag]
 obtain ⟨r,h1,h2⟩:=Ydd of hof _ (s.dropWhile fun b=> Yy of (Y9 b)) rfl (by omega)
 rw [h1]
 simp only [YOm]
 have key:(r=[])↔s.all (fun b=> Yy of (Y9 b))=true:=by
  rw [h2]
  clear h1 h2 hle hs
  induction s with
  | nil=> simp
  | cons b l ih=>
   rw [List.dropWhile_cons]
   split
   ·rename_i h; rw [ih,List.all_cons,h,Bool.true_and]
   ·rename_i h; simp [h]
 cases hr:(r==[]) with
 | true=>
  have:r=[]:=by simpa using hr
  rw [key.1 this]
 | false=>
  have:¬(r=[]):=by simpa using hr
  cases ha:s.all (fun b=> Yy of (Y9 b)) with
  | true=> exact absurd (key.2 ha) this
  | false=> rfl
end Go.Abs
namespace Go.Abs
def digs:List UInt8:=[48,49,50,51,52,53,54,55,56,57]
def YT (b:UInt8):Bool:=decide (48<=Y9 b/\Y9 b<=57)
theorem YGk:(List.range 256).all (fun n=> (Yy hexs (Y9 (lowB (UInt8.ofNat n)))==decide (0<=nib (Y9 (UInt8.ofNat n))))&&((Yy digs (Y9 (lowB (UInt8.ofNat n)))==YT (UInt8.ofNat n))&&
  (((lowB (UInt8.ofNat n)==48)==(Y9 (UInt8.ofNat n)==48))&&(((lowB (UInt8.ofNat n)==120)==isX (UInt8.ofNat n))&&(!(isX (UInt8.ofNat n)&&YT (UInt8.ofNat n)))))))=true:=by kernel_rfl
theorem YC8 (b:UInt8):Yy hexs (Y9 (lowB b))=decide (0<=nib (Y9 b))/\Yy digs (Y9 (lowB b))=YT b/\(lowB b==48)=(Y9 b==48)/\(lowB b==120)=isX b/\(isX b&&YT b)=false:=by
 refine Yu5 (p:=fun b=> Yy hexs (Y9 (lowB b))=decide (0<=nib (Y9 b))/\Yy digs (Y9 (lowB b))=YT b/\(lowB b==48)=(Y9 b==48)/\(lowB b==120)=isX b/\(isX b&&YT b)=false) (fun n hn=> ?_) b
 have:=List.all_eq_true.1 YGk n (List.mem_range.2 hn)
 simp only [YRm,Bool.not_eq_true',beq_iff_eq] at this
 exact ⟨this.1,this.2.1,this.2.2.1,this.2.2.2.1,this.2.2.2.2⟩
def Yf8 (x:List UInt8):Bool:=match x with
 | a::b::l=> if Y9 a=48/\isX b=true then l.all fun b=> decide (0<=nib (Y9 b)) else (a::b::l).all YT
 | [a]=> YT a
 | []=> false
theorem Yqk (l:List (List UInt8)) (h1:1<=l.length) (h2:l.length<=1073741825):IntKind.i64.wrap ((l.length:Int) - 1)=((l.length - 1:Nat):Int):=by rw [w64 (by omega) (by omega)]; omega
def Y35 (s:List UInt8):List UInt8:=(YZ s).getD ((YZ s).length - 1) []
theorem Yok (s:List UInt8):(Y35 s).length<=s.length:=by
 unfold Y35
 have h1:=YX8 s
 rw [Y1n,Y2n (by omega)]
 exact Yjd s _ (List.getElem_mem _)
def Y86 (s:List UInt8):Bool:=if s=[] then false else Yf8 (Y35 s)
theorem YQj:∀ b∈hexs,b.toNat < 128:=by decide
theorem Ya8:∀ b∈digs,b.toNat < 128:=by decide
theorem Yg7 (x:List UInt8):((x.map lowB).all fun b=> Yy hexs (Y9 b))=(x.all fun b=> decide (0<=nib (Y9 b)))/\((x.map lowB).all fun b=> Yy digs (Y9 b))=x.all YT:=by
 induction x with
 | nil=> exact ⟨rfl,rfl⟩
 | cons b l ih=>
  obtain ⟨f1,f2,_⟩:=YC8 b
  simp only [Y7n,List.all_cons,f1,f2,ih.1,ih.2,and_self]
theorem Yob (y p:List UInt8) (hy:y.length<=1073741824) (hp:p.length<=1073741824):YX3 (y,p)=some (decide (p.length<=y.length)&&(y.take p.length==p)):=by
 rw [Yci,Ysf,Ykh,Y0g]
 by_cases h:p.length<=y.length
 ·rw [show decide (((y.length:Nat):Int)>=((p.length:Nat):Int))=true from by simp; omega,YMm]
  have hc:Yh none (some ((p.length:Nat):Int)) y.length=true:=by simp [Yh]; omega
  rw [hc,YMm,YKm h,Bool.true_and]
  have:Yn none (some ((p.length:Nat):Int)) y=y.take p.length:=by simp [Yn]
  rw [this]; rfl
 ·rw [show decide (((y.length:Nat):Int)>=((p.length:Nat):Int))=false from by simp; omega,YNm,YLm h]; rfl
theorem YRg (s:List UInt8) (hs:s.length<=1073741823):Yw7 s=some (Y86 s):=by
 rw [YQg,YUe]
 unfold Y86
 by_cases h:s=[]
 ·subst h; rfl
 ·rw [show (s==([]:List UInt8))=false from by simpa using h,YNm,YPm h,Y2b s (by omega)]
  simp only [YOm]
  have h1:=YX8 s
  have h2:=Yel s
  rw [Yqk _ h1 (by omega),Ym,YKm (by omega:(YZ s).length - 1 < (YZ s).length),YMm,YSm]
  have hl:=Yok s
  rw [show List.getD (YZ s) ((YZ s).length - 1) (Ty.zero .str)=Y35 s from rfl,YV3 _ (by omega)]
  simp only [YOm]
  generalize Y35 s=x at hl ⊢
  have hx:x.length<=1073741823:=by omega
  rw [Yob _ _ (by simp; omega) (by simp)]
  simp only [YOm]
  match x,hx with
  | [],_=> rfl
  | [a],hx=>
   rw [show (decide (([48,120]:List UInt8).length<=([a].map lowB).length)&&(([a].map lowB).take ([48,120]:List UInt8).length==[48,120]))=false from rfl,YNm]
   rw [show (!(([a].map lowB)==([]:List UInt8)))=true from rfl,YMm]
   have:=Yz5 ([a].map lowB) digs Ya8 (by simp)
   rw [show ([48,49,50,51,52,53,54,55,56,57]:List UInt8)=digs from rfl,this,(Yg7 [a]).2]
   simp [Yf8]
  | a::b::l,hx=>
   have e1:(decide (([48,120]:List UInt8).length<=((a::b::l).map lowB).length)&&(((a::b::l).map lowB).take ([48,120]:List UInt8).length==[48,120]))=((Y9 a==48)&&isX b):=by
    obtain ⟨_,_,f3,_,_⟩:=YC8 a
    obtain ⟨_,_,_,f4,_⟩:=YC8 b
    rw [<-f3,<-f4]
    rw [show decide (([48,120]:List UInt8).length<=((a::b::l).map lowB).length)=true from by simp,Bool.true_and]
    rw [show ((a::b::l).map lowB).take ([48,120]:List UInt8).length=[lowB a,lowB b] from rfl]
    simp
   rw [e1]
   have e2:Yf8 (a::b::l)=if Y9 a=48/\isX b=true then l.all (fun b=> decide (0<=nib (Y9 b))) else (a::b::l).all YT:=rfl
   rw [e2]
   by_cases c:Y9 a=48/\isX b=true
   ·rw [YQm c,show ((Y9 a==48)&&isX b)=true from by simp [c.1,c.2],YMm]
    rw [show Yh (some (2:Int)) none ((a::b::l).map lowB).length=true from Yo1 (f:=2) (by simp),YMm]
    rw [show Yn (some (2:Int)) none ((a::b::l).map lowB)=l.map lowB from YF1 2 _]
    have:=Yz5 (l.map lowB) hexs YQj (by simp at hx ⊢; omega)
    rw [show ([48,49,50,51,52,53,54,55,56,57,97,98,99,100,101,102]:List UInt8)=hexs from rfl,this,(Yg7 l).1]
    rfl
   ·rw [YPm c,show ((Y9 a==48)&&isX b)=false from by
     cases hb:isX b with
     | false=> simp
     | true=> simp; intro e; exact c ⟨e,hb⟩,YNm]
    rw [show (!(((a::b::l).map lowB)==([]:List UInt8)))=true from rfl,YMm]
    have:=Yz5 ((a::b::l).map lowB) digs Ya8 (by simp at hx ⊢; omega)
    rw [show ([48,49,50,51,52,53,54,55,56,57]:List UInt8)=digs from rfl,this,(Yg7 (a::b::l)).2]
    rfl
end Go.Abs
