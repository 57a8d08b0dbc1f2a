/- Part L1 of the proof: see the last text of the claim. No condition of its own. -/
import Derived.Test.YtddagflhafkbnaaGreatDoorQ1
import Derived.Lib.TrimU
set_option linter.all false
set_option autoImplicit false
namespace Go.Abs
theorem w64 {x:Int} (h1:-9223372036854775808<=x) (h2:x<=9223372036854775807):IntKind.i64.wrap x=x:=by
 change (if (true&&decide (x % (18446744073709551616:Int)>=(9223372036854775808:Int)))=true then x % (18446744073709551616:Int) - (18446744073709551616:Int) else x % (18446744073709551616:Int))=x
 by_cases h:x % (18446744073709551616:Int)>=(9223372036854775808:Int)
 ·rw [Ybu (by simp [h])]; omega
 ·rw [Yau (by simp [h])]; omega
theorem Yj {i n:Nat}:Ya (i:Int) n=decide (i < n):=by
 unfold Ya
 by_cases h:i < n
 ·simp [h]
 ·simp [h]
theorem Yg {i n:Nat}:decide ((i:Int) < (n:Int))=decide (i < n):=by
 by_cases h:i < n
 ·simp [h]
 ·simp [h]
theorem Yc4 {f i n:Nat} (h1:f<=i) (h2:i<=n):Yi (some (f:Int)) (some (i:Int)) n=true:=by
 simp [Yi]; omega
theorem Yd1 {f n:Nat} (h1:f<=n):Yi (some (f:Int)) none n=true:=by
 simp [Yi]; omega
theorem Yb4 {α:Type} (f i:Nat) (x:List α):Yl (some (f:Int)) (some (i:Int)) x=(x.take i).drop f:=by simp [Yl]
theorem YS1 {α:Type} (f:Nat) (x:List α):Yl (some (f:Int)) none x=x.drop f:=by simp [Yl]
def Ym1 (sep:Int):List UInt8->List UInt8->List (List UInt8)
 | cur,[]=> [cur]
 | cur,b::l=> if ((b.toNat:Nat):Int)=sep then cur::Ym1 sep [] l else Ym1 sep (cur++[b]) l
def YR (s:List UInt8) (sep:Int):List (List UInt8):=Ym1 sep [] s
theorem Yc3 (sep:Int):∀ (l cur:List UInt8),(Ym1 sep cur l).length<=l.length+1
 | [],cur=> by simp [Ym1]
 | b::l,cur=> by
  unfold Ym1
  split
  ·simp only [Yeu]; have:=Yc3 sep l []; omega
  ·have:=Yc3 sep l (cur++[b]); simp only [Yeu]; omega
theorem YSb {s:List UInt8} {f i:Nat} (hf:f<=i) (hi:i < s.length):(s.take (i+1)).drop f=(s.take i).drop f++[s[i]]:=by
 rw [List.take_succ_eq_append_getElem hi,List.drop_append_of_le_length (by simp; omega)]
theorem Ycb (s:List UInt8) (sep:Int) (hs:s.length<=1073741824):∀ (k f i:Nat) (r:List (List UInt8)),f<=i->i+k=s.length->r.length+k<=1073741824->
  Z61 s sep (f:Int) (s.length:Int) (i:Int) r=some (r++Ym1 sep ((s.take i).drop f) (s.drop i))
 | 0,f,i,r,hf,hk,hr=> by
  have hi:i=s.length:=by omega
  subst hi
  rw [YCc]
  simp only [Yg,Yxu,decide_false,Y8u,Yd1 hf,Y7u,YS1,List.take_length,List.drop_length,Ym1]
  have:decide (r.length+[List.drop f s].length<=lim)=true:=by simp [lim]; omega
  rw [this]; rfl
 | k+1,f,i,r,hf,hk,hr=> by
  have hi:i < s.length:=by omega
  have hw:IntKind.i64.wrap ((i:Int)+1)=((i+1:Nat):Int):=by rw [w64 (by omega) (by omega)]; omega
  have hget:s.getD (Int.toNat (i:Int)) 0=s[i]:=by
   rw [Ydu,Ymu,Ynu hi]; rfl
  have hdrop:s.drop i=s[i]::s.drop (i+1):=Yiu hi
  rw [YCc]
  simp only [Yg,hi,decide_true,Y7u,Yj,hget,hw,Yc4 hf (Nat.le_of_lt hi),Yb4]
  rw [hdrop,Ym1]
  by_cases hsep:((s[i].toNat:Nat):Int)=sep
  ·have hb:((((s[i].toNat:Nat):Int))==sep)=true:=by simp [hsep]
   have hl:decide (r.length+[List.drop f (List.take i s)].length<=lim)=true:=by simp [lim]; omega
   rw [hb,Y7u,hl,Y7u,Ybu hsep,Ycb s sep hs k (i+1) (i+1) _ (Nat.le_refl _) (by omega) (by simp; omega)]
   simp
  ·have hb:((((s[i].toNat:Nat):Int))==sep)=false:=by simp [hsep]
   rw [hb,Y8u,Yau hsep,Ycb s sep hs k f (i+1) r (by omega) (by omega) (by omega),YSb hf hi]
theorem Yeb (s:List UInt8) (sep:Int) (hs:s.length<=1073741824):∀ (k f i:Nat) (r:List (List UInt8)),f<=i->i+k=s.length->r.length+k<=1073741824->
  Z81 s sep (f:Int) (i:Int) r=some (r++Ym1 sep ((s.take i).drop f) (s.drop i))
 | 0,f,i,r,hf,hk,hr=> by
  have hi:i=s.length:=by omega
  subst hi
  rw [YIc]
  simp only [Yg,Yxu,decide_false,Y8u,Yd1 hf,Y7u,YS1,List.take_length,List.drop_length,Ym1]
  have:decide (r.length+[List.drop f s].length<=lim)=true:=by simp [lim]; omega
  rw [this]; rfl
 | k+1,f,i,r,hf,hk,hr=> by
  have hi:i < s.length:=by omega
  have hw:IntKind.i64.wrap ((i:Int)+1)=((i+1:Nat):Int):=by rw [w64 (by omega) (by omega)]; omega
  have hget:s.getD (Int.toNat (i:Int)) 0=s[i]:=by
   rw [Ydu,Ymu,Ynu hi]; rfl
  have hdrop:s.drop i=s[i]::s.drop (i+1):=Yiu hi
  rw [YIc]
  simp only [Yg,hi,decide_true,Y7u,Yj,hget,hw,Yc4 hf (Nat.le_of_lt hi),Yb4]
  rw [hdrop,Ym1]
  by_cases hsep:((s[i].toNat:Nat):Int)=sep
  ·have hb:((((s[i].toNat:Nat):Int))==sep)=true:=by simp [hsep]
   have hl:decide (r.length+[List.drop f (List.take i s)].length<=lim)=true:=by simp [lim]; omega
   rw [hb,Y7u,hl,Y7u,Ybu hsep,Yeb s sep hs k (i+1) (i+1) _ (Nat.le_refl _) (by omega) (by simp; omega)]
   simp
  ·have hb:((((s[i].toNat:Nat):Int))==sep)=false:=by simp [hsep]
   rw [hb,Y8u,Yau hsep,Yeb s sep hs k f (i+1) r (by omega) (by omega) (by omega),YSb hf hi]
theorem YM6 (s:List UInt8) (sep:Int) (hs:s.length<=1073741824):YG4 (s,sep)=some (YR s sep):=by
 rw [Yhn,YHj]
 exact Ycb s sep hs s.length 0 0 [] (Nat.le_refl _) (by omega) (by simpa using hs)
theorem YU6 (s:List UInt8) (sep:Int) (hs:s.length<=1073741824):Y44 (s,sep)=some (YR s sep):=by
 rw [YRn,YRj]
 exact Yeb s sep hs s.length 0 0 [] (Nat.le_refl _) (by omega) (by simpa using hs)
end Go.Abs
namespace Go.Abs
def Y8 (b:UInt8):Int:=((b.toNat:Nat):Int)
def lowI (x:Int):Int:=if 65<=x/\x<=90 then bits Go.BinOp.xor IntKind.u8 x 32 else x
def lowB (b:UInt8):UInt8:=UInt8.ofNat (lowI (Y8 b)).toNat
theorem YI2 (b:UInt8):0<=Y8 b/\Y8 b<=255:=by
 unfold Y8
 have:=b.toNat_lt
 omega
theorem Ydb (s0:List UInt8):∀ (k i:Nat) (r:List Int),i+k=r.length->r.length<=1073741824->
  Zj1 s0 65 90 (r.length:Int) (i:Int) r=some (Ym (r.take i++(r.drop i).map lowI))
 | 0,i,r,hk,hr=> by
  have hi:i=r.length:=by omega
  subst hi
  rw [Ycd]
  simp [Yg]
 | k+1,i,r,hk,hr=> by
  have hi:i < r.length:=by omega
  have hw:IntKind.i64.wrap ((i:Int)+1)=((i+1:Nat):Int):=by rw [w64 (by omega) (by omega)]; omega
  have hget:List.getD r (Int.toNat (i:Int)) (Ty.zero (.int .u8))=r[i]:=by
   rw [Ydu,Ymu,Ynu hi]; rfl
  have hdrop:r.drop i=r[i]::r.drop (i+1):=Yiu hi
  have htake:∀ l:List Int,(h:i < l.length)->l.take (i+1)=l.take i++[l[i]]:=fun l h=> List.take_succ_eq_append_getElem h
  rw [Ycd]
  simp only [Yg,hi,decide_true,Y7u,Yj,hget,hw]
  rw [hdrop,Ysu]
  have next:Zj1 s0 65 90 (r.length:Int) ((i+1:Nat):Int) r=some (Ym (r.take i++[r[i]]++(r.drop (i+1)).map lowI)):=by
   rw [Ydb s0 k (i+1) r (by omega) hr,htake r hi]
  by_cases h1:(65:Int)<=r[i]
  ·have e1:decide (r[i]>=65)=true:=by simpa using h1
   rw [e1,Y7u]
   by_cases h2:r[i]<=(90:Int)
   ·have e2:decide (r[i]<=90)=true:=by simpa using h2
    rw [e2,Y7u]
    have hl:(List.set r (Int.toNat (i:Int)) (bits Go.BinOp.xor IntKind.u8 r[i] 32)).length=r.length:=by simp
    have:=Ydb s0 k (i+1) (List.set r (Int.toNat (i:Int)) (bits Go.BinOp.xor IntKind.u8 r[i] 32)) (by rw [hl]; omega) (by rw [hl]; exact hr)
    rw [hl] at this
    rw [this,Ydu]
    have e3:lowI r[i]=bits Go.BinOp.xor IntKind.u8 r[i] 32:=by unfold lowI; rw [Ybu ⟨h1,h2⟩]
    rw [e3,htake _ (by simpa using hi)]
    simp [List.take_set_of_le,List.drop_set_of_lt]
   ·have e2:decide (r[i]<=90)=false:=by simpa using h2
    rw [e2,Y8u,next]
    have e3:lowI r[i]=r[i]:=by unfold lowI; rw [Yau (fun h=> h2 h.2)]
    rw [e3,Ygu]; rfl
  ·have e1:decide (r[i]>=65)=false:=by simpa using h1
   rw [e1,Y8u,next]
   have e3:lowI r[i]=r[i]:=by unfold lowI; rw [Yau (fun h=> h1 h.1)]
   rw [e3,Ygu]; rfl
theorem YF4 (s:List UInt8) (hs:s.length<=1073741824):Yn3 s=some (s.map lowB):=by
 rw [Yen,Yhj,Yin]
 simp only
 rw [YHk]
 have hl:(YM s).length=s.length:=by simp [YM]
 have:=Ydb s (YM s).length 0 (YM s) (by omega) (by omega)
 rw [show ((0:Nat):Int)=(0:Int) from rfl] at this
 rw [this]
 simp [Ym,YM,lowB,Y8,Function.comp_def]
def nib (x:Int):Int:=
 if 48<=x/\x<=57 then x - 48 else if 97<=x/\x<=102 then x - 87 else if 65<=x/\x<=70 then x - 55 else -1
theorem w8 {x:Int} (h1:0<=x) (h2:x<=255):IntKind.u8.wrap x=x:=by
 change (if (false&&decide (x % (256:Int)>=(128:Int)))=true then x % (256:Int) - (256:Int) else x % (256:Int))=x
 rw [Yau (by simp)]; omega
theorem YTn (x:Int):YF9 x=some (decide (48<=x/\x<=57)):=by
 rw [YSn,Ynl]
 by_cases h:(48:Int)<=x
 ·have e1:decide (x>=48)=true:=by simpa using h
  rw [e1,Y7u]; simp [h]
 ·have e1:decide (x>=48)=false:=by simpa using h
  rw [e1,Y8u]; simp [h]
theorem YE9 (x:Int) (h0:0<=x) (h1:x<=255):YF5 x=some (nib x):=by
 rw [YPn,YAj,YTn]
 simp only [Y9u]
 unfold nib
 by_cases a:48<=x/\x<=57
 ·rw [Ybu a,Y5u a,Y7u,w8 (by omega) (by omega),w64 (by omega) (by omega)]
 ·rw [Yau a,Y6u a,Y8u]
  by_cases b:(97:Int)<=x
  ·rw [show decide (x>=97)=true from by simpa using b,Y7u]
   by_cases c:x<=(102:Int)
   ·rw [show decide (x<=102)=true from by simpa using c,Y7u,Ybu ⟨b,c⟩,w8 (by omega) (by omega),w64 (x:=x - 97) (by omega) (by omega),w64 (by omega) (by omega)]
    congr 1; omega
   ·rw [show decide (x<=102)=false from by simpa using c,Y8u,show decide (x>=65)=true from by simp; omega,Y7u,show decide (x<=70)=false from by simp; omega,Y8u,
     Yau (fun h=> c h.2),Yau (by omega)]
  ·rw [show decide (x>=97)=false from by simpa using b,Y8u,Yau (fun h=> b h.1)]
   by_cases c:(65:Int)<=x
   ·rw [show decide (x>=65)=true from by simpa using c,Y7u]
    by_cases d:x<=(70:Int)
    ·rw [show decide (x<=70)=true from by simpa using d,Y7u,Ybu ⟨c,d⟩,w8 (by omega) (by omega),w64 (x:=x - 65) (by omega) (by omega),w64 (by omega) (by omega)]
     congr 1; omega
    ·rw [show decide (x<=70)=false from by simpa using d,Y8u,Yau (fun h=> d h.2)]
   ·rw [show decide (x>=65)=false from by simpa using c,Y8u,Yau (fun h=> c h.1)]
def hexs:List UInt8:=[48,49,50,51,52,53,54,55,56,57,97,98,99,100,101,102]
theorem YOq:(List.range 256).all (fun n=> decide (Lib.indexByte hexs (UInt8.ofNat (Y8 (lowB (UInt8.ofNat n))).toNat)=nib (Y8 (UInt8.ofNat n))))=true:=by kernel_rfl
theorem YE6 {p:UInt8->Prop} (h:∀ n,n < 256->p (UInt8.ofNat n)) (b:UInt8):p b:=by
 have:=h b.toNat b.toNat_lt
 rwa [UInt8.ofNat_toNat] at this
theorem YPq (b:UInt8):Lib.indexByte hexs (UInt8.ofNat (Y8 (lowB b)).toNat)=nib (Y8 b):=by
 refine YE6 (p:=fun b=> Lib.indexByte hexs (UInt8.ofNat (Y8 (lowB b)).toNat)=nib (Y8 b)) (fun n hn=> ?_) b
 have:=List.all_eq_true.1 YOq n (List.mem_range.2 hn)
 simpa using this
def YK (base:Int):Int->List UInt8->Int
 | n,[]=> n
 | n,b::l=> if nib (Y8 b) < 0\/base<=nib (Y8 b) then -1 else YK base (if n*base+nib (Y8 b) < 1099511627776 then n*base+nib (Y8 b) else 1099511627776) l
theorem Y63 (x:Int):-1<=nib x/\nib x<=15:=by
 unfold nib; split
 ·omega
 ·split
  ·omega
  ·split <;> omega
theorem Ygb (s:List UInt8) (base:Int) (hb:2<=base/\base<=16) (hs:s.length<=1073741824):∀ (k i:Nat) (n:Int),i+k=s.length->0<=n->n<=1099511627776->
  Zt s base n (i:Int)=some (YK base n (s.drop i))
 | 0,i,n,hk,h0,h1=> by
  have hi:i=s.length:=by omega
  subst hi
  rw [YCd]
  simp [Yg,YK]
 | k+1,i,n,hk,h0,h1=> by
  have hi:i < s.length:=by omega
  have hw:IntKind.i64.wrap ((i:Int)+1)=((i+1:Nat):Int):=by rw [w64 (by omega) (by omega)]; omega
  have hget:s.getD (Int.toNat (i:Int)) 0=s[i]:=by
   rw [Ydu,Ymu,Ynu hi]; rfl
  have hbr:=YI2 s[i]
  have hnb:=Y63 (Y8 s[i])
  have hm0:0<=n*base:=Int.mul_nonneg h0 (by omega)
  have hm1:n*base<=1099511627776*16:=Int.mul_le_mul h1 hb.2 (by omega) (by omega)
  rw [YCd]
  simp only [Yg,hi,decide_true,Y7u,Yj,hget,hw]
  rw [Yiu hi,YK]
  rw [show ((s[i].toNat:Nat):Int)=Y8 s[i] from rfl,YE9 _ hbr.1 hbr.2]
  simp only [Y9u]
  by_cases a:nib (Y8 s[i]) < 0
  ·rw [Y5u a,Y7u,Ybu (.inl a)]
  ·rw [Y6u a,Y8u]
   by_cases b:base<=nib (Y8 s[i])
   ·rw [show decide (nib (Y8 s[i])>=base)=true from by simpa using b,Y7u,Ybu (.inr b)]
   ·rw [show decide (nib (Y8 s[i])>=base)=false from by simpa using b,Y8u,Yau (fun h=> h.elim a b)]
    rw [w64 (x:=n*base) (by omega) (by omega),w64 (by omega) (by omega)]
    by_cases c:n*base+nib (Y8 s[i]) > 1099511627776
    ·rw [Y5u c,Y7u,Ygb s base hb hs k (i+1) _ (by omega) (by omega) (by omega),Yau (by omega)]
    ·rw [Y6u c,Y8u,Ygb s base hb hs k (i+1) _ (by omega) (by omega) (by omega)]
     congr 2
     by_cases d:n*base+nib (Y8 s[i]) < 1099511627776
     ·rw [Ybu d]
     ·rw [Yau d]; omega
def Yx2 (v:Int):Int×Bool:=if v < 0 then (0,false) else (v,true)
theorem Yvh (s:List UInt8) (base:Int) (hb:2<=base/\base<=16) (hs:s.length<=1073741824):∀ (k i:Nat) (n:Int),i+k=s.length->0<=n->n<=1099511627776->
  Zo s base n (s.length:Int) (i:Int)=some (Yx2 (YK base n (s.drop i)))
 | 0,i,n,hk,h0,h1=> by
  have hi:i=s.length:=by omega
  subst hi
  rw [Yqd]
  simp [Yg,YK,Yx2]
  omega
 | k+1,i,n,hk,h0,h1=> by
  have hi:i < s.length:=by omega
  have hw:IntKind.i64.wrap ((i:Int)+1)=((i+1:Nat):Int):=by rw [w64 (by omega) (by omega)]; omega
  have hnb:=Y63 (Y8 s[i])
  have hm0:0<=n*base:=Int.mul_nonneg h0 (by omega)
  have hm1:n*base<=1099511627776*16:=Int.mul_le_mul h1 hb.2 (by omega) (by omega)
  have hcut:(s.take (i+1)).drop i=[s[i]]:=by
   rw [YSb (Nat.le_refl _) hi]; simp
  rw [Yqd]
  simp only [Yg,hi,decide_true,Y7u,hw,Yc4 (Nat.le_succ i) hi,Yb4,hcut]
  rw [YF4 _ (by simp)]
  simp only [Y9u,Ysu,List.map_nil]
  have e0:Ya (0:Int) [lowB s[i]].length=true:=by rw [show (0:Int)=((0:Nat):Int) from rfl,Yj]; simp
  rw [e0,Y7u,YK4]
  simp only [Yz2]
  rw [show (([lowB s[i]].getD (Int.toNat 0) (0:UInt8)).toNat:Int)=Y8 (lowB s[i]) from rfl]
  rw [show Lib.indexByte [48,49,50,51,52,53,54,55,56,57,97,98,99,100,101,102] (UInt8.ofNat (Y8 (lowB s[i])).toNat)=nib (Y8 s[i]) from YPq s[i]]
  simp only [Y9u]
  rw [Yiu hi,YK]
  by_cases a:nib (Y8 s[i]) < 0
  ·rw [Y5u a,Y7u,Ybu (show nib (Y8 s[i]) < 0\/base<=nib (Y8 s[i]) from .inl a)]; rfl
  ·rw [Y6u a,Y8u]
   by_cases b:base<=nib (Y8 s[i])
   ·rw [show decide (nib (Y8 s[i])>=base)=true from by simpa using b,Y7u,Ybu (show nib (Y8 s[i]) < 0\/base<=nib (Y8 s[i]) from .inr b)]; rfl
   ·rw [show decide (nib (Y8 s[i])>=base)=false from by simpa using b,Y8u,Yau (show ¬(nib (Y8 s[i]) < 0\/base<=nib (Y8 s[i])) from fun h=> h.elim a b)]
    rw [w64 (x:=n*base) (by omega) (by omega),w64 (by omega) (by omega)]
    exact Yvh s base hb hs k (i+1) _ (by omega) (by split <;> omega) (by split <;> omega)
end Go.Abs
namespace Go.Abs
def isX (b:UInt8):Bool:=Y8 b==120||Y8 b==88
theorem Y5r:(List.range 256).all (fun n=> (bits Go.BinOp.or IntKind.u8 (Y8 (UInt8.ofNat n)) 32==(120:Int))==isX (UInt8.ofNat n))=true:=by kernel_rfl
theorem Y2s (b:UInt8):(bits Go.BinOp.or IntKind.u8 (Y8 b) 32==(120:Int))=isX b:=by
 refine YE6 (p:=fun b=> (bits Go.BinOp.or IntKind.u8 (Y8 b) 32==(120:Int))=isX b) (fun n hn=> ?_) b
 have:=List.all_eq_true.1 Y5r n (List.mem_range.2 hn)
 simpa using this
def Yj1 (s:List UInt8):Int:=match s with
 | []=> -1
 | [b]=> YK 10 0 [b]
 | a::b::l=> if Y8 a=48 then (if isX b=true then YK 16 0 l else YK 8 0 (b::l)) else YK 10 0 (a::b::l)
theorem YUa (a b:UInt8) (l:List UInt8):Yj1 (a::b::l)=if Y8 a=48 then (if isX b=true then YK 16 0 l else YK 8 0 (b::l)) else YK 10 0 (a::b::l):=rfl
theorem Ye8 (s:List UInt8) (base:Int) (hb:2<=base/\base<=16) (hs:s.length<=1073741824):Zr s base=some (YK base 0 s):=by
 rw [Ytl]
 exact Ygb s base hb hs s.length 0 0 (by omega) (by omega) (by omega)
theorem Ya8 (s:List UInt8) (base:Int) (hb:2<=base/\base<=16) (hs:s.length<=1073741824):Zm s base=some (Yx2 (YK base 0 s)):=by
 rw [Y4l]
 exact Yvh s base hb hs s.length 0 0 (by omega) (by omega) (by omega)
theorem Yxa (a b:UInt8) (l:List UInt8):decide ((((a::b::l).length:Nat):Int)>=2)=true:=by simp; omega
theorem Ywa (a:UInt8):decide ((([a].length:Nat):Int)>=2)=false:=by simp
theorem Y05 {α:Type} (a:α) (l:List α):Ya (0:Int) (a::l).length=true:=by
 rw [show (0:Int)=((0:Nat):Int) from rfl,Yj]; simp
theorem YEa {α:Type} (a b:α) (l:List α):Ya (1:Int) (a::b::l).length=true:=by
 rw [show (1:Int)=((1:Nat):Int) from rfl,Yj]; simp
theorem cut1 (a b:UInt8) (l:List UInt8):Yi (some (1:Int)) none (a::b::l).length=true:=Yd1 (f:=1) (by simp)
theorem cut2 (a b:UInt8) (l:List UInt8):Yi (some (2:Int)) none (a::b::l).length=true:=Yd1 (f:=2) (by simp)
theorem YUf (a b:UInt8) (l:List UInt8):Yl (some (1:Int)) none (a::b::l)=b::l:=YS1 1 _
theorem YVf (a b:UInt8) (l:List UInt8):Yl (some (2:Int)) none (a::b::l)=l:=YS1 2 _
theorem get0 (a:UInt8) (l:List UInt8):(((List.getD (a::l) (Int.toNat (0:Int)) (0:UInt8)).toNat:Nat):Int)=Y8 a:=rfl
theorem get1 (a b:UInt8) (l:List UInt8):(((List.getD (a::b::l) (Int.toNat (1:Int)) (0:UInt8)).toNat:Nat):Int)=Y8 b:=rfl
theorem YUo (s:List UInt8) (hs:s.length<=1073741824):YX9 s=some (Yj1 s):=by
 rw [YTo,Yml]
 match s,hs with
 | [],_=> rfl
 | [a],hs=>
  rw [show (((([a]:List UInt8).length:Nat):Int)==0)=false from rfl,Y8u,Ywa,Y8u]
  rw [Y8u,Yzd,Ye8 _ _ (by omega) hs]
  rfl
 | a::b::l,hs=>
  have hl:(b::l).length<=1073741824:=by simp only [Yeu] at hs ⊢; omega
  have hl2:l.length<=1073741824:=by simp only [Yeu] at hs; omega
  have e0:((((a::b::l).length:Nat):Int)==0)=false:=by simp; omega
  simp only [e0,Y8u,Yxa,Y7u,Y05,YEa,get0,get1,cut1,cut2,YUf,YVf,Yzd,Ye8 _ _ (show (2:Int)<=16/\(16:Int)<=16 by omega) hl2,
   Ye8 _ _ (show (2:Int)<=8/\(8:Int)<=16 by omega) hl,Ye8 _ _ (show (2:Int)<=10/\(10:Int)<=16 by omega) hs]
  rw [YUa]
  by_cases h48:Y8 a=48
  ·rw [Ybu h48,show (Y8 a==48)=true from by simpa using h48]
   simp only [Y7u]
   by_cases hx:Y8 b=120
   ·have:isX b=true:=by simp [isX,hx]
    rw [Ybu this,show (Y8 b==120)=true from by simpa using hx,Y7u]
   ·rw [show (Y8 b==120)=false from by simpa using hx,Y8u]
    by_cases hX:Y8 b=88
    ·have:isX b=true:=by simp [isX,hX]
     rw [Ybu this,show (Y8 b==88)=true from by simpa using hX,Y7u]
    ·have:¬isX b=true:=by simp [isX,hx,hX]
     rw [Yau this,show (Y8 b==88)=false from by simpa using hX,Y8u]
  ·rw [Yau h48,show (Y8 a==48)=false from by simpa using h48]
   simp only [Y8u]
theorem Ywe (s:List UInt8) (hs:s.length<=1073741824):Y14 s=some (Yx2 (Yj1 s)):=by
 rw [YSm,YZk]
 match s,hs with
 | [],_=> rfl
 | [a],hs=>
  simp only [Ywa,Y8u]
  rw [show (([a]:List UInt8)==[])=false from rfl,Y8u,Yod,Ya8 _ _ (by omega) hs]
  rfl
 | a::b::l,hs=>
  have hl:(b::l).length<=1073741824:=by simp only [Yeu] at hs ⊢; omega
  have hl2:l.length<=1073741824:=by simp only [Yeu] at hs; omega
  have e0:((a::b::l:List UInt8)==[])=false:=rfl
  simp only [e0,Y8u,Yxa,Y7u,Y05,YEa,get0,get1,cut1,cut2,YUf,YVf,Y2s,Yod,Ya8 _ _ (show (2:Int)<=16/\(16:Int)<=16 by omega) hl2,
   Ya8 _ _ (show (2:Int)<=8/\(8:Int)<=16 by omega) hl,Ya8 _ _ (show (2:Int)<=10/\(10:Int)<=16 by omega) hs]
  rw [YUa]
  by_cases h48:Y8 a=48
  ·rw [Ybu h48,show (Y8 a==48)=true from by simpa using h48]
   simp only [Y7u]
   cases hx:isX b <;> simp
  ·rw [Yau h48,show (Y8 a==48)=false from by simpa using h48]
   simp only [Y8u]
theorem Y06 (base:Int):∀ (l:List UInt8) (n:Int),n<=1099511627776->YK base n l<=1099511627776
 | [],n,h=> h
 | b::l,n,h=> by
  unfold YK
  split
  ·omega
  ·exact Y06 base l _ (by split <;> omega)
theorem Ylh (s:List UInt8):Yj1 s<=1099511627776:=by
 unfold Yj1
 split
 ·omega
 ·exact Y06 _ _ _ (by omega)
 ·split
  ·split
   ·exact Y06 _ _ _ (by omega)
   ·exact Y06 _ _ _ (by omega)
  ·exact Y06 _ _ _ (by omega)
def YX (s:List UInt8):List (List UInt8):=
 if 1 < (YR s 46).length/\(YR s 46).getD ((YR s 46).length - 1) []=[] then (YR s 46).take ((YR s 46).length - 1) else YR s 46
theorem Ye6 (sep:Int):∀ (l cur:List UInt8),1<=(Ym1 sep cur l).length
 | [],cur=> by simp [Ym1]
 | b::l,cur=> by
  unfold Ym1
  split
  ·simp
  ·exact Ye6 sep l _
theorem YKh (y:List (List UInt8)) (h1:1<=y.length) (h2:y.length<=1073741825):
  (bif (decide ((((List.length y):Nat):Int) > (1:Int))) then
    bif (Ya (IntKind.wrap IntKind.i64 ((((List.length y):Nat):Int) - (1:Int))) (List.length y)) then
     bif ((List.getD y (Int.toNat (IntKind.wrap IntKind.i64 ((((List.length y):Nat):Int) - (1:Int)))) (Ty.zero .str))==([]:List UInt8)) then
      bif (Yi none (some (IntKind.wrap IntKind.i64 ((((List.length y):Nat):Int) - (1:Int)))) (List.length y)) then
       some (List.take (Option.getD (Option.map (Int.toNat) (some (IntKind.wrap IntKind.i64 ((((List.length y):Nat):Int) - (1:Int))))) (List.length y)) y)
      else
       none
     else
      some y
    else
     none
   else
    some y)=some (if 1 < y.length/\y.getD (y.length - 1) []=[] then y.take (y.length - 1) else y):=by
 have hw:IntKind.i64.wrap ((y.length:Int) - 1)=((y.length - 1:Nat):Int):=by rw [w64 (by omega) (by omega)]; omega
 by_cases h:1 < y.length
 ·have e1:decide (((y.length:Nat):Int) > 1)=true:=by simp; omega
  rw [e1,Y7u,hw,Yj,Y5u (by omega:y.length - 1 < y.length),Y7u,Ydu]
  rw [show Ty.zero .str=([]:List UInt8) from rfl]
  by_cases g:y.getD (y.length - 1) []=[]
  ·rw [g,show ((([]:List UInt8))==[])=true from rfl,Y7u,Ybu ⟨h,rfl⟩]
   have:Yi none (some ((y.length - 1:Nat):Int)) y.length=true:=by simp [Yi]
   rw [this,Y7u]
   simp
  ·rw [show (y.getD (y.length - 1) []==([]:List UInt8))=false from by simpa using g,Y8u,Yau (fun k=> g k.2)]
 ·have e1:decide (((y.length:Nat):Int) > 1)=false:=by simp; omega
  rw [e1,Y8u,Yau (fun k=> h k.1)]
theorem Yxe (s:List UInt8) (hs:s.length<=1073741824):YJ6 s=some (YX s):=by
 rw [YTm,YUk,YM6 s 46 hs]
 exact YKh _ (Ye6 _ _ _) (by have:=Yc3 46 s []; unfold YR; omega)
theorem Yqf (s:List UInt8) (hs:s.length<=1073741824):Ye7 s=some (YX s):=by
 rw [YVo,Yhl,YU6 s 46 hs]
 exact YKh _ (Ye6 _ _ _) (by have:=Yc3 46 s []; unfold YR; omega)
theorem Yd6 (sep:Int):∀ (l cur x:List UInt8),x∈Ym1 sep cur l->x.length<=cur.length+l.length
 | [],cur,x,h=> by
  simp only [Ym1,YEu] at h; subst h; simp
 | b::l,cur,x,h=> by
  unfold Ym1 at h
  split at h
  ·rcases Ylu.1 h with rfl | h
   ·simp
   ·have:=Yd6 sep l [] x h; simp only [Yju,Yeu] at this ⊢; omega
  ·have:=Yd6 sep l _ x h; simp only [Yfu,Yeu,Yju] at this ⊢; omega
theorem Yjb (s x:List UInt8) (h:x∈YX s):x.length<=s.length:=by
 have:x∈YR s 46:=by
  unfold YX at h
  split at h
  ·exact List.mem_of_mem_take h
  ·exact h
 have:=Yd6 46 s [] x this
 simpa using this
theorem Y26 (s:List UInt8):1<=(YX s).length:=by
 have:=Ye6 46 s []
 unfold YX
 split
 ·rename_i h; rw [Ypu]; omega
 ·exact this
theorem YJh (s:List UInt8):(YX s).length<=s.length+1:=by
 have:=Yc3 46 s []
 unfold YX
 split
 ·rw [Ypu]; unfold YR; omega
 ·exact this
end Go.Abs
namespace Go.Abs
theorem YI3 {x:Int} {y:Nat} (hy:y<=64) (h1:-9223372036854775808<=x*2 ^ y) (h2:x*2 ^ y<=9223372036854775807):shl IntKind.i64 x (y:Int)=x*2 ^ y:=by
 unfold shl
 rw [Ydu,show (min y IntKind.i64.bits)=y from Nat.min_eq_left hy]
 exact w64 h1 h2
theorem wu64 {x:Int} (h1:0<=x) (h2:x<=9223372036854775807):IntKind.u64.wrap x=x:=by
 change (if (false&&decide (x % (18446744073709551616:Int)>=(9223372036854775808:Int)))=true then x % (18446744073709551616:Int) - (18446744073709551616:Int) else x % (18446744073709551616:Int))=x
 rw [Yau (by simp)]; omega
def ip4:List Int->Int×Int
 | [a]=> if 4294967296<=a then (0,4) else (IntKind.u32.wrap a,0)
 | [a,b]=> if 16777216<=b\/255 < a then (0,4) else (IntKind.u32.wrap (b+a*16777216),0)
 | [a,b,c]=> if 65536<=c\/255 < a\/255 < b then (0,4) else (IntKind.u32.wrap (c+a*16777216+b*65536),0)
 | [a,b,c,d]=> if 256<=d\/255 < a\/255 < b\/255 < c then (0,4) else (IntKind.u32.wrap (d+a*16777216+b*65536+c*256),0)
 | _=> (0,0)
theorem YSg (a:Int):ip4 [a]=if 4294967296<=a then (0,4) else (IntKind.u32.wrap a,0):=rfl
theorem YTg (a b:Int):ip4 [a,b]=if 16777216<=b\/255 < a then (0,4) else (IntKind.u32.wrap (b+a*16777216),0):=rfl
theorem YUg (a b c:Int):ip4 [a,b,c]=if 65536<=c\/255 < a\/255 < b then (0,4) else (IntKind.u32.wrap (c+a*16777216+b*65536),0):=rfl
theorem YVg (a b c d:Int):ip4 [a,b,c,d]=if 256<=d\/255 < a\/255 < b\/255 < c then (0,4) else (IntKind.u32.wrap (d+a*16777216+b*65536+c*256),0):=rfl
theorem d32:decide ((0:Int)<=32)=true:=rfl
theorem d24:decide ((0:Int)<=24)=true:=rfl
theorem d16:decide ((0:Int)<=16)=true:=rfl
theorem d8:decide ((0:Int)<=8)=true:=rfl
theorem s24 {a:Int} (h0:0<=a) (h1:a<=255):shl IntKind.i64 a 24=a*16777216:=YI3 (y:=24) (by omega) (by omega) (by omega)
theorem s16 {a:Int} (h0:0<=a) (h1:a<=255):shl IntKind.i64 a 16=a*65536:=YI3 (y:=16) (by omega) (by omega) (by omega)
theorem s8 {a:Int} (h0:0<=a) (h1:a<=255):shl IntKind.i64 a 8=a*256:=YI3 (y:=8) (by omega) (by omega) (by omega)
theorem o32:shl IntKind.i64 1 32=4294967296:=by kernel_rfl
theorem o24:shl IntKind.i64 1 24=16777216:=by kernel_rfl
theorem o16:shl IntKind.i64 1 16=65536:=by kernel_rfl
theorem o8:shl IntKind.i64 1 8=256:=by kernel_rfl
theorem k1:IntKind.i64.wrap ((1:Int) - 1)=0:=by kernel_rfl
theorem k2:IntKind.i64.wrap ((2:Int) - 1)=1:=by kernel_rfl
theorem k3:IntKind.i64.wrap ((3:Int) - 1)=2:=by kernel_rfl
theorem k4:IntKind.i64.wrap ((4:Int) - 1)=3:=by kernel_rfl
theorem q1:IntKind.i64.wrap (8*IntKind.i64.wrap ((5:Int) - 1))=32:=by kernel_rfl
theorem q2:IntKind.i64.wrap (8*IntKind.i64.wrap ((5:Int) - 2))=24:=by kernel_rfl
theorem q3:IntKind.i64.wrap (8*IntKind.i64.wrap ((5:Int) - 3))=16:=by kernel_rfl
theorem q4:IntKind.i64.wrap (8*IntKind.i64.wrap ((5:Int) - 4))=8:=by kernel_rfl
theorem r0:IntKind.i64.wrap (8*IntKind.i64.wrap ((3:Int) - 0))=24:=by kernel_rfl
theorem r1:IntKind.i64.wrap (8*IntKind.i64.wrap ((3:Int) - 1))=16:=by kernel_rfl
theorem r2:IntKind.i64.wrap (8*IntKind.i64.wrap ((3:Int) - 2))=8:=by kernel_rfl
theorem a1:IntKind.i64.wrap ((0:Int)+1)=1:=by kernel_rfl
theorem a2:IntKind.i64.wrap ((1:Int)+1)=2:=by kernel_rfl
theorem a3:IntKind.i64.wrap ((2:Int)+1)=3:=by kernel_rfl
theorem Y98 (s:List UInt8) (n:Int) (hi:Nat) (r:List Int):Z5 s n 0 hi (hi:Int) (hi:Int) r=some (IntKind.u32.wrap n,0):=by
 rw [YBc]; simp
theorem Yf5 (s:List UInt8) (n:Int) (hi i:Nat) (r:List Int) (x:Int) (hx:r[i]? =some x) (h:i < hi) (hhi:hi<=3) (h0:0<=x) (hn0:0<=n) (hn1:n<=1099511627776):
  Z5 s n 0 hi (hi:Int) (i:Int) r=if 255 < x then some (0,4) else Z5 s (n+x*2 ^ (8*(3 - i))) 0 hi (hi:Int) ((i+1:Nat):Int) r:=by
 have hget:List.getD r (0+Int.toNat (i:Int)) (Ty.zero (.int .i64))=x:=by
  rw [Nat.zero_add,Ydu,Ymu,hx]; rfl
 have hw:IntKind.i64.wrap ((i:Int)+1)=((i+1:Nat):Int):=by rw [w64 (by omega) (by omega)]; omega
 have hsh:IntKind.i64.wrap (8*IntKind.i64.wrap ((3:Int) - (i:Int)))=((8*(3 - i):Nat):Int):=by
  rw [w64 (x:=3 - (i:Int)) (by omega) (by omega),w64 (by omega) (by omega)]; omega
 rw [YBc]
 simp only [Yg,h,decide_true,Y7u,Nat.sub_zero,Yj,hget,hw,hsh]
 by_cases c:255 < x
 ·rw [show decide (x > 255)=true from by simpa using c,Y7u,Ybu c]
 ·rw [show decide (x > 255)=false from by simpa using c,Y8u,Yau c,show decide ((0:Int)<=((8*(3 - i):Nat):Int))=true from by simp; omega,Y7u]
  have h2:x*2 ^ (8*(3 - i))<=255*16777216:=by
   have:i=0\/i=1\/i=2:=by omega
   rcases this with rfl | rfl | rfl <;> simp <;> omega
  have h1:0<=x*2 ^ (8*(3 - i)):=Int.mul_nonneg h0 (Int.le_of_lt (Int.pow_pos (by omega)))
  rw [YI3 (by omega) (by omega) (by omega),w64 (by omega) (by omega)]
theorem Ybs (s:List UInt8) (m:Nat) (parts:List (List UInt8)) (r:List Int) (h1:1<=r.length) (h4:r.length<=4) (hr:∀ x∈r,0<=x/\x<=1099511627776):Z4 s (m:Int) (m:Int) r parts=some (ip4 r):=by
 rw [Yyc]
 have e:decide ((m:Int) < (m:Int))=false:=by simp
 rw [e,Y8u]
 match r,h1,h4,hr with
 | [a],_,_,hr=>
  obtain ⟨ha0,ha1⟩:=hr a (by simp)
  simp only [Yeu,Yju,Nat.zero_add,Int.natCast_one,Int.cast_ofNat_Int,k1,q1,o32,d32]
  rw [show Ya (0:Int) 1=true from rfl]
  simp only [Y7u]
  rw [show List.getD [a] (Int.toNat 0) (Ty.zero (.int .i64))=a from rfl]
  rw [YSg]
  by_cases c:4294967296<=a
  ·rw [show decide (a>=4294967296)=true from by simpa using c,Y7u,Ybu c]
  ·rw [show decide (a>=4294967296)=false from by simpa using c,Y8u,Yau c]
   rw [show Yi none (some (0:Int)) 1=true from rfl,Y7u]
   exact Y98 s a 0 [a]
 | [a,b],_,_,hr=>
  obtain ⟨ha0,ha1⟩:=hr a (by simp)
  obtain ⟨hb0,hb1⟩:=hr b (by simp)
  simp only [Yeu,Yju,Nat.zero_add,Nat.reduceAdd,Int.cast_ofNat_Int,k2,q2,o24,d24]
  rw [show Ya (1:Int) 2=true from rfl]
  simp only [Y7u]
  rw [show List.getD [a,b] (Int.toNat 1) (Ty.zero (.int .i64))=b from rfl]
  rw [YTg]
  by_cases c:16777216<=b
  ·rw [show decide (b>=16777216)=true from by simpa using c,Y7u,Ybu (.inl c)]
  ·rw [show decide (b>=16777216)=false from by simpa using c,Y8u]
   rw [show Yi none (some (1:Int)) 2=true from rfl,Y7u]
   refine (Yf5 s b 1 0 [a,b] a rfl (by omega) (by omega) ha0 hb0 hb1).trans ?_
   by_cases d:255 < a
   ·rw [Ybu d,Ybu (.inr d)]
   ·rw [Yau d,Yau (fun h=> h.elim c d)]
    exact Y98 s _ 1 _
 | [a,b,c],_,_,hr=>
  obtain ⟨ha0,ha1⟩:=hr a (by simp)
  obtain ⟨hb0,hb1⟩:=hr b (by simp)
  obtain ⟨hc0,hc1⟩:=hr c (by simp)
  simp only [Yeu,Yju,Nat.zero_add,Nat.reduceAdd,Int.cast_ofNat_Int,k3,q3,o16,d16]
  rw [show Ya (2:Int) 3=true from rfl]
  simp only [Y7u]
  rw [show List.getD [a,b,c] (Int.toNat 2) (Ty.zero (.int .i64))=c from rfl]
  rw [YUg]
  by_cases g:65536<=c
  ·rw [show decide (c>=65536)=true from by simpa using g,Y7u,Ybu (.inl g)]
  ·rw [show decide (c>=65536)=false from by simpa using g,Y8u]
   rw [show Yi none (some (2:Int)) 3=true from rfl,Y7u]
   refine (Yf5 s c 2 0 [a,b,c] a rfl (by omega) (by omega) ha0 hc0 hc1).trans ?_
   by_cases d:255 < a
   ·rw [Ybu d,Ybu (.inr (.inl d))]
   ·rw [Yau d]
    refine (Yf5 s _ 2 1 [a,b,c] b rfl (by omega) (by omega) hb0 (by omega) (by omega)).trans ?_
    by_cases f:255 < b
    ·rw [Ybu f,Ybu (.inr (.inr f))]
    ·rw [Yau f,Yau (fun h=> h.elim g (fun h=> h.elim d f))]
     exact Y98 s _ 2 _
 | [a,b,c,x],_,_,hr=>
  obtain ⟨ha0,ha1⟩:=hr a (by simp)
  obtain ⟨hb0,hb1⟩:=hr b (by simp)
  obtain ⟨hc0,hc1⟩:=hr c (by simp)
  obtain ⟨hx0,hx1⟩:=hr x (by simp)
  simp only [Yeu,Yju,Nat.zero_add,Nat.reduceAdd,Int.cast_ofNat_Int,k4,q4,o8,d8]
  rw [show Ya (3:Int) 4=true from rfl]
  simp only [Y7u]
  rw [show List.getD [a,b,c,x] (Int.toNat 3) (Ty.zero (.int .i64))=x from rfl]
  rw [YVg]
  by_cases g:256<=x
  ·rw [show decide (x>=256)=true from by simpa using g,Y7u,Ybu (.inl g)]
  ·rw [show decide (x>=256)=false from by simpa using g,Y8u]
   rw [show Yi none (some (3:Int)) 4=true from rfl,Y7u]
   refine (Yf5 s x 3 0 [a,b,c,x] a rfl (by omega) (by omega) ha0 hx0 hx1).trans ?_
   by_cases d:255 < a
   ·rw [Ybu d,Ybu (.inr (.inl d))]
   ·rw [Yau d]
    refine (Yf5 s _ 3 1 [a,b,c,x] b rfl (by omega) (by omega) hb0 (by omega) (by omega)).trans ?_
    by_cases f:255 < b
    ·rw [Ybu f,Ybu (.inr (.inr (.inl f)))]
    ·rw [Yau f]
     refine (Yf5 s _ 3 2 [a,b,c,x] c rfl (by omega) (by omega) hc0 (by omega) (by omega)).trans ?_
     by_cases k:255 < c
     ·rw [Ybu k,Ybu (.inr (.inr (.inr k)))]
     ·rw [Yau k,Yau (fun h=> h.elim g (fun h=> h.elim d (fun h=> h.elim f k)))]
      exact Y98 s _ 3 _
theorem Yg5 (s:List UInt8) (n:Int) (i:Nat) (r:List Int) (x:Int) (hx:r[i]? =some x) (h:i+1 < r.length) (hhi:r.length<=4) (h0:0<=x) (hn0:0<=n) (hn1:n<=1099511627776):
  Z8 s n (i:Int) r=if 255 < x then some (0,4) else Z8 s (n+x*2 ^ (8*(3 - i))) ((i+1:Nat):Int) r:=by
 have hget:List.getD r (Int.toNat (i:Int)) (Ty.zero (.int .i64))=x:=by
  rw [Ydu,Ymu,hx]; rfl
 have hw:IntKind.i64.wrap ((i:Int)+1)=((i+1:Nat):Int):=by rw [w64 (by omega) (by omega)]; omega
 have hl:IntKind.i64.wrap ((r.length:Int) - 1)=((r.length - 1:Nat):Int):=by rw [w64 (by omega) (by omega)]; omega
 have hsh:IntKind.u64.wrap (IntKind.i64.wrap (8*IntKind.i64.wrap ((3:Int) - (i:Int))))=((8*(3 - i):Nat):Int):=by
  rw [w64 (x:=3 - (i:Int)) (by omega) (by omega),w64 (by omega) (by omega),wu64 (by omega) (by omega)]; omega
 rw [YKc]
 simp only [hl,Yg,Y5u (show i < r.length - 1 by omega),Y7u,Yj,Y5u (show i < r.length by omega),hget,hw,hsh]
 by_cases c:255 < x
 ·rw [show decide (x > 255)=true from by simpa using c,Y7u,Ybu c]
 ·rw [show decide (x > 255)=false from by simpa using c,Y8u,Yau c,show decide ((0:Int)<=((8*(3 - i):Nat):Int))=true from by simp; omega,Y7u]
  have h2:x*2 ^ (8*(3 - i))<=255*16777216:=by
   have:i=0\/i=1\/i=2:=by omega
   rcases this with rfl | rfl | rfl <;> simp <;> omega
  have h1:0<=x*2 ^ (8*(3 - i)):=Int.mul_nonneg h0 (Int.le_of_lt (Int.pow_pos (by omega)))
  rw [YI3 (by omega) (by omega) (by omega),w64 (by omega) (by omega)]
theorem Yd8 (s:List UInt8) (n:Int) (r:List Int) (x lim':Int) (h1:1<=r.length) (h4:r.length<=4) (hx:r[r.length - 1]? =some x) (hlim:lim'=2 ^ (8*(5 - r.length))) (h0:0<=x) (hx1:x<=1099511627776) (hn0:0<=n) (hn1:n<=1099511627776):
  Z8 s n ((r.length - 1:Nat):Int) r=if lim'<=x then some (0,4) else some (IntKind.u32.wrap (n+x),0):=by
 have hget:List.getD r (Int.toNat ((r.length - 1:Nat):Int)) (Ty.zero (.int .i64))=x:=by
  rw [Ydu,Ymu,hx]; rfl
 have hl:IntKind.i64.wrap ((r.length:Int) - 1)=((r.length - 1:Nat):Int):=by rw [w64 (by omega) (by omega)]; omega
 have hsh:IntKind.u64.wrap (IntKind.i64.wrap (8*IntKind.i64.wrap ((5:Int) - (r.length:Int))))=((8*(5 - r.length):Nat):Int):=by
  rw [w64 (x:=5 - (r.length:Int)) (by omega) (by omega),w64 (by omega) (by omega),wu64 (by omega) (by omega)]; omega
 have hone:shl IntKind.i64 1 ((8*(5 - r.length):Nat):Int)=lim':=by
  have:r.length=1\/r.length=2\/r.length=3\/r.length=4:=by omega
  rcases this with e | e | e | e <;> rw [hlim,e] <;> decide
 rw [YKc]
 simp only [hl,Yg,Yxu,decide_false,Y8u,Yj,Y5u (show r.length - 1 < r.length by omega),Y7u,hget,hsh,hone]
 rw [show decide ((0:Int)<=((8*(5 - r.length):Nat):Int))=true from by simp; omega,Y7u]
 by_cases c:lim'<=x
 ·rw [show decide (x>=lim')=true from by simpa using c,Y7u,Ybu c]
 ·rw [show decide (x>=lim')=false from by simpa using c,Y8u,Yau c,w64 (by omega) (by omega)]
theorem Ycs (s:List UInt8) (r:List Int) (h1:1<=r.length) (h4:r.length<=4) (hr:∀ x∈r,0<=x/\x<=1099511627776):Z8 s 0 0 r=some (ip4 r):=by
 match r,h1,h4,hr with
 | [a],_,_,hr=>
  obtain ⟨ha0,ha1⟩:=hr a (by simp)
  rw [YSg]
  refine (Yd8 s 0 [a] a 4294967296 (by simp) (by simp) rfl (by kernel_rfl) ha0 ha1 (by omega) (by omega)).trans ?_
  split
  ·rfl
  ·rw [Int.zero_add]
 | [a,b],_,_,hr=>
  obtain ⟨ha0,ha1⟩:=hr a (by simp)
  obtain ⟨hb0,hb1⟩:=hr b (by simp)
  rw [YTg]
  refine (Yg5 s 0 0 [a,b] a rfl (by simp) (by simp) ha0 (by omega) (by omega)).trans ?_
  by_cases d:255 < a
  ·rw [Ybu d,Ybu (.inr d)]
  ·rw [Yau d]
   refine (Yd8 s (0+a*16777216) [a,b] b 16777216 (by simp) (by simp) rfl (by kernel_rfl) hb0 hb1 (by omega) (by omega)).trans ?_
   by_cases c:16777216<=b
   ·rw [Ybu c,Ybu (.inl c)]
   ·rw [Yau c,Yau (fun h=> h.elim c d)]
    congr 3; omega
 | [a,b,c],_,_,hr=>
  obtain ⟨ha0,ha1⟩:=hr a (by simp)
  obtain ⟨hb0,hb1⟩:=hr b (by simp)
  obtain ⟨hc0,hc1⟩:=hr c (by simp)
  rw [YUg]
  refine (Yg5 s 0 0 [a,b,c] a rfl (by simp) (by simp) ha0 (by omega) (by omega)).trans ?_
  by_cases d:255 < a
  ·rw [Ybu d,Ybu (.inr (.inl d))]
  ·rw [Yau d]
   refine (Yg5 s (0+a*16777216) 1 [a,b,c] b rfl (by simp) (by simp) hb0 (by omega) (by omega)).trans ?_
   by_cases f:255 < b
   ·rw [Ybu f,Ybu (.inr (.inr f))]
   ·rw [Yau f]
    refine (Yd8 s (0+a*16777216+b*65536) [a,b,c] c 65536 (by simp) (by simp) rfl (by kernel_rfl) hc0 hc1 (by omega) (by omega)).trans ?_
    by_cases g:65536<=c
    ·rw [Ybu g,Ybu (.inl g)]
    ·rw [Yau g,Yau (fun h=> h.elim g (fun h=> h.elim d f))]
     congr 3; omega
 | [a,b,c,x],_,_,hr=>
  obtain ⟨ha0,ha1⟩:=hr a (by simp)
  obtain ⟨hb0,hb1⟩:=hr b (by simp)
  obtain ⟨hc0,hc1⟩:=hr c (by simp)
  obtain ⟨hx0,hx1⟩:=hr x (by simp)
  rw [YVg]
  refine (Yg5 s 0 0 [a,b,c,x] a rfl (by simp) (by simp) ha0 (by omega) (by omega)).trans ?_
  by_cases d:255 < a
  ·rw [Ybu d,Ybu (.inr (.inl d))]
  ·rw [Yau d]
   refine (Yg5 s (0+a*16777216) 1 [a,b,c,x] b rfl (by simp) (by simp) hb0 (by omega) (by omega)).trans ?_
   by_cases f:255 < b
   ·rw [Ybu f,Ybu (.inr (.inr (.inl f)))]
   ·rw [Yau f]
    refine (Yg5 s (0+a*16777216+b*65536) 2 [a,b,c,x] c rfl (by simp) (by simp) hc0 (by omega) (by omega)).trans ?_
    by_cases k:255 < c
    ·rw [Ybu k,Ybu (.inr (.inr (.inr k)))]
    ·rw [Yau k]
     refine (Yd8 s (0+a*16777216+b*65536+c*256) [a,b,c,x] x 256 (by simp) (by simp) rfl (by kernel_rfl) hx0 hx1 (by omega) (by omega)).trans ?_
     by_cases g:256<=x
     ·rw [Ybu g,Ybu (.inl g)]
     ·rw [Yau g,Yau (fun h=> h.elim g (fun h=> h.elim d (fun h=> h.elim f k)))]
      congr 3; omega
def YO2:List (List UInt8)->Option (List Int)
 | []=> some []
 | x::l=> if Yj1 x < 0 then none else match YO2 l with
  | some r=> some (Yj1 x::r)
  | none=> none
def Y13 (r:List Int):Option (List Int)->Int×Int
 | some l=> ip4 (r++l)
 | none=> (0,54)
theorem Ysh (s:List UInt8) (parts:List (List UInt8)) (h4:parts.length<=4) (hp:∀ x∈parts,x.length<=1073741824):∀ (k i:Nat) (r:List Int),i+k=parts.length->r.length=i->(∀ x∈r,0<=x/\x<=1099511627776)->1<=parts.length->
  Z4 s (parts.length:Int) (i:Int) r parts=some (Y13 r (YO2 (parts.drop i)))
 | 0,i,r,hk,hl,hr,h1=> by
  have hi:i=parts.length:=by omega
  subst hi
  rw [Ybs s parts.length parts r (by omega) (by omega) hr]
  simp [YO2,Y13]
 | k+1,i,r,hk,hl,hr,h1=> by
  have hi:i < parts.length:=by omega
  have hw:IntKind.i64.wrap ((i:Int)+1)=((i+1:Nat):Int):=by rw [w64 (by omega) (by omega)]; omega
  have hget:List.getD parts (Int.toNat (i:Int)) (Ty.zero .str)=parts[i]:=by
   rw [Ydu,Ymu,Ynu hi]; rfl
  rw [Yyc]
  simp only [Yg,hi,decide_true,Y7u,Yj,hget,hw,Ywe _ (hp _ (List.getElem_mem hi)),Y9u]
  rw [Yiu hi,YO2]
  by_cases c:Yj1 parts[i] < 0
  ·simp [Yx2,c,Y13]
  ·have hb:decide (r.length+[(Yx2 (Yj1 parts[i])).1].length<=lim)=true:=by simp [lim]; omega
   have e1:(Yx2 (Yj1 parts[i])).2=true:=by simp [Yx2,c]
   have e2:(Yx2 (Yj1 parts[i])).1=Yj1 parts[i]:=by simp [Yx2,c]
   rw [hb,e1,e2,Yvu,Y8u,Y7u,Yau c]
   have hle:=Ylh parts[i]
   rw [Ysh s parts h4 hp k (i+1) _ (by omega) (by simp; omega) (by
    intro x hx
    rcases Yru.1 hx with hx | hx
    ·exact hr x hx
    ·have:x=Yj1 parts[i]:=by simpa using hx
     subst this; omega) h1]
   cases YO2 (parts.drop (i+1)) <;> simp [Y13]
theorem Yzh (s:List UInt8) (parts:List (List UInt8)) (h4:parts.length<=4) (hp:∀ x∈parts,x.length<=1073741824):∀ (k i:Nat) (r:List Int),i+k=parts.length->r.length=i->(∀ x∈r,0<=x/\x<=1099511627776)->1<=parts.length->
  Z7 s (i:Int) parts r=some (Y13 r (YO2 (parts.drop i)))
 | 0,i,r,hk,hl,hr,h1=> by
  have hi:i=parts.length:=by omega
  subst hi
  rw [YHc]
  simp only [Yg,Yxu,decide_false,Y8u]
  rw [Ycs s r (by omega) (by omega) hr]
  simp [YO2,Y13]
 | k+1,i,r,hk,hl,hr,h1=> by
  have hi:i < parts.length:=by omega
  have hw:IntKind.i64.wrap ((i:Int)+1)=((i+1:Nat):Int):=by rw [w64 (by omega) (by omega)]; omega
  have hget:List.getD parts (Int.toNat (i:Int)) (Ty.zero .str)=parts[i]:=by
   rw [Ydu,Ymu,Ynu hi]; rfl
  rw [YHc]
  simp only [Yg,hi,decide_true,Y7u,Yj,hget,hw,YUo _ (hp _ (List.getElem_mem hi)),Y9u]
  rw [Yiu hi,YO2]
  by_cases c:Yj1 parts[i] < 0
  ·simp [c,Y13]
  ·have hb:decide (r.length+[Yj1 parts[i]].length<=lim)=true:=by simp [lim]; omega
   rw [hb,Y6u c,Y8u,Y7u,Yau c]
   have hle:=Ylh parts[i]
   rw [Yzh s parts h4 hp k (i+1) _ (by omega) (by simp; omega) (by
    intro x hx
    rcases Yru.1 hx with hx | hx
    ·exact hr x hx
    ·have:x=Yj1 parts[i]:=by simpa using hx
     subst this; omega) h1]
   cases YO2 (parts.drop (i+1)) <;> simp [Y13]
def ipOf (s:List UInt8):Int×Int:=if 4 < (YX s).length then (0,3) else Y13 [] (YO2 (YX s))
theorem Yxm (s:List UInt8) (hs:s.length<=1073741823):Ym9 s=some (ipOf s):=by
 rw [Ywm,Yzj,Yxe s (by omega)]
 simp only [Y9u]
 unfold ipOf
 by_cases c:4 < (YX s).length
 ·rw [show decide ((((YX s).length:Nat):Int) > 4)=true from by simp; omega,Y7u,Ybu c]
 ·rw [show decide ((((YX s).length:Nat):Int) > 4)=false from by simp; omega,Y8u,Yau c]
  exact Ysh s (YX s) (by omega) (fun x hx=> by have:=Yjb s x hx; omega) (YX s).length 0 [] (by omega) rfl (fun x hx=> by cases hx) (Y26 s)
theorem YGo (s:List UInt8) (hs:s.length<=1073741823):YL5 s=some (ipOf s):=by
 rw [YFo,YQj,Yqf s (by omega)]
 simp only [Y9u]
 unfold ipOf
 by_cases c:4 < (YX s).length
 ·rw [show decide ((((YX s).length:Nat):Int) > 4)=true from by simp; omega,Y7u,Ybu c]
 ·rw [show decide ((((YX s).length:Nat):Int) > 4)=false from by simp; omega,Y8u,Yau c]
  exact Yzh s (YX s) (by omega) (fun x hx=> by have:=Yjb s x hx; omega) (YX s).length 0 [] (by omega) rfl (fun x hx=> by cases hx) (Y26 s)
end Go.Abs
namespace Go.Abs
theorem Yya (l:List UInt8) (i:Nat):((⟨l.toArray⟩:ByteArray).get! i)=l.getD i 0:=by
 show l.toArray[i]! =_
 simp [Ymu,getElem!_def]
 cases l[i]? <;> rfl
theorem Yw7 (s:List UInt8) (i:Nat) (h:(s.getD i 0).toNat < 128):Yx s i=((s.getD i 0).toNat,1):=by
 unfold Yx Utf8.decode
 simp only [Nat.add_zero,Yya]
 rw [Ybu h]
theorem Y0g (s:List UInt8) (i:Nat) (h:128<=(s.getD i 0).toNat):128<=(Yx s i).1:=by
 unfold Yx Utf8.decode
 simp only [Nat.add_zero,Yya]
 rw [Yau (by omega)]
 have hr:Utf8.runeError=65533:=rfl
 split
 ·split <;> simp only <;> omega
 ·split
  ·split
   ·rename_i h1; simp only [Ycu,You] at h1; simp only; omega
   ·simp only; omega
  ·split
   ·split
    ·rename_i h1; simp only [Ycu,You] at h1; simp only; omega
    ·simp only; omega
   ·simp only; omega
def YI (of:List UInt8) (c:Int):Bool:=of.any fun b=> c==Y8 b
theorem Yab (s of t:List UInt8) (i c:Int) (n:Nat) (hof:∀ b∈of,b.toNat < 128):∀ (k j:Nat) (fl:Bool),j+k=of.length->
  Zn1 s of i c fl t n of j=Zn1 s of i c (fl||YI (of.drop j) c) t n of of.length
 | 0,j,fl,hk=> by
  have:j=of.length:=by omega
  subst this
  simp [YI]
 | k+1,j,fl,hk=> by
  have hj:j < of.length:=by omega
  have hget:of.getD j 0=of[j]:=by rw [Ymu,Ynu hj]; rfl
  have hd:Yx of j=(of[j].toNat,1):=by
   rw [Yw7 of j (by rw [hget]; exact hof _ (List.getElem_mem hj)),hget]
  rw [Yld]
  simp only [Y5u hj,Y7u,hd]
  rw [Yiu hj]
  cases fl with
  | true=>
   rw [Y7u,Yab s of t i c n hof k (j+1) true (by omega)]
   simp
  | false=>
   rw [Y8u,Yab s of t i c n hof k (j+1) _ (by omega)]
   rfl
theorem Ybb (s of:List UInt8) (c w:Int) (hof:∀ b∈of,b.toNat < 128):∀ (k j:Nat) (fl:Bool),j+k=of.length->
  Zq1 s of c w fl of j=Zq1 s of c w (fl||YI (of.drop j) c) of of.length
 | 0,j,fl,hk=> by
  have:j=of.length:=by omega
  subst this
  simp [YI]
 | k+1,j,fl,hk=> by
  have hj:j < of.length:=by omega
  have hget:of.getD j 0=of[j]:=by rw [Ymu,Ynu hj]; rfl
  have hd:Yx of j=(of[j].toNat,1):=by
   rw [Yw7 of j (by rw [hget]; exact hof _ (List.getElem_mem hj)),hget]
  rw [Ytd]
  simp only [Y5u hj,Y7u,hd]
  rw [Yiu hj]
  cases fl with
  | true=>
   rw [Y7u,Ybb s of c w hof k (j+1) true (by omega)]
   simp
  | false=>
   rw [Y8u,Ybb s of c w hof k (j+1) _ (by omega)]
   rfl
theorem YO7 (of:List UInt8) (hof:∀ b∈of,b.toNat < 128) (c:Int) (h:128<=c):YI of c=false:=by
 unfold YI
 rw [List.any_eq_false]
 intro b hb
 have:=hof b hb
 simp only [Y8,beq_iff_eq]
 omega
theorem Yth (s of:List UInt8) (hof:∀ b∈of,b.toNat < 128) (hs:s.length<=1073741824):∀ (k n:Nat),n+k=s.length->
  Zm1 s of s n=some ((s.drop n).dropWhile fun b=> YI of (Y8 b))
 | 0,n,hk=> by
  have:n=s.length:=by omega
  subst this
  rw [Yjd]; simp
 | k+1,n,hk=> by
  have hn:n < s.length:=by omega
  have hget:s.getD n 0=s[n]:=by rw [Ymu,Ynu hn]; rfl
  rw [Yjd,Y5u hn,Y7u,Yab s of s _ _ _ hof of.length 0 false (by omega),List.drop_zero,Ytu,Yld]
  rw [show decide (of.length < of.length)=false from by simp,Y8u,Yiu hn]
  by_cases ha:s[n].toNat < 128
  ·have hd:=Yw7 s n (by rw [hget]; exact ha)
   rw [hget] at hd
   rw [hd]
   show (bif !(YI of (Y8 s[n])) then _ else _)=_
   rw [List.dropWhile_cons]
   cases hin:YI of (Y8 s[n]) with
   | true=>
    rw [Ybu rfl]
    exact Yth s of hof hs k (n+1) (by omega)
   | false=>
    rw [Ywu,Y7u,Yd1 (by omega),Y7u,YS1,Yau (by simp),Yiu hn]
  ·have hd:=Y0g s n (by rw [hget]; omega)
   have h1:YI of (((Yx s n).1:Nat):Int)=false:=YO7 of hof _ (by omega)
   have h2:YI of (Y8 s[n])=false:=YO7 of hof _ (by unfold Y8; omega)
   rw [h1,Ywu,Y7u,Yd1 (by omega),Y7u,YS1,List.dropWhile_cons,h2,Yau (by simp),Yiu hn]
theorem YLm (s of:List UInt8) (hof:∀ b∈of,b.toNat < 128) (hs:s.length<=1073741824):Yr9 (s,of)=some (s.dropWhile fun b=> YI of (Y8 b)):=by
 rw [YKm,YVk]
 exact Yth s of hof hs s.length 0 (by omega)
theorem Ynr (l:List UInt8) (b:UInt8) (h:128<=b.toNat):128<=(Lib.decodeLastL (l++[b])).1:=by
 unfold Lib.decodeLastL
 have hr:Utf8.runeError=65533:=rfl
 have hlast:(l++[b]).getD ((l++[b]).length - 1) 0=b:=by simp
 rw [Yau (by simp),hlast,Yau (by omega)]
 simp only
 split
 ·rename_i hd
  generalize Lib.lastStart (l++[b])=st at hd ⊢
  unfold Lib.decodeL at hd ⊢
  rcases Nat.lt_or_ge (((l++[b]).drop st).getD 0 0).toNat 128 with hlt | hge
  ·have e:=Yw7 ((l++[b]).drop st) 0 hlt
   unfold Yx at e
   rw [e] at hd
   simp only [Yfu,Yeu,Yju] at hd
   have hst:st=l.length:=by omega
   subst hst
   simp at hlt
   omega
  ·exact Y0g ((l++[b]).drop st) 0 hge
 ·simp only; omega
theorem Yuh (of:List UInt8) (hof:∀ b∈of,b.toNat < 128):∀ (k:Nat) (s:List UInt8),s.length=k->s.length<=1073741824->∃ r,Zp1 s of=some r/\(r=[]↔s.all (fun b=> YI of (Y8 b))=true)
 | 0,s,hk,hs=> by
  have:s=[]:=List.eq_nil_of_length_eq_zero hk
  subst this
  exact ⟨[],by rw [Yrd]; rfl,by simp⟩
 | k+1,s,hk,hs=> by
  obtain ⟨l,b,rfl⟩:∃ l b,s=l++[b]:=by
   have hne:s≠[]:=by intro e; rw [e] at hk; cases hk
   exact ⟨s.dropLast,s.getLast hne,(List.dropLast_concat_getLast hne).symm⟩
  have hl:l.length=k:=by simpa using hk
  rw [Yrd,show decide ((((l++[b]).length:Nat):Int) > 0)=true from by simp,Y7u,Ynp]
  rw [Yp4,show decide ((l++[b]).length<=9223372036854775807)=true from Y5u (by omega),Y7u,Y9u]
  rw [Ybb _ of _ _ hof of.length 0 false (by omega),List.drop_zero,Ytu,Ytd,show decide (of.length < of.length)=false from by simp,Y8u]
  by_cases ha:b.toNat < 128
  ·have hd:Lib.decodeLastL (l++[b])=(b.toNat,1):=by
    unfold Lib.decodeLastL
    have hlast:(l++[b]).getD ((l++[b]).length - 1) 0=b:=by simp
    rw [Yau (by simp),hlast,Ybu ha]
   rw [hd]
   show ∃ r,(bif !(YI of (Y8 b)) then _ else _)=some r/\_
   cases hin:YI of (Y8 b) with
   | false=>
    exact ⟨l++[b],rfl,by simp [hin]⟩
   | true=>
    have hw:IntKind.i64.wrap ((((l++[b]).length:Nat):Int) - ((1:Nat):Int))=((l.length:Nat):Int):=by
     simp only [Yfu,Yeu,Yju]
     rw [w64 (by omega) (by omega)]; omega
    rw [Yvu,Y8u,hw]
    have hc:Yi none (some ((l.length:Nat):Int)) (l++[b]).length=true:=by simp [Yi]; omega
    have hcl:Yl none (some ((l.length:Nat):Int)) (l++[b])=l:=by simp [Yl]
    rw [hc,Y7u,hcl]
    obtain ⟨r,h1,h2⟩:=Yuh of hof k l hl (by simp at hs; omega)
    exact ⟨r,h1,by rw [h2]; simp [hin]⟩
  ·have h1:=Ynr l b (by omega)
   have h2:YI of (((Lib.decodeLastL (l++[b])).1:Nat):Int)=false:=YO7 of hof _ (by omega)
   have h3:YI of (Y8 b)=false:=YO7 of hof _ (by unfold Y8; omega)
   rw [h2]
   exact ⟨l++[b],rfl,by simp [h3]⟩
theorem YH6 (s of:List UInt8) (hof:∀ b∈of,b.toNat < 128) (hs:s.length<=1073741824):YC4 (s,of)=some (s.all fun b=> YI of (Y8 b)):=by
 rw [YGm,Yuj,YLm s of hof hs]
 simp only [Y9u]
 have hle:(s.dropWhile fun b=> YI of (Y8 b)).length<=s.length:=by
  exact (List.dropWhile_suffix _).length_le
 rw [YMm,Y8l]
 obtain ⟨r,h1,h2⟩:=Yuh of hof _ (s.dropWhile fun b=> YI of (Y8 b)) rfl (by omega)
 rw [h1]
 simp only [Y9u]
 have key:(r=[])↔s.all (fun b=> YI of (Y8 b))=true:=by
  rw [h2]
  clear h1 h2 hle hs
  induction s with
  | nil=> simp
  | cons b l ih=>
   rw [List.dropWhile_cons]
   split
   ·rename_i h; rw [ih,List.all_cons,h,Bool.true_and]
   ·rename_i h; simp [h]
 cases hr:(r==[]) with
 | true=>
  have:r=[]:=by simpa using hr
  rw [key.1 this]
 | false=>
  have:¬(r=[]):=by simpa using hr
  cases ha:s.all (fun b=> YI of (Y8 b)) with
  | true=> exact absurd (key.2 ha) this
  | false=> rfl
end Go.Abs
namespace Go.Abs
def digs:List UInt8:=[48,49,50,51,52,53,54,55,56,57]
def YB (b:UInt8):Bool:=decide (48<=Y8 b/\Y8 b<=57)
theorem YEr:(List.range 256).all (fun n=> (YI hexs (Y8 (lowB (UInt8.ofNat n)))==decide (0<=nib (Y8 (UInt8.ofNat n))))&&((YI digs (Y8 (lowB (UInt8.ofNat n)))==YB (UInt8.ofNat n))&&
  (((lowB (UInt8.ofNat n)==48)==(Y8 (UInt8.ofNat n)==48))&&(((lowB (UInt8.ofNat n)==120)==isX (UInt8.ofNat n))&&(!(isX (UInt8.ofNat n)&&YB (UInt8.ofNat n)))))))=true:=by kernel_rfl
theorem YY7 (b:UInt8):YI hexs (Y8 (lowB b))=decide (0<=nib (Y8 b))/\YI digs (Y8 (lowB b))=YB b/\(lowB b==48)=(Y8 b==48)/\(lowB b==120)=isX b/\(isX b&&YB b)=false:=by
 refine YE6 (p:=fun b=> YI hexs (Y8 (lowB b))=decide (0<=nib (Y8 b))/\YI digs (Y8 (lowB b))=YB b/\(lowB b==48)=(Y8 b==48)/\(lowB b==120)=isX b/\(isX b&&YB b)=false) (fun n hn=> ?_) b
 have:=List.all_eq_true.1 YEr n (List.mem_range.2 hn)
 simp only [Ycu,Bool.not_eq_true',beq_iff_eq] at this
 exact ⟨this.1,this.2.1,this.2.2.1,this.2.2.2.1,this.2.2.2.2⟩
def Yv3 (x:List UInt8):Bool:=match x with
 | a::b::l=> if Y8 a=48/\isX b=true then l.all fun b=> decide (0<=nib (Y8 b)) else (a::b::l).all YB
 | [a]=> YB a
 | []=> false
theorem Yfb (s x:List UInt8) (hx:x.length<=1073741824) (al:Bool):∀ (k i:Nat) (hex:Bool),i+k=x.length->
  Zj s x al hex (i:Int)=some (al||(hex&&(x.drop i).all fun b=> decide (0<=nib (Y8 b))))
 | 0,i,hex,hk=> by
  have:i=x.length:=by omega
  subst this
  rw [Yx6]
  simp only [Yg,Yxu,decide_false,Y8u,List.drop_length,List.all_nil,Bool.and_true]
  cases al <;> rfl
 | k+1,i,hex,hk=> by
  have hi:i < x.length:=by omega
  have hw:IntKind.i64.wrap ((i:Int)+1)=((i+1:Nat):Int):=by rw [w64 (by omega) (by omega)]; omega
  have hget:x.getD (Int.toNat (i:Int)) 0=x[i]:=by
   rw [Ydu,Ymu,Ynu hi]; rfl
  have hb:=YI2 x[i]
  rw [Yx6]
  simp only [Yg,hi,decide_true,Y7u,Yj,hget,hw]
  rw [Yiu hi,List.all_cons]
  cases hex with
  | true=>
   rw [Y7u,show ((x[i].toNat:Nat):Int)=Y8 x[i] from rfl,YE9 _ hb.1 hb.2]
   simp only [Y9u]
   rw [Yfb s x hx al k (i+1) _ (by omega)]
   rfl
  | false=>
   rw [Y8u,Yfb s x hx al k (i+1) _ (by omega)]
   rfl
def YK7 (x:List UInt8):Bool:=match x with
 | a::b::_=> decide (Y8 a=48)&&isX b
 | _=> false
theorem YAa (a b:UInt8) (l:List UInt8):YK7 (a::b::l)=(decide (Y8 a=48)&&isX b):=rfl
theorem Yeq (a b:UInt8) (l:List UInt8):Yv3 (a::b::l)=if Y8 a=48/\isX b=true then l.all (fun b=> decide (0<=nib (Y8 b))) else (a::b::l).all YB:=rfl
theorem Yc8 (s x:List UInt8) (hx:x.length<=1073741824):∀ (k i:Nat) (al:Bool),i+k=x.length->
  Zi s x al (i:Int)=some ((al&&(x.drop i).all YB)||(YK7 x&&(x.drop 2).all fun b=> decide (0<=nib (Y8 b))))
 | 0,i,al,hk=> by
  have:i=x.length:=by omega
  subst this
  rw [Ybd]
  simp only [Yg,Yxu,decide_false,Y8u,List.drop_length,List.all_nil,Bool.and_true]
  match x,hx with
  | [],_=>
   rw [show decide (((([]:List UInt8).length:Nat):Int)>=2)=false from rfl,Y8u,Yx6]
   cases al <;> rfl
  | [a],_=>
   rw [Ywa,Y8u,Yx6]
   cases al <;> rfl
  | a::b::l,hx=>
   rw [Yxa,Y7u,Y05,Y7u,get0]
   have v:=fun hex=> Yfb s (a::b::l) hx al l.length 2 hex (by simp; omega)
   rw [show ((2:Nat):Int)=2 from rfl] at v
   simp only [YEa,Y7u,get1,v]
   by_cases h48:Y8 a=48
   ·rw [show (Y8 a==48)=true from by simpa using h48,Y7u]
    rw [YAa,Y5u h48]
    by_cases hxx:Y8 b=120
    ·rw [show (Y8 b==120)=true from by simpa using hxx,Y7u,show isX b=true from by simp [isX,hxx]]; simp
    ·rw [show (Y8 b==120)=false from by simpa using hxx,Y8u,show isX b=(Y8 b==88) from by simp [isX,hxx],Bool.true_and]
   ·rw [show (Y8 a==48)=false from by simpa using h48,Y8u]
    rw [YAa,Y6u h48]; simp
 | k+1,i,al,hk=> by
  have hi:i < x.length:=by omega
  have hw:IntKind.i64.wrap ((i:Int)+1)=((i+1:Nat):Int):=by rw [w64 (by omega) (by omega)]; omega
  have hget:x.getD (Int.toNat (i:Int)) 0=x[i]:=by
   rw [Ydu,Ymu,Ynu hi]; rfl
  rw [Ybd]
  simp only [Yg,hi,decide_true,Y7u,Yj,hget,hw]
  rw [Yiu hi,List.all_cons,show ((x[i].toNat:Nat):Int)=Y8 x[i] from rfl]
  cases al with
  | true=>
   rw [Y7u]
   by_cases c:(48:Int)<=Y8 x[i]
   ·rw [show decide (Y8 x[i]>=48)=true from by simpa using c,Y7u,Yc8 s x hx k (i+1) _ (by omega)]
    have:YB x[i]=decide (Y8 x[i]<=57):=by simp [YB,c]
    rw [this,Bool.true_and]
   ·rw [show decide (Y8 x[i]>=48)=false from by simpa using c,Y8u,Yc8 s x hx k (i+1) _ (by omega)]
    have:YB x[i]=false:=by simp [YB]; omega
    rw [this]; rfl
  | false=>
   rw [Y8u,Yc8 s x hx k (i+1) _ (by omega)]
   rfl
theorem Yfq (x:List UInt8):(((!(x==[]))&&x.all YB)||(YK7 x&&(x.drop 2).all fun b=> decide (0<=nib (Y8 b))))=Yv3 x:=by
 match x with
 | []=> rfl
 | [a]=> simp [Yv3,YK7]
 | a::b::l=>
  rw [YAa,Yeq]
  by_cases h:Y8 a=48/\isX b=true
  ·rw [Ybu h,Y5u h.1,h.2]
   have hd:YB b=false:=by
    have:=(YY7 b).2.2.2.2
    rw [h.2,Bool.true_and] at this; exact this
   simp [hd]
  ·rw [Yau h]
   have:(decide (Y8 a=48)&&isX b)=false:=by
    cases hx:isX b with
    | false=> simp
    | true=> simp; intro e; exact h ⟨e,hx⟩
   rw [this,Bool.false_and,Bool.or_false]
   rfl
theorem Y4h (l:List (List UInt8)) (h1:1<=l.length) (h2:l.length<=1073741825):IntKind.i64.wrap ((l.length:Int) - 1)=((l.length - 1:Nat):Int):=by rw [w64 (by omega) (by omega)]; omega
def YA3 (s:List UInt8):List UInt8:=(YX s).getD ((YX s).length - 1) []
theorem Y2h (s:List UInt8):(YA3 s).length<=s.length:=by
 unfold YA3
 have h1:=Y26 s
 rw [Ymu,Ynu (by omega)]
 exact Yjb s _ (List.getElem_mem _)
def YZ2 (s:List UInt8):Bool:=if s=[] then false else Yv3 (YA3 s)
theorem YEo (s:List UInt8) (hs:s.length<=1073741823):YK5 s=some (YZ2 s):=by
 rw [YDo,YGk]
 unfold YZ2
 by_cases h:s=[]
 ·subst h; rfl
 ·rw [show (s==([]:List UInt8))=false from by simpa using h,Y8u,Yau h,Yqf s (by omega)]
  simp only [Y9u]
  have h1:=Y26 s
  have h2:=YJh s
  rw [Y4h _ h1 (by omega),Yj,Y5u (by omega:(YX s).length - 1 < (YX s).length),Y7u,Ydu]
  have hl:=Y2h s
  have:=Yc8 s (YA3 s) (by omega) (YA3 s).length 0 (!(YA3 s==[])) (by omega)
  refine this.trans ?_
  rw [List.drop_zero,Yfq]
theorem YQq:∀ b∈hexs,b.toNat < 128:=by decide
theorem Yma:∀ b∈digs,b.toNat < 128:=by decide
theorem Y89 (x:List UInt8):((x.map lowB).all fun b=> YI hexs (Y8 b))=(x.all fun b=> decide (0<=nib (Y8 b)))/\((x.map lowB).all fun b=> YI digs (Y8 b))=x.all YB:=by
 induction x with
 | nil=> exact ⟨rfl,rfl⟩
 | cons b l ih=>
  obtain ⟨f1,f2,_⟩:=YY7 b
  simp only [Ysu,List.all_cons,f1,f2,ih.1,ih.2,and_self]
theorem Ysf (y p:List UInt8) (hy:y.length<=1073741824) (hp:p.length<=1073741824):YJ4 (y,p)=some (decide (p.length<=y.length)&&(y.take p.length==p)):=by
 rw [Y9p,Ynj,Y7n,YQk]
 by_cases h:p.length<=y.length
 ·rw [show decide (((y.length:Nat):Int)>=((p.length:Nat):Int))=true from by simp; omega,Y7u]
  have hc:Yi none (some ((p.length:Nat):Int)) y.length=true:=by simp [Yi]; omega
  rw [hc,Y7u,Y5u h,Bool.true_and]
  have:Yl none (some ((p.length:Nat):Int)) y=y.take p.length:=by simp [Yl]
  rw [this]; rfl
 ·rw [show decide (((y.length:Nat):Int)>=((p.length:Nat):Int))=false from by simp; omega,Y8u,Y6u h]; rfl
theorem Yvm (s:List UInt8) (hs:s.length<=1073741823):Yl9 s=some (YZ2 s):=by
 rw [Yum,YCk]
 unfold YZ2
 by_cases h:s=[]
 ·subst h; rfl
 ·rw [show (s==([]:List UInt8))=false from by simpa using h,Y8u,Yau h,Yxe s (by omega)]
  simp only [Y9u]
  have h1:=Y26 s
  have h2:=YJh s
  rw [Y4h _ h1 (by omega),Yj,Y5u (by omega:(YX s).length - 1 < (YX s).length),Y7u,Ydu]
  have hl:=Y2h s
  rw [show List.getD (YX s) ((YX s).length - 1) (Ty.zero .str)=YA3 s from rfl,YF4 _ (by omega)]
  simp only [Y9u]
  generalize YA3 s=x at hl ⊢
  have hx:x.length<=1073741823:=by omega
  rw [Ysf _ _ (by simp; omega) (by simp)]
  simp only [Y9u]
  match x,hx with
  | [],_=> rfl
  | [a],hx=>
   rw [show (decide (([48,120]:List UInt8).length<=([a].map lowB).length)&&(([a].map lowB).take ([48,120]:List UInt8).length==[48,120]))=false from rfl,Y8u]
   rw [show (!(([a].map lowB)==([]:List UInt8)))=true from rfl,Y7u]
   have:=YH6 ([a].map lowB) digs Yma (by simp)
   rw [show ([48,49,50,51,52,53,54,55,56,57]:List UInt8)=digs from rfl,this,(Y89 [a]).2]
   simp [Yv3]
  | a::b::l,hx=>
   have e1:(decide (([48,120]:List UInt8).length<=((a::b::l).map lowB).length)&&(((a::b::l).map lowB).take ([48,120]:List UInt8).length==[48,120]))=((Y8 a==48)&&isX b):=by
    obtain ⟨_,_,f3,_,_⟩:=YY7 a
    obtain ⟨_,_,_,f4,_⟩:=YY7 b
    rw [<-f3,<-f4]
    rw [show decide (([48,120]:List UInt8).length<=((a::b::l).map lowB).length)=true from by simp,Bool.true_and]
    rw [show ((a::b::l).map lowB).take ([48,120]:List UInt8).length=[lowB a,lowB b] from rfl]
    simp
   rw [e1]
   have e2:Yv3 (a::b::l)=if Y8 a=48/\isX b=true then l.all (fun b=> decide (0<=nib (Y8 b))) else (a::b::l).all YB:=rfl
   rw [e2]
   by_cases c:Y8 a=48/\isX b=true
   ·rw [Ybu c,show ((Y8 a==48)&&isX b)=true from by simp [c.1,c.2],Y7u]
    rw [show Yi (some (2:Int)) none ((a::b::l).map lowB).length=true from Yd1 (f:=2) (by simp),Y7u]
    rw [show Yl (some (2:Int)) none ((a::b::l).map lowB)=l.map lowB from YS1 2 _]
    have:=YH6 (l.map lowB) hexs YQq (by simp at hx ⊢; omega)
    rw [show ([48,49,50,51,52,53,54,55,56,57,97,98,99,100,101,102]:List UInt8)=hexs from rfl,this,(Y89 l).1]
    rfl
   ·rw [Yau c,show ((Y8 a==48)&&isX b)=false from by
     cases hb:isX b with
     | false=> simp
     | true=> simp; intro e; exact c ⟨e,hb⟩,Y8u]
    rw [show (!(((a::b::l).map lowB)==([]:List UInt8)))=true from rfl,Y7u]
    have:=YH6 ((a::b::l).map lowB) digs Yma (by simp at hx ⊢; omega)
    rw [show ([48,49,50,51,52,53,54,55,56,57]:List UInt8)=digs from rfl,this,(Y89 (a::b::l)).2]
    rfl
end Go.Abs
