/- Part L1 of the proof: see the last text of the claim. No condition of its own. -/
import Derived.Test.YtddagflhafkbnaaGreatDoorQ1
import Derived.Lib.TrimU
set_option linter.all false
set_option autoImplicit false
namespace Go.Abs
theorem w64 {x:Int} (h1:-9223372036854775808<=x) (h2:x<=9223372036854775807):IntKind.i64.wrap x=x:=by
 change (if (true&&decide (x % (18446744073709551616:Int)>=(9223372036854775808:Int)))=true then x % (18446744073709551616:Int) - (18446744073709551616:Int) else x % (18446744073709551616:Int))=x
 by_cases h:x % (18446744073709551616:Int)>=(9223372036854775808:Int)
 ·rw [Yku (by simp [h])]; omega
 ·rw [Yju (by simp [h])]; omega
theorem Yj {i n:Nat}:Ya (i:Int) n=decide (i < n):=by
 unfold Ya
 by_cases h:i < n
 ·simp [h]
 ·simp [h]
theorem Yg {i n:Nat}:decide ((i:Int) < (n:Int))=decide (i < n):=by
 by_cases h:i < n
 ·simp [h]
 ·simp [h]
theorem YV4 {f i n:Nat} (h1:f<=i) (h2:i<=n):Yi (some (f:Int)) (some (i:Int)) n=true:=by
 simp [Yi]; omega
theorem Yi1 {f n:Nat} (h1:f<=n):Yi (some (f:Int)) none n=true:=by
 simp [Yi]; omega
theorem YU4 {α:Type} (f i:Nat) (x:List α):Ym (some (f:Int)) (some (i:Int)) x=(x.take i).drop f:=by simp [Ym]
theorem YR1 {α:Type} (f:Nat) (x:List α):Ym (some (f:Int)) none x=x.drop f:=by simp [Ym]
def Yl1 (sep:Int):List UInt8->List UInt8->List (List UInt8)
 | cur,[]=> [cur]
 | cur,b::l=> if ((b.toNat:Nat):Int)=sep then cur::Yl1 sep [] l else Yl1 sep (cur++[b]) l
def YQ (s:List UInt8) (sep:Int):List (List UInt8):=Yl1 sep [] s
theorem Yh3 (sep:Int):∀ (l cur:List UInt8),(Yl1 sep cur l).length<=l.length+1
 | [],cur=> by simp [Yl1]
 | b::l,cur=> by
  unfold Yl1
  split
  ·simp only [Ynu]; have:=Yh3 sep l []; omega
  ·have:=Yh3 sep l (cur++[b]); simp only [Ynu]; omega
theorem YPb {s:List UInt8} {f i:Nat} (hf:f<=i) (hi:i < s.length):(s.take (i+1)).drop f=(s.take i).drop f++[s[i]]:=by
 rw [List.take_succ_eq_append_getElem hi,List.drop_append_of_le_length (by simp; omega)]
theorem Ycb (s:List UInt8) (sep:Int) (hs:s.length<=1073741824):∀ (k f i:Nat) (r:List (List UInt8)),f<=i->i+k=s.length->r.length+k<=1073741824->
  Z51 s sep (f:Int) (s.length:Int) (i:Int) r=some (r++Yl1 sep ((s.take i).drop f) (s.drop i))
 | 0,f,i,r,hf,hk,hr=> by
  have hi:i=s.length:=by omega
  subst hi
  rw [Yyc]
  simp only [Yg,YGu,decide_false,Yhu,Yi1 hf,Ygu,YR1,List.take_length,YUu,Yl1]
  have:decide (r.length+[List.drop f s].length<=lim)=true:=by simp [lim]; omega
  rw [this]; rfl
 | k+1,f,i,r,hf,hk,hr=> by
  have hi:i < s.length:=by omega
  have hw:IntKind.i64.wrap ((i:Int)+1)=((i+1:Nat):Int):=by rw [w64 (by omega) (by omega)]; omega
  have hget:s.getD (Int.toNat (i:Int)) 0=s[i]:=by
   rw [Ymu,Yvu,Ywu hi]; rfl
  have hdrop:s.drop i=s[i]::s.drop (i+1):=Yru hi
  rw [Yyc]
  simp only [Yg,hi,decide_true,Ygu,Yj,hget,hw,YV4 hf (Nat.le_of_lt hi),YU4]
  rw [hdrop,Yl1]
  by_cases hsep:((s[i].toNat:Nat):Int)=sep
  ·have hb:((((s[i].toNat:Nat):Int))==sep)=true:=by simp [hsep]
   have hl:decide (r.length+[List.drop f (List.take i s)].length<=lim)=true:=by simp [lim]; omega
   rw [hb,Ygu,hl,Ygu,Yku hsep,Ycb s sep hs k (i+1) (i+1) _ (Nat.le_refl _) (by omega) (by simp; omega)]
   simp
  ·have hb:((((s[i].toNat:Nat):Int))==sep)=false:=by simp [hsep]
   rw [hb,Yhu,Yju hsep,Ycb s sep hs k f (i+1) r (by omega) (by omega) (by omega),YPb hf hi]
theorem Yeb (s:List UInt8) (sep:Int) (hs:s.length<=1073741824):∀ (k f i:Nat) (r:List (List UInt8)),f<=i->i+k=s.length->r.length+k<=1073741824->
  Z71 s sep (f:Int) (i:Int) r=some (r++Yl1 sep ((s.take i).drop f) (s.drop i))
 | 0,f,i,r,hf,hk,hr=> by
  have hi:i=s.length:=by omega
  subst hi
  rw [YEc]
  simp only [Yg,YGu,decide_false,Yhu,Yi1 hf,Ygu,YR1,List.take_length,YUu,Yl1]
  have:decide (r.length+[List.drop f s].length<=lim)=true:=by simp [lim]; omega
  rw [this]; rfl
 | k+1,f,i,r,hf,hk,hr=> by
  have hi:i < s.length:=by omega
  have hw:IntKind.i64.wrap ((i:Int)+1)=((i+1:Nat):Int):=by rw [w64 (by omega) (by omega)]; omega
  have hget:s.getD (Int.toNat (i:Int)) 0=s[i]:=by
   rw [Ymu,Yvu,Ywu hi]; rfl
  have hdrop:s.drop i=s[i]::s.drop (i+1):=Yru hi
  rw [YEc]
  simp only [Yg,hi,decide_true,Ygu,Yj,hget,hw,YV4 hf (Nat.le_of_lt hi),YU4]
  rw [hdrop,Yl1]
  by_cases hsep:((s[i].toNat:Nat):Int)=sep
  ·have hb:((((s[i].toNat:Nat):Int))==sep)=true:=by simp [hsep]
   have hl:decide (r.length+[List.drop f (List.take i s)].length<=lim)=true:=by simp [lim]; omega
   rw [hb,Ygu,hl,Ygu,Yku hsep,Yeb s sep hs k (i+1) (i+1) _ (Nat.le_refl _) (by omega) (by simp; omega)]
   simp
  ·have hb:((((s[i].toNat:Nat):Int))==sep)=false:=by simp [hsep]
   rw [hb,Yhu,Yju hsep,Yeb s sep hs k f (i+1) r (by omega) (by omega) (by omega),YPb hf hi]
theorem YY6 (s:List UInt8) (sep:Int) (hs:s.length<=1073741824):YL4 (s,sep)=some (YQ s sep):=by
 rw [Y8n,Ydj]
 exact Ycb s sep hs s.length 0 0 [] (Nat.le_refl _) (by omega) (by simpa using hs)
theorem Y77 (s:List UInt8) (sep:Int) (hs:s.length<=1073741824):Ya4 (s,sep)=some (YQ s sep):=by
 rw [YKn,Ymj]
 exact Yeb s sep hs s.length 0 0 [] (Nat.le_refl _) (by omega) (by simpa using hs)
end Go.Abs
namespace Go.Abs
def Y9 (b:UInt8):Int:=((b.toNat:Nat):Int)
def lowI (x:Int):Int:=if 65<=x/\x<=90 then bits Go.BinOp.xor IntKind.u8 x 32 else x
def lowB (b:UInt8):UInt8:=UInt8.ofNat (lowI (Y9 b)).toNat
theorem YK2 (b:UInt8):0<=Y9 b/\Y9 b<=255:=by
 unfold Y9
 have:=b.toNat_lt
 omega
theorem Ydb (s0:List UInt8):∀ (k i:Nat) (r:List Int),i+k=r.length->r.length<=1073741824->
  Zi1 s0 65 90 (r.length:Int) (i:Int) r=some (Yn (r.take i++(r.drop i).map lowI))
 | 0,i,r,hk,hr=> by
  have hi:i=r.length:=by omega
  subst hi
  rw [Ydd]
  simp [Yg]
 | k+1,i,r,hk,hr=> by
  have hi:i < r.length:=by omega
  have hw:IntKind.i64.wrap ((i:Int)+1)=((i+1:Nat):Int):=by rw [w64 (by omega) (by omega)]; omega
  have hget:List.getD r (Int.toNat (i:Int)) (Ty.zero (.int .u8))=r[i]:=by
   rw [Ymu,Yvu,Ywu hi]; rfl
  have hdrop:r.drop i=r[i]::r.drop (i+1):=Yru hi
  have htake:∀ l:List Int,(h:i < l.length)->l.take (i+1)=l.take i++[l[i]]:=fun l h=> List.take_succ_eq_append_getElem h
  rw [Ydd]
  simp only [Yg,hi,decide_true,Ygu,Yj,hget,hw]
  rw [hdrop,YBu]
  have next:Zi1 s0 65 90 (r.length:Int) ((i+1:Nat):Int) r=some (Yn (r.take i++[r[i]]++(r.drop (i+1)).map lowI)):=by
   rw [Ydb s0 k (i+1) r (by omega) hr,htake r hi]
  by_cases h1:(65:Int)<=r[i]
  ·have e1:decide (r[i]>=65)=true:=by simpa using h1
   rw [e1,Ygu]
   by_cases h2:r[i]<=(90:Int)
   ·have e2:decide (r[i]<=90)=true:=by simpa using h2
    rw [e2,Ygu]
    have hl:(List.set r (Int.toNat (i:Int)) (bits Go.BinOp.xor IntKind.u8 r[i] 32)).length=r.length:=by simp
    have:=Ydb s0 k (i+1) (List.set r (Int.toNat (i:Int)) (bits Go.BinOp.xor IntKind.u8 r[i] 32)) (by rw [hl]; omega) (by rw [hl]; exact hr)
    rw [hl] at this
    rw [this,Ymu]
    have e3:lowI r[i]=bits Go.BinOp.xor IntKind.u8 r[i] 32:=by unfold lowI; rw [Yku ⟨h1,h2⟩]
    rw [e3,htake _ (by simpa using hi)]
    simp [List.take_set_of_le,List.drop_set_of_lt]
   ·have e2:decide (r[i]<=90)=false:=by simpa using h2
    rw [e2,Yhu,next]
    have e3:lowI r[i]=r[i]:=by unfold lowI; rw [Yju (fun h=> h2 h.2)]
    rw [e3,Ypu]; rfl
  ·have e1:decide (r[i]>=65)=false:=by simpa using h1
   rw [e1,Yhu,next]
   have e3:lowI r[i]=r[i]:=by unfold lowI; rw [Yju (fun h=> h1 h.1)]
   rw [e3,Ypu]; rfl
theorem YK4 (s:List UInt8) (hs:s.length<=1073741824):Yu3 s=some (s.map lowB):=by
 rw [Y5n,YQi,Y9n]
 simp only
 rw [Yek]
 have hl:(YL s).length=s.length:=by simp [YL]
 have:=Ydb s (YL s).length 0 (YL s) (by omega) (by omega)
 rw [show ((0:Nat):Int)=(0:Int) from rfl] at this
 rw [this]
 simp [Yn,YL,lowB,Y9,Function.comp_def]
def nib (x:Int):Int:=
 if 48<=x/\x<=57 then x - 48 else if 97<=x/\x<=102 then x - 87 else if 65<=x/\x<=70 then x - 55 else -1
theorem w8 {x:Int} (h1:0<=x) (h2:x<=255):IntKind.u8.wrap x=x:=by
 change (if (false&&decide (x % (256:Int)>=(128:Int)))=true then x % (256:Int) - (256:Int) else x % (256:Int))=x
 rw [Yju (by simp)]; omega
theorem YMn (x:Int):YI9 x=some (decide (48<=x/\x<=57)):=by
 rw [YLn,Y3l]
 by_cases h:(48:Int)<=x
 ·have e1:decide (x>=48)=true:=by simpa using h
  rw [e1,Ygu]; simp [h]
 ·have e1:decide (x>=48)=false:=by simpa using h
  rw [e1,Yhu]; simp [h]
theorem YH9 (x:Int) (h0:0<=x) (h1:x<=255):YF5 x=some (nib x):=by
 rw [YIn,Y9j,YMn]
 simp only [Yiu]
 unfold nib
 by_cases a:48<=x/\x<=57
 ·rw [Yku a,Yeu a,Ygu,w8 (by omega) (by omega),w64 (by omega) (by omega)]
 ·rw [Yju a,Yfu a,Yhu]
  by_cases b:(97:Int)<=x
  ·rw [show decide (x>=97)=true from by simpa using b,Ygu]
   by_cases c:x<=(102:Int)
   ·rw [show decide (x<=102)=true from by simpa using c,Ygu,Yku ⟨b,c⟩,w8 (by omega) (by omega),w64 (x:=x - 97) (by omega) (by omega),w64 (by omega) (by omega)]
    congr 1; omega
   ·rw [show decide (x<=102)=false from by simpa using c,Yhu,show decide (x>=65)=true from by simp; omega,Ygu,show decide (x<=70)=false from by simp; omega,Yhu,
     Yju (fun h=> c h.2),Yju (by omega)]
  ·rw [show decide (x>=97)=false from by simpa using b,Yhu,Yju (fun h=> b h.1)]
   by_cases c:(65:Int)<=x
   ·rw [show decide (x>=65)=true from by simpa using c,Ygu]
    by_cases d:x<=(70:Int)
    ·rw [show decide (x<=70)=true from by simpa using d,Ygu,Yku ⟨c,d⟩,w8 (by omega) (by omega),w64 (x:=x - 65) (by omega) (by omega),w64 (by omega) (by omega)]
     congr 1; omega
    ·rw [show decide (x<=70)=false from by simpa using d,Yhu,Yju (fun h=> d h.2)]
   ·rw [show decide (x>=65)=false from by simpa using c,Yhu,Yju (fun h=> c h.1)]
def hexs:List UInt8:=[48,49,50,51,52,53,54,55,56,57,97,98,99,100,101,102]
theorem YLq:(List.range 256).all (fun n=> decide (Lib.indexByte hexs (UInt8.ofNat (Y9 (lowB (UInt8.ofNat n))).toNat)=nib (Y9 (UInt8.ofNat n))))=true:=by kernel_rfl
theorem YP6 {p:UInt8->Prop} (h:∀ n,n < 256->p (UInt8.ofNat n)) (b:UInt8):p b:=by
 have:=h b.toNat b.toNat_lt
 rwa [UInt8.ofNat_toNat] at this
theorem YMq (b:UInt8):Lib.indexByte hexs (UInt8.ofNat (Y9 (lowB b)).toNat)=nib (Y9 b):=by
 refine YP6 (p:=fun b=> Lib.indexByte hexs (UInt8.ofNat (Y9 (lowB b)).toNat)=nib (Y9 b)) (fun n hn=> ?_) b
 have:=Y3v.1 YLq n (List.mem_range.2 hn)
 simpa using this
def Y11 (base:Int):Int->List UInt8->Int
 | n,[]=> n
 | n,b::l=> if nib (Y9 b) < 0\/base<=nib (Y9 b) then -1 else Y11 base (if n*base+nib (Y9 b) < 1099511627776 then n*base+nib (Y9 b) else 1099511627776) l
theorem Yd3 (x:Int):-1<=nib x/\nib x<=15:=by
 unfold nib; split
 ·omega
 ·split
  ·omega
  ·split <;> omega
theorem Ygb (s:List UInt8) (base:Int) (hb:2<=base/\base<=16) (hs:s.length<=1073741824):∀ (k i:Nat) (n:Int),i+k=s.length->0<=n->n<=1099511627776->
  Zs s base n (i:Int)=some (Y11 base n (s.drop i))
 | 0,i,n,hk,h0,h1=> by
  have hi:i=s.length:=by omega
  subst hi
  rw [Yxd]
  simp [Yg,Y11]
 | k+1,i,n,hk,h0,h1=> by
  have hi:i < s.length:=by omega
  have hw:IntKind.i64.wrap ((i:Int)+1)=((i+1:Nat):Int):=by rw [w64 (by omega) (by omega)]; omega
  have hget:s.getD (Int.toNat (i:Int)) 0=s[i]:=by
   rw [Ymu,Yvu,Ywu hi]; rfl
  have hbr:=YK2 s[i]
  have hnb:=Yd3 (Y9 s[i])
  have hm0:0<=n*base:=Int.mul_nonneg h0 (by omega)
  have hm1:n*base<=1099511627776*16:=Int.mul_le_mul h1 hb.2 (by omega) (by omega)
  rw [Yxd]
  simp only [Yg,hi,decide_true,Ygu,Yj,hget,hw]
  rw [Yru hi,Y11]
  rw [show ((s[i].toNat:Nat):Int)=Y9 s[i] from rfl,YH9 _ hbr.1 hbr.2]
  simp only [Yiu]
  by_cases a:nib (Y9 s[i]) < 0
  ·rw [Yeu a,Ygu,Yku (.inl a)]
  ·rw [Yfu a,Yhu]
   by_cases b:base<=nib (Y9 s[i])
   ·rw [show decide (nib (Y9 s[i])>=base)=true from by simpa using b,Ygu,Yku (.inr b)]
   ·rw [show decide (nib (Y9 s[i])>=base)=false from by simpa using b,Yhu,Yju (fun h=> h.elim a b)]
    rw [w64 (x:=n*base) (by omega) (by omega),w64 (by omega) (by omega)]
    by_cases c:n*base+nib (Y9 s[i]) > 1099511627776
    ·rw [Yeu c,Ygu,Ygb s base hb hs k (i+1) _ (by omega) (by omega) (by omega),Yju (by omega)]
    ·rw [Yfu c,Yhu,Ygb s base hb hs k (i+1) _ (by omega) (by omega) (by omega)]
     congr 2
     by_cases d:n*base+nib (Y9 s[i]) < 1099511627776
     ·rw [Yku d]
     ·rw [Yju d]; omega
def Yz2 (v:Int):Int×Bool:=if v < 0 then (0,false) else (v,true)
theorem Yfh (s:List UInt8) (base:Int) (hb:2<=base/\base<=16) (hs:s.length<=1073741824):∀ (k i:Nat) (n:Int),i+k=s.length->0<=n->n<=1099511627776->
  Zn s base n (s.length:Int) (i:Int)=some (Yz2 (Y11 base n (s.drop i)))
 | 0,i,n,hk,h0,h1=> by
  have hi:i=s.length:=by omega
  subst hi
  rw [Ynd]
  simp [Yg,Y11,Yz2]
  omega
 | k+1,i,n,hk,h0,h1=> by
  have hi:i < s.length:=by omega
  have hw:IntKind.i64.wrap ((i:Int)+1)=((i+1:Nat):Int):=by rw [w64 (by omega) (by omega)]; omega
  have hnb:=Yd3 (Y9 s[i])
  have hm0:0<=n*base:=Int.mul_nonneg h0 (by omega)
  have hm1:n*base<=1099511627776*16:=Int.mul_le_mul h1 hb.2 (by omega) (by omega)
  have hcut:(s.take (i+1)).drop i=[s[i]]:=by
   rw [YPb (Nat.le_refl _) hi]; simp
  rw [Ynd]
  simp only [Yg,hi,decide_true,Ygu,hw,YV4 (Nat.le_succ i) hi,YU4,hcut]
  rw [YK4 _ (by simp)]
  simp only [Yiu,YBu,List.map_nil]
  have e0:Ya (0:Int) [lowB s[i]].length=true:=by rw [show (0:Int)=((0:Nat):Int) from rfl,Yj]; simp
  rw [e0,Ygu,YP4]
  simp only [YB2]
  rw [show (([lowB s[i]].getD (Int.toNat 0) (0:UInt8)).toNat:Int)=Y9 (lowB s[i]) from rfl]
  rw [show Lib.indexByte [48,49,50,51,52,53,54,55,56,57,97,98,99,100,101,102] (UInt8.ofNat (Y9 (lowB s[i])).toNat)=nib (Y9 s[i]) from YMq s[i]]
  simp only [Yiu]
  rw [Yru hi,Y11]
  by_cases a:nib (Y9 s[i]) < 0
  ·rw [Yeu a,Ygu,Yku (show nib (Y9 s[i]) < 0\/base<=nib (Y9 s[i]) from .inl a)]; rfl
  ·rw [Yfu a,Yhu]
   by_cases b:base<=nib (Y9 s[i])
   ·rw [show decide (nib (Y9 s[i])>=base)=true from by simpa using b,Ygu,Yku (show nib (Y9 s[i]) < 0\/base<=nib (Y9 s[i]) from .inr b)]; rfl
   ·rw [show decide (nib (Y9 s[i])>=base)=false from by simpa using b,Yhu,Yju (show ¬(nib (Y9 s[i]) < 0\/base<=nib (Y9 s[i])) from fun h=> h.elim a b)]
    rw [w64 (x:=n*base) (by omega) (by omega),w64 (by omega) (by omega)]
    exact Yfh s base hb hs k (i+1) _ (by omega) (by split <;> omega) (by split <;> omega)
end Go.Abs
namespace Go.Abs
def isX (b:UInt8):Bool:=Y9 b==120||Y9 b==88
theorem Y1r:(List.range 256).all (fun n=> (bits Go.BinOp.or IntKind.u8 (Y9 (UInt8.ofNat n)) 32==(120:Int))==isX (UInt8.ofNat n))=true:=by kernel_rfl
theorem Y2s (b:UInt8):(bits Go.BinOp.or IntKind.u8 (Y9 b) 32==(120:Int))=isX b:=by
 refine YP6 (p:=fun b=> (bits Go.BinOp.or IntKind.u8 (Y9 b) 32==(120:Int))=isX b) (fun n hn=> ?_) b
 have:=Y3v.1 Y1r n (List.mem_range.2 hn)
 simpa using this
def YC1 (s:List UInt8):Int:=match s with
 | []=> -1
 | [b]=> Y11 10 0 [b]
 | a::b::l=> if Y9 a=48 then (if isX b=true then Y11 16 0 l else Y11 8 0 (b::l)) else Y11 10 0 (a::b::l)
theorem YWa (a b:UInt8) (l:List UInt8):YC1 (a::b::l)=if Y9 a=48 then (if isX b=true then Y11 16 0 l else Y11 8 0 (b::l)) else Y11 10 0 (a::b::l):=rfl
theorem Yh8 (s:List UInt8) (base:Int) (hb:2<=base/\base<=16) (hs:s.length<=1073741824):Zq s base=some (Y11 base 0 s):=by
 rw [Yal]
 exact Ygb s base hb hs s.length 0 0 (by omega) (by omega) (by omega)
theorem Yd8 (s:List UInt8) (base:Int) (hb:2<=base/\base<=16) (hs:s.length<=1073741824):Zl s base=some (Yz2 (Y11 base 0 s)):=by
 rw [YFk]
 exact Yfh s base hb hs s.length 0 0 (by omega) (by omega) (by omega)
theorem YDa (a b:UInt8) (l:List UInt8):decide ((((a::b::l).length:Nat):Int)>=2)=true:=by simp; omega
theorem YCa (a:UInt8):decide ((([a].length:Nat):Int)>=2)=false:=by simp
theorem Y65 {α:Type} (a:α) (l:List α):Ya (0:Int) (a::l).length=true:=by
 rw [show (0:Int)=((0:Nat):Int) from rfl,Yj]; simp
theorem YIa {α:Type} (a b:α) (l:List α):Ya (1:Int) (a::b::l).length=true:=by
 rw [show (1:Int)=((1:Nat):Int) from rfl,Yj]; simp
theorem cut1 (a b:UInt8) (l:List UInt8):Yi (some (1:Int)) none (a::b::l).length=true:=Yi1 (f:=1) (by simp)
theorem cut2 (a b:UInt8) (l:List UInt8):Yi (some (2:Int)) none (a::b::l).length=true:=Yi1 (f:=2) (by simp)
theorem YEf (a b:UInt8) (l:List UInt8):Ym (some (1:Int)) none (a::b::l)=b::l:=YR1 1 _
theorem YFf (a b:UInt8) (l:List UInt8):Ym (some (2:Int)) none (a::b::l)=l:=YR1 2 _
theorem get0 (a:UInt8) (l:List UInt8):(((List.getD (a::l) (Int.toNat (0:Int)) (0:UInt8)).toNat:Nat):Int)=Y9 a:=rfl
theorem get1 (a b:UInt8) (l:List UInt8):(((List.getD (a::b::l) (Int.toNat (1:Int)) (0:UInt8)).toNat:Nat):Int)=Y9 b:=rfl
theorem YOo (s:List UInt8) (hs:s.length<=1073741824):YZ9 s=some (YC1 s):=by
 rw [YNo,Y2l]
 match s,hs with
 | [],_=> rfl
 | [a],hs=>
  rw [show (((([a]:List UInt8).length:Nat):Int)==0)=false from rfl,Yhu,YCa,Yhu]
  rw [Yhu,Yud,Yh8 _ _ (by omega) hs]
  rfl
 | a::b::l,hs=>
  have hl:(b::l).length<=1073741824:=by simp only [Ynu] at hs ⊢; omega
  have hl2:l.length<=1073741824:=by simp only [Ynu] at hs; omega
  have e0:((((a::b::l).length:Nat):Int)==0)=false:=by simp; omega
  simp only [e0,Yhu,YDa,Ygu,Y65,YIa,get0,get1,cut1,cut2,YEf,YFf,Yud,Yh8 _ _ (show (2:Int)<=16/\(16:Int)<=16 by omega) hl2,
   Yh8 _ _ (show (2:Int)<=8/\(8:Int)<=16 by omega) hl,Yh8 _ _ (show (2:Int)<=10/\(10:Int)<=16 by omega) hs]
  rw [YWa]
  by_cases h48:Y9 a=48
  ·rw [Yku h48,show (Y9 a==48)=true from by simpa using h48]
   simp only [Ygu]
   by_cases hx:Y9 b=120
   ·have:isX b=true:=by simp [isX,hx]
    rw [Yku this,show (Y9 b==120)=true from by simpa using hx,Ygu]
   ·rw [show (Y9 b==120)=false from by simpa using hx,Yhu]
    by_cases hX:Y9 b=88
    ·have:isX b=true:=by simp [isX,hX]
     rw [Yku this,show (Y9 b==88)=true from by simpa using hX,Ygu]
    ·have:¬isX b=true:=by simp [isX,hx,hX]
     rw [Yju this,show (Y9 b==88)=false from by simpa using hX,Yhu]
  ·rw [Yju h48,show (Y9 a==48)=false from by simpa using h48]
   simp only [Yhu]
theorem Yle (s:List UInt8) (hs:s.length<=1073741824):Y74 s=some (Yz2 (YC1 s)):=by
 rw [YRm,YBk]
 match s,hs with
 | [],_=> rfl
 | [a],hs=>
  simp only [YCa,Yhu]
  rw [show (([a]:List UInt8)==[])=false from rfl,Yhu,Ymd,Yd8 _ _ (by omega) hs]
  rfl
 | a::b::l,hs=>
  have hl:(b::l).length<=1073741824:=by simp only [Ynu] at hs ⊢; omega
  have hl2:l.length<=1073741824:=by simp only [Ynu] at hs; omega
  have e0:((a::b::l:List UInt8)==[])=false:=rfl
  simp only [e0,Yhu,YDa,Ygu,Y65,YIa,get0,get1,cut1,cut2,YEf,YFf,Y2s,Ymd,Yd8 _ _ (show (2:Int)<=16/\(16:Int)<=16 by omega) hl2,
   Yd8 _ _ (show (2:Int)<=8/\(8:Int)<=16 by omega) hl,Yd8 _ _ (show (2:Int)<=10/\(10:Int)<=16 by omega) hs]
  rw [YWa]
  by_cases h48:Y9 a=48
  ·rw [Yku h48,show (Y9 a==48)=true from by simpa using h48]
   simp only [Ygu]
   cases hx:isX b <;> simp
  ·rw [Yju h48,show (Y9 a==48)=false from by simpa using h48]
   simp only [Yhu]
theorem Ya6 (base:Int):∀ (l:List UInt8) (n:Int),n<=1099511627776->Y11 base n l<=1099511627776
 | [],n,h=> h
 | b::l,n,h=> by
  unfold Y11
  split
  ·omega
  ·exact Ya6 base l _ (by split <;> omega)
theorem Y3h (s:List UInt8):YC1 s<=1099511627776:=by
 unfold YC1
 split
 ·omega
 ·exact Ya6 _ _ _ (by omega)
 ·split
  ·split
   ·exact Ya6 _ _ _ (by omega)
   ·exact Ya6 _ _ _ (by omega)
  ·exact Ya6 _ _ _ (by omega)
def YX (s:List UInt8):List (List UInt8):=
 if 1 < (YQ s 46).length/\(YQ s 46).getD ((YQ s 46).length - 1) []=[] then (YQ s 46).take ((YQ s 46).length - 1) else YQ s 46
theorem Yq6 (sep:Int):∀ (l cur:List UInt8),1<=(Yl1 sep cur l).length
 | [],cur=> by simp [Yl1]
 | b::l,cur=> by
  unfold Yl1
  split
  ·simp
  ·exact Yq6 sep l _
theorem Yuh (y:List (List UInt8)) (h1:1<=y.length) (h2:y.length<=1073741825):
  (bif (decide ((((List.length y):Nat):Int) > (1:Int))) then
    bif (Ya (IntKind.wrap IntKind.i64 ((((List.length y):Nat):Int) - (1:Int))) (List.length y)) then
     bif ((List.getD y (Int.toNat (IntKind.wrap IntKind.i64 ((((List.length y):Nat):Int) - (1:Int)))) (Ty.zero .str))==([]:List UInt8)) then
      bif (Yi none (some (IntKind.wrap IntKind.i64 ((((List.length y):Nat):Int) - (1:Int)))) (List.length y)) then
       some (List.take (Option.getD (Option.map (Int.toNat) (some (IntKind.wrap IntKind.i64 ((((List.length y):Nat):Int) - (1:Int))))) (List.length y)) y)
      else
       none
     else
      some y
    else
     none
   else
    some y)=some (if 1 < y.length/\y.getD (y.length - 1) []=[] then y.take (y.length - 1) else y):=by
 have hw:IntKind.i64.wrap ((y.length:Int) - 1)=((y.length - 1:Nat):Int):=by rw [w64 (by omega) (by omega)]; omega
 by_cases h:1 < y.length
 ·have e1:decide (((y.length:Nat):Int) > 1)=true:=by simp; omega
  rw [e1,Ygu,hw,Yj,Yeu (by omega:y.length - 1 < y.length),Ygu,Ymu]
  rw [show Ty.zero .str=([]:List UInt8) from rfl]
  by_cases g:y.getD (y.length - 1) []=[]
  ·rw [g,show ((([]:List UInt8))==[])=true from rfl,Ygu,Yku ⟨h,rfl⟩]
   have:Yi none (some ((y.length - 1:Nat):Int)) y.length=true:=by simp [Yi]
   rw [this,Ygu]
   simp
  ·rw [show (y.getD (y.length - 1) []==([]:List UInt8))=false from by simpa using g,Yhu,Yju (fun k=> g k.2)]
 ·have e1:decide (((y.length:Nat):Int) > 1)=false:=by simp; omega
  rw [e1,Yhu,Yju (fun k=> h k.1)]
theorem Yme (s:List UInt8) (hs:s.length<=1073741824):YV6 s=some (YX s):=by
 rw [YSm,Ytk,YY6 s 46 hs]
 exact Yuh _ (Yq6 _ _ _) (by have:=Yh3 46 s []; unfold YQ; omega)
theorem Y5f (s:List UInt8) (hs:s.length<=1073741824):Yp7 s=some (YX s):=by
 rw [YPo,YWk,Y77 s 46 hs]
 exact Yuh _ (Yq6 _ _ _) (by have:=Yh3 46 s []; unfold YQ; omega)
theorem Yp6 (sep:Int):∀ (l cur x:List UInt8),x∈Yl1 sep cur l->x.length<=cur.length+l.length
 | [],cur,x,h=> by
  simp only [Yl1,YNu] at h; subst h; simp
 | b::l,cur,x,h=> by
  unfold Yl1 at h
  split at h
  ·rcases Yuu.1 h with rfl | h
   ·simp
   ·have:=Yp6 sep l [] x h; simp only [Ysu,Ynu] at this ⊢; omega
  ·have:=Yp6 sep l _ x h; simp only [You,Ynu,Ysu] at this ⊢; omega
theorem Yjb (s x:List UInt8) (h:x∈YX s):x.length<=s.length:=by
 have:x∈YQ s 46:=by
  unfold YX at h
  split at h
  ·exact List.mem_of_mem_take h
  ·exact h
 have:=Yp6 46 s [] x this
 simpa using this
theorem Yc6 (s:List UInt8):1<=(YX s).length:=by
 have:=Yq6 46 s []
 unfold YX
 split
 ·rename_i h; rw [Yyu]; omega
 ·exact this
theorem Yth (s:List UInt8):(YX s).length<=s.length+1:=by
 have:=Yh3 46 s []
 unfold YX
 split
 ·rw [Yyu]; unfold YQ; omega
 ·exact this
end Go.Abs
namespace Go.Abs
theorem Yo6 {x:Int} {y:Nat} (hy:y<=64) (h1:-9223372036854775808<=x*2 ^ y) (h2:x*2 ^ y<=9223372036854775807):shl IntKind.i64 x (y:Int)=x*2 ^ y:=by
 unfold shl
 rw [Ymu,show (min y IntKind.i64.bits)=y from Nat.min_eq_left hy]
 exact w64 h1 h2
theorem wu64 {x:Int} (h1:0<=x) (h2:x<=9223372036854775807):IntKind.u64.wrap x=x:=by
 change (if (false&&decide (x % (18446744073709551616:Int)>=(9223372036854775808:Int)))=true then x % (18446744073709551616:Int) - (18446744073709551616:Int) else x % (18446744073709551616:Int))=x
 rw [Yju (by simp)]; omega
def ip4:List Int->Int×Int
 | [a]=> if 4294967296<=a then (0,4) else (IntKind.u32.wrap a,0)
 | [a,b]=> if 16777216<=b\/255 < a then (0,4) else (IntKind.u32.wrap (b+a*16777216),0)
 | [a,b,c]=> if 65536<=c\/255 < a\/255 < b then (0,4) else (IntKind.u32.wrap (c+a*16777216+b*65536),0)
 | [a,b,c,d]=> if 256<=d\/255 < a\/255 < b\/255 < c then (0,4) else (IntKind.u32.wrap (d+a*16777216+b*65536+c*256),0)
 | _=> (0,0)
theorem Yyg (a:Int):ip4 [a]=if 4294967296<=a then (0,4) else (IntKind.u32.wrap a,0):=rfl
theorem Yzg (a b:Int):ip4 [a,b]=if 16777216<=b\/255 < a then (0,4) else (IntKind.u32.wrap (b+a*16777216),0):=rfl
theorem YAg (a b c:Int):ip4 [a,b,c]=if 65536<=c\/255 < a\/255 < b then (0,4) else (IntKind.u32.wrap (c+a*16777216+b*65536),0):=rfl
theorem YBg (a b c d:Int):ip4 [a,b,c,d]=if 256<=d\/255 < a\/255 < b\/255 < c then (0,4) else (IntKind.u32.wrap (d+a*16777216+b*65536+c*256),0):=rfl
theorem d32:decide ((0:Int)<=32)=true:=rfl
theorem d24:decide ((0:Int)<=24)=true:=rfl
theorem d16:decide ((0:Int)<=16)=true:=rfl
theorem d8:decide ((0:Int)<=8)=true:=rfl
theorem o32:shl IntKind.i64 1 32=4294967296:=by kernel_rfl
theorem o24:shl IntKind.i64 1 24=16777216:=by kernel_rfl
theorem o16:shl IntKind.i64 1 16=65536:=by kernel_rfl
theorem o8:shl IntKind.i64 1 8=256:=by kernel_rfl
theorem k1:IntKind.i64.wrap ((1:Int) - 1)=0:=by kernel_rfl
theorem k2:IntKind.i64.wrap ((2:Int) - 1)=1:=by kernel_rfl
theorem k3:IntKind.i64.wrap ((3:Int) - 1)=2:=by kernel_rfl
theorem k4:IntKind.i64.wrap ((4:Int) - 1)=3:=by kernel_rfl
theorem q1:IntKind.i64.wrap (8*IntKind.i64.wrap ((5:Int) - 1))=32:=by kernel_rfl
theorem q2:IntKind.i64.wrap (8*IntKind.i64.wrap ((5:Int) - 2))=24:=by kernel_rfl
theorem q3:IntKind.i64.wrap (8*IntKind.i64.wrap ((5:Int) - 3))=16:=by kernel_rfl
theorem q4:IntKind.i64.wrap (8*IntKind.i64.wrap ((5:Int) - 4))=8:=by kernel_rfl
theorem r0:IntKind.i64.wrap (8*IntKind.i64.wrap ((3:Int) - 0))=24:=by kernel_rfl
theorem r1:IntKind.i64.wrap (8*IntKind.i64.wrap ((3:Int) - 1))=16:=by kernel_rfl
theorem r2:IntKind.i64.wrap (8*IntKind.i64.wrap ((3:Int) - 2))=8:=by kernel_rfl
theorem a1:IntKind.i64.wrap ((0:Int)+1)=1:=by kernel_rfl
theorem a2:IntKind.i64.wrap ((1:Int)+1)=2:=by kernel_rfl
theorem a3:IntKind.i64.wrap ((2:Int)+1)=3:=by kernel_rfl
theorem Yc8 (s:List UInt8) (n:Int) (hi:Nat) (r:List Int):Z5 s n 0 hi (hi:Int) (hi:Int) r=some (IntKind.u32.wrap n,0):=by
 rw [YCc]; simp
theorem Yi5 (s:List UInt8) (n:Int) (hi i:Nat) (r:List Int) (x:Int) (hx:r[i]? =some x) (h:i < hi) (hhi:hi<=3) (h0:0<=x) (hn0:0<=n) (hn1:n<=1099511627776):
  Z5 s n 0 hi (hi:Int) (i:Int) r=if 255 < x then some (0,4) else Z5 s (n+x*2 ^ (8*(3 - i))) 0 hi (hi:Int) ((i+1:Nat):Int) r:=by
 have hget:List.getD r (0+Int.toNat (i:Int)) (Ty.zero (.int .i64))=x:=by
  rw [Y2v,Ymu,Yvu,hx]; rfl
 have hw:IntKind.i64.wrap ((i:Int)+1)=((i+1:Nat):Int):=by rw [w64 (by omega) (by omega)]; omega
 have hsh:IntKind.i64.wrap (8*IntKind.i64.wrap ((3:Int) - (i:Int)))=((8*(3 - i):Nat):Int):=by
  rw [w64 (x:=3 - (i:Int)) (by omega) (by omega),w64 (by omega) (by omega)]; omega
 rw [YCc]
 simp only [Yg,h,decide_true,Ygu,Nat.sub_zero,Yj,hget,hw,hsh]
 by_cases c:255 < x
 ·rw [show decide (x > 255)=true from by simpa using c,Ygu,Yku c]
 ·rw [show decide (x > 255)=false from by simpa using c,Yhu,Yju c,show decide ((0:Int)<=((8*(3 - i):Nat):Int))=true from by simp; omega,Ygu]
  have h2:x*2 ^ (8*(3 - i))<=255*16777216:=by
   have:i=0\/i=1\/i=2:=by omega
   rcases this with rfl | rfl | rfl <;> simp <;> omega
  have h1:0<=x*2 ^ (8*(3 - i)):=Int.mul_nonneg h0 (Int.le_of_lt (Int.pow_pos (by omega)))
  rw [Yo6 (by omega) (by omega) (by omega),w64 (by omega) (by omega)]
theorem Yds (s:List UInt8) (m:Nat) (parts:List (List UInt8)) (r:List Int) (h1:1<=r.length) (h4:r.length<=4) (hr:∀ x∈r,0<=x/\x<=1099511627776):Z4 s (m:Int) (m:Int) r parts=some (ip4 r):=by
 rw [Yxc]
 have e:decide ((m:Int) < (m:Int))=false:=by simp
 rw [e,Yhu]
 match r,h1,h4,hr with
 | [a],_,_,hr=>
  obtain ⟨ha0,ha1⟩:=hr a (by simp)
  simp only [Ynu,Ysu,Y2v,Int.natCast_one,Int.cast_ofNat_Int,k1,q1,o32,d32]
  rw [show Ya (0:Int) 1=true from rfl]
  simp only [Ygu]
  rw [show List.getD [a] (Int.toNat 0) (Ty.zero (.int .i64))=a from rfl]
  rw [Yyg]
  by_cases c:4294967296<=a
  ·rw [show decide (a>=4294967296)=true from by simpa using c,Ygu,Yku c]
  ·rw [show decide (a>=4294967296)=false from by simpa using c,Yhu,Yju c]
   rw [show Yi none (some (0:Int)) 1=true from rfl,Ygu]
   exact Yc8 s a 0 [a]
 | [a,b],_,_,hr=>
  obtain ⟨ha0,ha1⟩:=hr a (by simp)
  obtain ⟨hb0,hb1⟩:=hr b (by simp)
  simp only [Ynu,Ysu,Y2v,Nat.reduceAdd,Int.cast_ofNat_Int,k2,q2,o24,d24]
  rw [show Ya (1:Int) 2=true from rfl]
  simp only [Ygu]
  rw [show List.getD [a,b] (Int.toNat 1) (Ty.zero (.int .i64))=b from rfl]
  rw [Yzg]
  by_cases c:16777216<=b
  ·rw [show decide (b>=16777216)=true from by simpa using c,Ygu,Yku (.inl c)]
  ·rw [show decide (b>=16777216)=false from by simpa using c,Yhu]
   rw [show Yi none (some (1:Int)) 2=true from rfl,Ygu]
   refine (Yi5 s b 1 0 [a,b] a rfl (by omega) (by omega) ha0 hb0 hb1).trans ?_
   by_cases d:255 < a
   ·rw [Yku d,Yku (.inr d)]
   ·rw [Yju d,Yju (fun h=> h.elim c d)]
    exact Yc8 s _ 1 _
 | [a,b,c],_,_,hr=>
  obtain ⟨ha0,ha1⟩:=hr a (by simp)
  obtain ⟨hb0,hb1⟩:=hr b (by simp)
  obtain ⟨hc0,hc1⟩:=hr c (by simp)
  simp only [Ynu,Ysu,Y2v,Nat.reduceAdd,Int.cast_ofNat_Int,k3,q3,o16,d16]
  rw [show Ya (2:Int) 3=true from rfl]
  simp only [Ygu]
  rw [show List.getD [a,b,c] (Int.toNat 2) (Ty.zero (.int .i64))=c from rfl]
  rw [YAg]
  by_cases g:65536<=c
  ·rw [show decide (c>=65536)=true from by simpa using g,Ygu,Yku (.inl g)]
  ·rw [show decide (c>=65536)=false from by simpa using g,Yhu]
   rw [show Yi none (some (2:Int)) 3=true from rfl,Ygu]
   refine (Yi5 s c 2 0 [a,b,c] a rfl (by omega) (by omega) ha0 hc0 hc1).trans ?_
   by_cases d:255 < a
   ·rw [Yku d,Yku (.inr (.inl d))]
   ·rw [Yju d]
    refine (Yi5 s _ 2 1 [a,b,c] b rfl (by omega) (by omega) hb0 (by omega) (by omega)).trans ?_
    by_cases f:255 < b
    ·rw [Yku f,Yku (.inr (.inr f))]
    ·rw [Yju f,Yju (fun h=> h.elim g (fun h=> h.elim d f))]
     exact Yc8 s _ 2 _
 | [a,b,c,x],_,_,hr=>
  obtain ⟨ha0,ha1⟩:=hr a (by simp)
  obtain ⟨hb0,hb1⟩:=hr b (by simp)
  obtain ⟨hc0,hc1⟩:=hr c (by simp)
  obtain ⟨hx0,hx1⟩:=hr x (by simp)
  simp only [Ynu,Ysu,Y2v,Nat.reduceAdd,Int.cast_ofNat_Int,k4,q4,o8,d8]
  rw [show Ya (3:Int) 4=true from rfl]
  simp only [Ygu]
  rw [show List.getD [a,b,c,x] (Int.toNat 3) (Ty.zero (.int .i64))=x from rfl]
  rw [YBg]
  by_cases g:256<=x
  ·rw [show decide (x>=256)=true from by simpa using g,Ygu,Yku (.inl g)]
  ·rw [show decide (x>=256)=false from by simpa using g,Yhu]
   rw [show Yi none (some (3:Int)) 4=true from rfl,Ygu]
   refine (Yi5 s x 3 0 [a,b,c,x] a rfl (by omega) (by omega) ha0 hx0 hx1).trans ?_
   by_cases d:255 < a
   ·rw [Yku d,Yku (.inr (.inl d))]
   ·rw [Yju d]
    refine (Yi5 s _ 3 1 [a,b,c,x] b rfl (by omega) (by omega) hb0 (by omega) (by omega)).trans ?_
    by_cases f:255 < b
    ·rw [Yku f,Yku (.inr (.inr (.inl f)))]
    ·rw [Yju f]
     refine (Yi5 s _ 3 2 [a,b,c,x] c rfl (by omega) (by omega) hc0 (by omega) (by omega)).trans ?_
     by_cases k:255 < c
     ·rw [Yku k,Yku (.inr (.inr (.inr k)))]
     ·rw [Yju k,Yju (fun h=> h.elim g (fun h=> h.elim d (fun h=> h.elim f k)))]
      exact Yc8 s _ 3 _
theorem Yj5 (s:List UInt8) (n:Int) (i:Nat) (r:List Int) (x:Int) (hx:r[i]? =some x) (h:i+1 < r.length) (hhi:r.length<=4) (h0:0<=x) (hn0:0<=n) (hn1:n<=1099511627776):
  Z8 s n (i:Int) r=if 255 < x then some (0,4) else Z8 s (n+x*2 ^ (8*(3 - i))) ((i+1:Nat):Int) r:=by
 have hget:List.getD r (Int.toNat (i:Int)) (Ty.zero (.int .i64))=x:=by
  rw [Ymu,Yvu,hx]; rfl
 have hw:IntKind.i64.wrap ((i:Int)+1)=((i+1:Nat):Int):=by rw [w64 (by omega) (by omega)]; omega
 have hl:IntKind.i64.wrap ((r.length:Int) - 1)=((r.length - 1:Nat):Int):=by rw [w64 (by omega) (by omega)]; omega
 have hsh:IntKind.u64.wrap (IntKind.i64.wrap (8*IntKind.i64.wrap ((3:Int) - (i:Int))))=((8*(3 - i):Nat):Int):=by
  rw [w64 (x:=3 - (i:Int)) (by omega) (by omega),w64 (by omega) (by omega),wu64 (by omega) (by omega)]; omega
 rw [YHc]
 simp only [hl,Yg,Yeu (show i < r.length - 1 by omega),Ygu,Yj,Yeu (show i < r.length by omega),hget,hw,hsh]
 by_cases c:255 < x
 ·rw [show decide (x > 255)=true from by simpa using c,Ygu,Yku c]
 ·rw [show decide (x > 255)=false from by simpa using c,Yhu,Yju c,show decide ((0:Int)<=((8*(3 - i):Nat):Int))=true from by simp; omega,Ygu]
  have h2:x*2 ^ (8*(3 - i))<=255*16777216:=by
   have:i=0\/i=1\/i=2:=by omega
   rcases this with rfl | rfl | rfl <;> simp <;> omega
  have h1:0<=x*2 ^ (8*(3 - i)):=Int.mul_nonneg h0 (Int.le_of_lt (Int.pow_pos (by omega)))
  rw [Yo6 (by omega) (by omega) (by omega),w64 (by omega) (by omega)]
theorem Yg8 (s:List UInt8) (n:Int) (r:List Int) (x lim':Int) (h1:1<=r.length) (h4:r.length<=4) (hx:r[r.length - 1]? =some x) (hlim:lim'=2 ^ (8*(5 - r.length))) (h0:0<=x) (hx1:x<=1099511627776) (hn0:0<=n) (hn1:n<=1099511627776):
  Z8 s n ((r.length - 1:Nat):Int) r=if lim'<=x then some (0,4) else some (IntKind.u32.wrap (n+x),0):=by
 have hget:List.getD r (Int.toNat ((r.length - 1:Nat):Int)) (Ty.zero (.int .i64))=x:=by
  rw [Ymu,Yvu,hx]; rfl
 have hl:IntKind.i64.wrap ((r.length:Int) - 1)=((r.length - 1:Nat):Int):=by rw [w64 (by omega) (by omega)]; omega
 have hsh:IntKind.u64.wrap (IntKind.i64.wrap (8*IntKind.i64.wrap ((5:Int) - (r.length:Int))))=((8*(5 - r.length):Nat):Int):=by
  rw [w64 (x:=5 - (r.length:Int)) (by omega) (by omega),w64 (by omega) (by omega),wu64 (by omega) (by omega)]; omega
 have hone:shl IntKind.i64 1 ((8*(5 - r.length):Nat):Int)=lim':=by
  have:r.length=1\/r.length=2\/r.length=3\/r.length=4:=by omega
  rcases this with e | e | e | e <;> rw [hlim,e] <;> decide
 rw [YHc]
 simp only [hl,Yg,YGu,decide_false,Yhu,Yj,Yeu (show r.length - 1 < r.length by omega),Ygu,hget,hsh,hone]
 rw [show decide ((0:Int)<=((8*(5 - r.length):Nat):Int))=true from by simp; omega,Ygu]
 by_cases c:lim'<=x
 ·rw [show decide (x>=lim')=true from by simpa using c,Ygu,Yku c]
 ·rw [show decide (x>=lim')=false from by simpa using c,Yhu,Yju c,w64 (by omega) (by omega)]
theorem Yes (s:List UInt8) (r:List Int) (h1:1<=r.length) (h4:r.length<=4) (hr:∀ x∈r,0<=x/\x<=1099511627776):Z8 s 0 0 r=some (ip4 r):=by
 match r,h1,h4,hr with
 | [a],_,_,hr=>
  obtain ⟨ha0,ha1⟩:=hr a (by simp)
  rw [Yyg]
  refine (Yg8 s 0 [a] a 4294967296 (by simp) (by simp) rfl (by kernel_rfl) ha0 ha1 (by omega) (by omega)).trans ?_
  split
  ·rfl
  ·rw [Int.zero_add]
 | [a,b],_,_,hr=>
  obtain ⟨ha0,ha1⟩:=hr a (by simp)
  obtain ⟨hb0,hb1⟩:=hr b (by simp)
  rw [Yzg]
  refine (Yj5 s 0 0 [a,b] a rfl (by simp) (by simp) ha0 (by omega) (by omega)).trans ?_
  by_cases d:255 < a
  ·rw [Yku d,Yku (.inr d)]
  ·rw [Yju d]
   refine (Yg8 s (0+a*16777216) [a,b] b 16777216 (by simp) (by simp) rfl (by kernel_rfl) hb0 hb1 (by omega) (by omega)).trans ?_
   by_cases c:16777216<=b
   ·rw [Yku c,Yku (.inl c)]
   ·rw [Yju c,Yju (fun h=> h.elim c d)]
    congr 3; omega
 | [a,b,c],_,_,hr=>
  obtain ⟨ha0,ha1⟩:=hr a (by simp)
  obtain ⟨hb0,hb1⟩:=hr b (by simp)
  obtain ⟨hc0,hc1⟩:=hr c (by simp)
  rw [YAg]
  refine (Yj5 s 0 0 [a,b,c] a rfl (by simp) (by simp) ha0 (by omega) (by omega)).trans ?_
  by_cases d:255 < a
  ·rw [Yku d,Yku (.inr (.inl d))]
  ·rw [Yju d]
   refine (Yj5 s (0+a*16777216) 1 [a,b,c] b rfl (by simp) (by simp) hb0 (by omega) (by omega)).trans ?_
   by_cases f:255 < b
   ·rw [Yku f,Yku (.inr (.inr f))]
   ·rw [Yju f]
    refine (Yg8 s (0+a*16777216+b*65536) [a,b,c] c 65536 (by simp) (by simp) rfl (by kernel_rfl) hc0 hc1 (by omega) (by omega)).trans ?_
    by_cases g:65536<=c
    ·rw [Yku g,Yku (.inl g)]
    ·rw [Yju g,Yju (fun h=> h.elim g (fun h=> h.elim d f))]
     congr 3; omega
 | [a,b,c,x],_,_,hr=>
  obtain ⟨ha0,ha1⟩:=hr a (by simp)
  obtain ⟨hb0,hb1⟩:=hr b (by simp)
  obtain ⟨hc0,hc1⟩:=hr c (by simp)
  obtain ⟨hx0,hx1⟩:=hr x (by simp)
  rw [YBg]
  refine (Yj5 s 0 0 [a,b,c,x] a rfl (by simp) (by simp) ha0 (by omega) (by omega)).trans ?_
  by_cases d:255 < a
  ·rw [Yku d,Yku (.inr (.inl d))]
  ·rw [Yju d]
   refine (Yj5 s (0+a*16777216) 1 [a,b,c,x] b rfl (by simp) (by simp) hb0 (by omega) (by omega)).trans ?_
   by_cases f:255 < b
   ·rw [Yku f,Yku (.inr (.inr (.inl f)))]
   ·rw [Yju f]
    refine (Yj5 s (0+a*16777216+b*65536) 2 [a,b,c,x] c rfl (by simp) (by simp) hc0 (by omega) (by omega)).trans ?_
    by_cases k:255 < c
    ·rw [Yku k,Yku (.inr (.inr (.inr k)))]
    ·rw [Yju k]
     refine (Yg8 s (0+a*16777216+b*65536+c*256) [a,b,c,x] x 256 (by simp) (by simp) rfl (by kernel_rfl) hx0 hx1 (by omega) (by omega)).trans ?_
     by_cases g:256<=x
     ·rw [Yku g,Yku (.inl g)]
     ·rw [Yju g,Yju (fun h=> h.elim g (fun h=> h.elim d (fun h=> h.elim f k)))]
      congr 3; omega
def YQ2:List (List UInt8)->Option (List Int)
 | []=> some []
 | x::l=> if YC1 x < 0 then none else match YQ2 l with
  | some r=> some (YC1 x::r)
  | none=> none
def Y83 (r:List Int):Option (List Int)->Int×Int
 | some l=> ip4 (r++l)
 | none=> (0,54)
theorem Ych (s:List UInt8) (parts:List (List UInt8)) (h4:parts.length<=4) (hp:∀ x∈parts,x.length<=1073741824):∀ (k i:Nat) (r:List Int),i+k=parts.length->r.length=i->(∀ x∈r,0<=x/\x<=1099511627776)->1<=parts.length->
  Z4 s (parts.length:Int) (i:Int) r parts=some (Y83 r (YQ2 (parts.drop i)))
 | 0,i,r,hk,hl,hr,h1=> by
  have hi:i=parts.length:=by omega
  subst hi
  rw [Yds s parts.length parts r (by omega) (by omega) hr]
  simp [YQ2,Y83]
 | k+1,i,r,hk,hl,hr,h1=> by
  have hi:i < parts.length:=by omega
  have hw:IntKind.i64.wrap ((i:Int)+1)=((i+1:Nat):Int):=by rw [w64 (by omega) (by omega)]; omega
  have hget:List.getD parts (Int.toNat (i:Int)) (Ty.zero .str)=parts[i]:=by
   rw [Ymu,Yvu,Ywu hi]; rfl
  rw [Yxc]
  simp only [Yg,hi,decide_true,Ygu,Yj,hget,hw,Yle _ (hp _ (List.getElem_mem hi)),Yiu]
  rw [Yru hi,YQ2]
  by_cases c:YC1 parts[i] < 0
  ·simp [Yz2,c,Y83]
  ·have hb:decide (r.length+[(Yz2 (YC1 parts[i])).1].length<=lim)=true:=by simp [lim]; omega
   have e1:(Yz2 (YC1 parts[i])).2=true:=by simp [Yz2,c]
   have e2:(Yz2 (YC1 parts[i])).1=YC1 parts[i]:=by simp [Yz2,c]
   rw [hb,e1,e2,YEu,Yhu,Ygu,Yju c]
   have hle:=Y3h parts[i]
   rw [Ych s parts h4 hp k (i+1) _ (by omega) (by simp; omega) (by
    intro x hx
    rcases YAu.1 hx with hx | hx
    ·exact hr x hx
    ·have:x=YC1 parts[i]:=by simpa using hx
     subst this; omega) h1]
   cases YQ2 (parts.drop (i+1)) <;> simp [Y83]
theorem Yjh (s:List UInt8) (parts:List (List UInt8)) (h4:parts.length<=4) (hp:∀ x∈parts,x.length<=1073741824):∀ (k i:Nat) (r:List Int),i+k=parts.length->r.length=i->(∀ x∈r,0<=x/\x<=1099511627776)->1<=parts.length->
  Z7 s (i:Int) parts r=some (Y83 r (YQ2 (parts.drop i)))
 | 0,i,r,hk,hl,hr,h1=> by
  have hi:i=parts.length:=by omega
  subst hi
  rw [YGc]
  simp only [Yg,YGu,decide_false,Yhu]
  rw [Yes s r (by omega) (by omega) hr]
  simp [YQ2,Y83]
 | k+1,i,r,hk,hl,hr,h1=> by
  have hi:i < parts.length:=by omega
  have hw:IntKind.i64.wrap ((i:Int)+1)=((i+1:Nat):Int):=by rw [w64 (by omega) (by omega)]; omega
  have hget:List.getD parts (Int.toNat (i:Int)) (Ty.zero .str)=parts[i]:=by
   rw [Ymu,Yvu,Ywu hi]; rfl
  rw [YGc]
  simp only [Yg,hi,decide_true,Ygu,Yj,hget,hw,YOo _ (hp _ (List.getElem_mem hi)),Yiu]
  rw [Yru hi,YQ2]
  by_cases c:YC1 parts[i] < 0
  ·simp [c,Y83]
  ·have hb:decide (r.length+[YC1 parts[i]].length<=lim)=true:=by simp [lim]; omega
   rw [hb,Yfu c,Yhu,Ygu,Yju c]
   have hle:=Y3h parts[i]
   rw [Yjh s parts h4 hp k (i+1) _ (by omega) (by simp; omega) (by
    intro x hx
    rcases YAu.1 hx with hx | hx
    ·exact hr x hx
    ·have:x=YC1 parts[i]:=by simpa using hx
     subst this; omega) h1]
   cases YQ2 (parts.drop (i+1)) <;> simp [Y83]
def ipOf (s:List UInt8):Int×Int:=if 4 < (YX s).length then (0,3) else Y83 [] (YQ2 (YX s))
theorem Yxm (s:List UInt8) (hs:s.length<=1073741823):Yq9 s=some (ipOf s):=by
 rw [Ywm,Ycj,Yme s (by omega)]
 simp only [Yiu]
 unfold ipOf
 by_cases c:4 < (YX s).length
 ·rw [show decide ((((YX s).length:Nat):Int) > 4)=true from by simp; omega,Ygu,Yku c]
 ·rw [show decide ((((YX s).length:Nat):Int) > 4)=false from by simp; omega,Yhu,Yju c]
  exact Ych s (YX s) (by omega) (fun x hx=> by have:=Yjb s x hx; omega) (YX s).length 0 [] (by omega) rfl (fun x hx=> by cases hx) (Yc6 s)
theorem YAo (s:List UInt8) (hs:s.length<=1073741823):YM5 s=some (ipOf s):=by
 rw [Yzo,Ytj,Y5f s (by omega)]
 simp only [Yiu]
 unfold ipOf
 by_cases c:4 < (YX s).length
 ·rw [show decide ((((YX s).length:Nat):Int) > 4)=true from by simp; omega,Ygu,Yku c]
 ·rw [show decide ((((YX s).length:Nat):Int) > 4)=false from by simp; omega,Yhu,Yju c]
  exact Yjh s (YX s) (by omega) (fun x hx=> by have:=Yjb s x hx; omega) (YX s).length 0 [] (by omega) rfl (fun x hx=> by cases hx) (Yc6 s)
end Go.Abs
namespace Go.Abs
theorem YEa (l:List UInt8) (i:Nat):((⟨l.toArray⟩:ByteArray).get! i)=l.getD i 0:=by
 show l.toArray[i]! =_
 simp [Yvu,getElem!_def]
 cases l[i]? <;> rfl
theorem YF7 (s:List UInt8) (i:Nat) (h:(s.getD i 0).toNat < 128):Yx s i=((s.getD i 0).toNat,1):=by
 unfold Yx Utf8.decode
 simp only [Nat.add_zero,YEa]
 rw [Yku h]
theorem YKf (s:List UInt8) (i:Nat) (h:128<=(s.getD i 0).toNat):128<=(Yx s i).1:=by
 unfold Yx Utf8.decode
 simp only [Nat.add_zero,YEa]
 rw [Yju (by omega)]
 have hr:Utf8.runeError=65533:=rfl
 split
 ·split <;> simp only <;> omega
 ·split
  ·split
   ·rename_i h1; simp only [Ylu,Yxu] at h1; simp only; omega
   ·simp only; omega
  ·split
   ·split
    ·rename_i h1; simp only [Ylu,Yxu] at h1; simp only; omega
    ·simp only; omega
   ·simp only; omega
def YI (of:List UInt8) (c:Int):Bool:=of.any fun b=> c==Y9 b
theorem Yab (s of t:List UInt8) (i c:Int) (n:Nat) (hof:∀ b∈of,b.toNat < 128):∀ (k j:Nat) (fl:Bool),j+k=of.length->
  Zm1 s of i c fl t n of j=Zm1 s of i c (fl||YI (of.drop j) c) t n of of.length
 | 0,j,fl,hk=> by
  have:j=of.length:=by omega
  subst this
  simp [YI]
 | k+1,j,fl,hk=> by
  have hj:j < of.length:=by omega
  have hget:of.getD j 0=of[j]:=by rw [Yvu,Ywu hj]; rfl
  have hd:Yx of j=(of[j].toNat,1):=by
   rw [YF7 of j (by rw [hget]; exact hof _ (List.getElem_mem hj)),hget]
  rw [Yld]
  simp only [Yeu hj,Ygu,hd]
  rw [Yru hj]
  cases fl with
  | true=>
   rw [Ygu,Yab s of t i c n hof k (j+1) true (by omega)]
   simp
  | false=>
   rw [Yhu,Yab s of t i c n hof k (j+1) _ (by omega)]
   rfl
theorem Ybb (s of:List UInt8) (c w:Int) (hof:∀ b∈of,b.toNat < 128):∀ (k j:Nat) (fl:Bool),j+k=of.length->
  Zp1 s of c w fl of j=Zp1 s of c w (fl||YI (of.drop j) c) of of.length
 | 0,j,fl,hk=> by
  have:j=of.length:=by omega
  subst this
  simp [YI]
 | k+1,j,fl,hk=> by
  have hj:j < of.length:=by omega
  have hget:of.getD j 0=of[j]:=by rw [Yvu,Ywu hj]; rfl
  have hd:Yx of j=(of[j].toNat,1):=by
   rw [YF7 of j (by rw [hget]; exact hof _ (List.getElem_mem hj)),hget]
  rw [Yrd]
  simp only [Yeu hj,Ygu,hd]
  rw [Yru hj]
  cases fl with
  | true=>
   rw [Ygu,Ybb s of c w hof k (j+1) true (by omega)]
   simp
  | false=>
   rw [Yhu,Ybb s of c w hof k (j+1) _ (by omega)]
   rfl
theorem YR7 (of:List UInt8) (hof:∀ b∈of,b.toNat < 128) (c:Int) (h:128<=c):YI of c=false:=by
 unfold YI
 rw [List.any_eq_false]
 intro b hb
 have:=hof b hb
 simp only [Y9,Y7v]
 omega
theorem Ydh (s of:List UInt8) (hof:∀ b∈of,b.toNat < 128) (hs:s.length<=1073741824):∀ (k n:Nat),n+k=s.length->
  Zl1 s of s n=some ((s.drop n).dropWhile fun b=> YI of (Y9 b))
 | 0,n,hk=> by
  have:n=s.length:=by omega
  subst this
  rw [Yhd]; simp
 | k+1,n,hk=> by
  have hn:n < s.length:=by omega
  have hget:s.getD n 0=s[n]:=by rw [Yvu,Ywu hn]; rfl
  rw [Yhd,Yeu hn,Ygu,Yab s of s _ _ _ hof of.length 0 false (by omega),YZu,YCu,Yld]
  rw [show decide (of.length < of.length)=false from by simp,Yhu,Yru hn]
  by_cases ha:s[n].toNat < 128
  ·have hd:=YF7 s n (by rw [hget]; exact ha)
   rw [hget] at hd
   rw [hd]
   show (bif !(YI of (Y9 s[n])) then _ else _)=_
   rw [List.dropWhile_cons]
   cases hin:YI of (Y9 s[n]) with
   | true=>
    rw [Yku rfl]
    exact Ydh s of hof hs k (n+1) (by omega)
   | false=>
    rw [YFu,Ygu,Yi1 (by omega),Ygu,YR1,Yju (by simp),Yru hn]
  ·have hd:=YKf s n (by rw [hget]; omega)
   have h1:YI of (((Yx s n).1:Nat):Int)=false:=YR7 of hof _ (by omega)
   have h2:YI of (Y9 s[n])=false:=YR7 of hof _ (by unfold Y9; omega)
   rw [h1,YFu,Ygu,Yi1 (by omega),Ygu,YR1,List.dropWhile_cons,h2,Yju (by simp),Yru hn]
theorem YLm (s of:List UInt8) (hof:∀ b∈of,b.toNat < 128) (hs:s.length<=1073741824):Yv9 (s,of)=some (s.dropWhile fun b=> YI of (Y9 b)):=by
 rw [YKm,Yuk]
 exact Ydh s of hof hs s.length 0 (by omega)
theorem Yhr (l:List UInt8) (b:UInt8) (h:128<=b.toNat):128<=(Lib.decodeLastL (l++[b])).1:=by
 unfold Lib.decodeLastL
 have hr:Utf8.runeError=65533:=rfl
 have hlast:(l++[b]).getD ((l++[b]).length - 1) 0=b:=by simp
 rw [Yju (by simp),hlast,Yju (by omega)]
 simp only
 split
 ·rename_i hd
  generalize Lib.lastStart (l++[b])=st at hd ⊢
  unfold Lib.decodeL at hd ⊢
  rcases Nat.lt_or_ge (((l++[b]).drop st).getD 0 0).toNat 128 with hlt | hge
  ·have e:=YF7 ((l++[b]).drop st) 0 hlt
   unfold Yx at e
   rw [e] at hd
   simp only [You,Ynu,Ysu] at hd
   have hst:st=l.length:=by omega
   subst hst
   simp at hlt
   omega
  ·exact YKf ((l++[b]).drop st) 0 hge
 ·simp only; omega
theorem Yeh (of:List UInt8) (hof:∀ b∈of,b.toNat < 128):∀ (k:Nat) (s:List UInt8),s.length=k->s.length<=1073741824->∃ r,Zo1 s of=some r/\(r=[]↔s.all (fun b=> YI of (Y9 b))=true)
 | 0,s,hk,hs=> by
  have:s=[]:=YRu hk
  subst this
  exact ⟨[],by rw [Yod]; rfl,by simp⟩
 | k+1,s,hk,hs=> by
  obtain ⟨l,b,rfl⟩:∃ l b,s=l++[b]:=by
   have hne:s≠[]:=by intro e; rw [e] at hk; cases hk
   exact ⟨s.dropLast,s.getLast hne,(List.dropLast_concat_getLast hne).symm⟩
  have hl:l.length=k:=by simpa using hk
  rw [Yod,show decide ((((l++[b]).length:Nat):Int) > 0)=true from by simp,Ygu,Ymp]
  rw [Yv4,show decide ((l++[b]).length<=9223372036854775807)=true from Yeu (by omega),Ygu,Yiu]
  rw [Ybb _ of _ _ hof of.length 0 false (by omega),YZu,YCu,Yrd,show decide (of.length < of.length)=false from by simp,Yhu]
  by_cases ha:b.toNat < 128
  ·have hd:Lib.decodeLastL (l++[b])=(b.toNat,1):=by
    unfold Lib.decodeLastL
    have hlast:(l++[b]).getD ((l++[b]).length - 1) 0=b:=by simp
    rw [Yju (by simp),hlast,Yku ha]
   rw [hd]
   show ∃ r,(bif !(YI of (Y9 b)) then _ else _)=some r/\_
   cases hin:YI of (Y9 b) with
   | false=>
    exact ⟨l++[b],rfl,by simp [hin]⟩
   | true=>
    have hw:IntKind.i64.wrap ((((l++[b]).length:Nat):Int) - ((1:Nat):Int))=((l.length:Nat):Int):=by
     simp only [You,Ynu,Ysu]
     rw [w64 (by omega) (by omega)]; omega
    rw [YEu,Yhu,hw]
    have hc:Yi none (some ((l.length:Nat):Int)) (l++[b]).length=true:=by simp [Yi]; omega
    have hcl:Ym none (some ((l.length:Nat):Int)) (l++[b])=l:=by simp [Ym]
    rw [hc,Ygu,hcl]
    obtain ⟨r,h1,h2⟩:=Yeh of hof k l hl (by simp at hs; omega)
    exact ⟨r,h1,by rw [h2]; simp [hin]⟩
  ·have h1:=Yhr l b (by omega)
   have h2:YI of (((Lib.decodeLastL (l++[b])).1:Nat):Int)=false:=YR7 of hof _ (by omega)
   have h3:YI of (Y9 b)=false:=YR7 of hof _ (by unfold Y9; omega)
   rw [h2]
   exact ⟨l++[b],rfl,by simp [h3]⟩
theorem YT6 (s of:List UInt8) (hof:∀ b∈of,b.toNat < 128) (hs:s.length<=1073741824):YI4 (s,of)=some (s.all fun b=> YI of (Y9 b)):=by
 rw [YGm,Y2j,YLm s of hof hs]
 simp only [Yiu]
 have hle:(s.dropWhile fun b=> YI of (Y9 b)).length<=s.length:=by
  exact (List.dropWhile_suffix _).length_le
 rw [YMm,YMk]
 obtain ⟨r,h1,h2⟩:=Yeh of hof _ (s.dropWhile fun b=> YI of (Y9 b)) rfl (by omega)
 rw [h1]
 simp only [Yiu]
 have key:(r=[])↔s.all (fun b=> YI of (Y9 b))=true:=by
  rw [h2]
  clear h1 h2 hle hs
  induction s with
  | nil=> simp
  | cons b l ih=>
   rw [List.dropWhile_cons]
   split
   ·rename_i h; rw [ih,List.all_cons,h,Y5v]
   ·rename_i h; simp [h]
 cases hr:(r==[]) with
 | true=>
  have:r=[]:=by simpa using hr
  rw [key.1 this]
 | false=>
  have:¬(r=[]):=by simpa using hr
  cases ha:s.all (fun b=> YI of (Y9 b)) with
  | true=> exact absurd (key.2 ha) this
  | false=> rfl
end Go.Abs
namespace Go.Abs
def digs:List UInt8:=[48,49,50,51,52,53,54,55,56,57]
def YB (b:UInt8):Bool:=decide (48<=Y9 b/\Y9 b<=57)
theorem Yyr:(List.range 256).all (fun n=> (YI hexs (Y9 (lowB (UInt8.ofNat n)))==decide (0<=nib (Y9 (UInt8.ofNat n))))&&((YI digs (Y9 (lowB (UInt8.ofNat n)))==YB (UInt8.ofNat n))&&
  (((lowB (UInt8.ofNat n)==48)==(Y9 (UInt8.ofNat n)==48))&&(((lowB (UInt8.ofNat n)==120)==isX (UInt8.ofNat n))&&(!(isX (UInt8.ofNat n)&&YB (UInt8.ofNat n)))))))=true:=by kernel_rfl
theorem Y18 (b:UInt8):YI hexs (Y9 (lowB b))=decide (0<=nib (Y9 b))/\YI digs (Y9 (lowB b))=YB b/\(lowB b==48)=(Y9 b==48)/\(lowB b==120)=isX b/\(isX b&&YB b)=false:=by
 refine YP6 (p:=fun b=> YI hexs (Y9 (lowB b))=decide (0<=nib (Y9 b))/\YI digs (Y9 (lowB b))=YB b/\(lowB b==48)=(Y9 b==48)/\(lowB b==120)=isX b/\(isX b&&YB b)=false) (fun n hn=> ?_) b
 have:=Y3v.1 Yyr n (List.mem_range.2 hn)
 simp only [Ylu,YXu,Y7v] at this
 exact ⟨this.1,this.2.1,this.2.2.1,this.2.2.2.1,this.2.2.2.2⟩
def YY4 (x:List UInt8):Bool:=match x with
 | a::b::l=> if Y9 a=48/\isX b=true then l.all fun b=> decide (0<=nib (Y9 b)) else (a::b::l).all YB
 | [a]=> YB a
 | []=> false
theorem Yfb (s x:List UInt8) (hx:x.length<=1073741824) (al:Bool):∀ (k i:Nat) (hex:Bool),i+k=x.length->
  Zi s x al hex (i:Int)=some (al||(hex&&(x.drop i).all fun b=> decide (0<=nib (Y9 b))))
 | 0,i,hex,hk=> by
  have:i=x.length:=by omega
  subst this
  rw [YI6]
  simp only [Yg,YGu,decide_false,Yhu,YUu,List.all_nil,Bool.and_true]
  cases al <;> rfl
 | k+1,i,hex,hk=> by
  have hi:i < x.length:=by omega
  have hw:IntKind.i64.wrap ((i:Int)+1)=((i+1:Nat):Int):=by rw [w64 (by omega) (by omega)]; omega
  have hget:x.getD (Int.toNat (i:Int)) 0=x[i]:=by
   rw [Ymu,Yvu,Ywu hi]; rfl
  have hb:=YK2 x[i]
  rw [YI6]
  simp only [Yg,hi,decide_true,Ygu,Yj,hget,hw]
  rw [Yru hi,List.all_cons]
  cases hex with
  | true=>
   rw [Ygu,show ((x[i].toNat:Nat):Int)=Y9 x[i] from rfl,YH9 _ hb.1 hb.2]
   simp only [Yiu]
   rw [Yfb s x hx al k (i+1) _ (by omega)]
   rfl
  | false=>
   rw [Yhu,Yfb s x hx al k (i+1) _ (by omega)]
   rfl
def YP7 (x:List UInt8):Bool:=match x with
 | a::b::_=> decide (Y9 a=48)&&isX b
 | _=> false
theorem YGa (a b:UInt8) (l:List UInt8):YP7 (a::b::l)=(decide (Y9 a=48)&&isX b):=rfl
theorem Ydq (a b:UInt8) (l:List UInt8):YY4 (a::b::l)=if Y9 a=48/\isX b=true then l.all (fun b=> decide (0<=nib (Y9 b))) else (a::b::l).all YB:=rfl
theorem Yf8 (s x:List UInt8) (hx:x.length<=1073741824):∀ (k i:Nat) (al:Bool),i+k=x.length->
  Zh s x al (i:Int)=some ((al&&(x.drop i).all YB)||(YP7 x&&(x.drop 2).all fun b=> decide (0<=nib (Y9 b))))
 | 0,i,al,hk=> by
  have:i=x.length:=by omega
  subst this
  rw [Ycd]
  simp only [Yg,YGu,decide_false,Yhu,YUu,List.all_nil,Bool.and_true]
  match x,hx with
  | [],_=>
   rw [show decide (((([]:List UInt8).length:Nat):Int)>=2)=false from rfl,Yhu,YI6]
   cases al <;> rfl
  | [a],_=>
   rw [YCa,Yhu,YI6]
   cases al <;> rfl
  | a::b::l,hx=>
   rw [YDa,Ygu,Y65,Ygu,get0]
   have v:=fun hex=> Yfb s (a::b::l) hx al l.length 2 hex (by simp; omega)
   rw [show ((2:Nat):Int)=2 from rfl] at v
   simp only [YIa,Ygu,get1,v]
   by_cases h48:Y9 a=48
   ·rw [show (Y9 a==48)=true from by simpa using h48,Ygu]
    rw [YGa,Yeu h48]
    by_cases hxx:Y9 b=120
    ·rw [show (Y9 b==120)=true from by simpa using hxx,Ygu,show isX b=true from by simp [isX,hxx]]; simp
    ·rw [show (Y9 b==120)=false from by simpa using hxx,Yhu,show isX b=(Y9 b==88) from by simp [isX,hxx],Y5v]
   ·rw [show (Y9 a==48)=false from by simpa using h48,Yhu]
    rw [YGa,Yfu h48]; simp
 | k+1,i,al,hk=> by
  have hi:i < x.length:=by omega
  have hw:IntKind.i64.wrap ((i:Int)+1)=((i+1:Nat):Int):=by rw [w64 (by omega) (by omega)]; omega
  have hget:x.getD (Int.toNat (i:Int)) 0=x[i]:=by
   rw [Ymu,Yvu,Ywu hi]; rfl
  rw [Ycd]
  simp only [Yg,hi,decide_true,Ygu,Yj,hget,hw]
  rw [Yru hi,List.all_cons,show ((x[i].toNat:Nat):Int)=Y9 x[i] from rfl]
  cases al with
  | true=>
   rw [Ygu]
   by_cases c:(48:Int)<=Y9 x[i]
   ·rw [show decide (Y9 x[i]>=48)=true from by simpa using c,Ygu,Yf8 s x hx k (i+1) _ (by omega)]
    have:YB x[i]=decide (Y9 x[i]<=57):=by simp [YB,c]
    rw [this,Y5v]
   ·rw [show decide (Y9 x[i]>=48)=false from by simpa using c,Yhu,Yf8 s x hx k (i+1) _ (by omega)]
    have:YB x[i]=false:=by simp [YB]; omega
    rw [this]; rfl
  | false=>
   rw [Yhu,Yf8 s x hx k (i+1) _ (by omega)]
   rfl
theorem Yeq (x:List UInt8):(((!(x==[]))&&x.all YB)||(YP7 x&&(x.drop 2).all fun b=> decide (0<=nib (Y9 b))))=YY4 x:=by
 match x with
 | []=> rfl
 | [a]=> simp [YY4,YP7]
 | a::b::l=>
  rw [YGa,Ydq]
  by_cases h:Y9 a=48/\isX b=true
  ·rw [Yku h,Yeu h.1,h.2]
   have hd:YB b=false:=by
    have:=(Y18 b).2.2.2.2
    rw [h.2,Y5v] at this; exact this
   simp [hd]
  ·rw [Yju h]
   have:(decide (Y9 a=48)&&isX b)=false:=by
    cases hx:isX b with
    | false=> simp
    | true=> simp; intro e; exact h ⟨e,hx⟩
   rw [this,Bool.false_and,Bool.or_false]
   rfl
theorem YLg (l:List (List UInt8)) (h1:1<=l.length) (h2:l.length<=1073741825):IntKind.i64.wrap ((l.length:Int) - 1)=((l.length - 1:Nat):Int):=by rw [w64 (by omega) (by omega)]; omega
def YG3 (s:List UInt8):List UInt8:=(YX s).getD ((YX s).length - 1) []
theorem YJg (s:List UInt8):(YG3 s).length<=s.length:=by
 unfold YG3
 have h1:=Yc6 s
 rw [Yvu,Ywu (by omega)]
 exact Yjb s _ (List.getElem_mem _)
def Y53 (s:List UInt8):Bool:=if s=[] then false else YY4 (YG3 s)
theorem Yyo (s:List UInt8) (hs:s.length<=1073741823):YL5 s=some (Y53 s):=by
 rw [Yxo,Ydk]
 unfold Y53
 by_cases h:s=[]
 ·subst h; rfl
 ·rw [show (s==([]:List UInt8))=false from by simpa using h,Yhu,Yju h,Y5f s (by omega)]
  simp only [Yiu]
  have h1:=Yc6 s
  have h2:=Yth s
  rw [YLg _ h1 (by omega),Yj,Yeu (by omega:(YX s).length - 1 < (YX s).length),Ygu,Ymu]
  have hl:=YJg s
  have:=Yf8 s (YG3 s) (by omega) (YG3 s).length 0 (!(YG3 s==[])) (by omega)
  refine this.trans ?_
  rw [YZu,Yeq]
theorem YNq:∀ b∈hexs,b.toNat < 128:=by decide
theorem Yra:∀ b∈digs,b.toNat < 128:=by decide
theorem Y79 (x:List UInt8):((x.map lowB).all fun b=> YI hexs (Y9 b))=(x.all fun b=> decide (0<=nib (Y9 b)))/\((x.map lowB).all fun b=> YI digs (Y9 b))=x.all YB:=by
 induction x with
 | nil=> exact ⟨rfl,rfl⟩
 | cons b l ih=>
  obtain ⟨f1,f2,_⟩:=Y18 b
  simp only [YBu,List.all_cons,f1,f2,ih.1,ih.2,and_self]
theorem Ybf (y p:List UInt8) (hy:y.length<=1073741824) (hp:p.length<=1073741824):YO4 (y,p)=some (decide (p.length<=y.length)&&(y.take p.length==p)):=by
 rw [Y7p,YWi,YYm,Ypk]
 by_cases h:p.length<=y.length
 ·rw [show decide (((y.length:Nat):Int)>=((p.length:Nat):Int))=true from by simp; omega,Ygu]
  have hc:Yi none (some ((p.length:Nat):Int)) y.length=true:=by simp [Yi]; omega
  rw [hc,Ygu,Yeu h,Y5v]
  have:Ym none (some ((p.length:Nat):Int)) y=y.take p.length:=by simp [Ym]
  rw [this]; rfl
 ·rw [show decide (((y.length:Nat):Int)>=((p.length:Nat):Int))=false from by simp; omega,Yhu,Yfu h]; rfl
theorem Yvm (s:List UInt8) (hs:s.length<=1073741823):Yp9 s=some (Y53 s):=by
 rw [Yum,Yak]
 unfold Y53
 by_cases h:s=[]
 ·subst h; rfl
 ·rw [show (s==([]:List UInt8))=false from by simpa using h,Yhu,Yju h,Yme s (by omega)]
  simp only [Yiu]
  have h1:=Yc6 s
  have h2:=Yth s
  rw [YLg _ h1 (by omega),Yj,Yeu (by omega:(YX s).length - 1 < (YX s).length),Ygu,Ymu]
  have hl:=YJg s
  rw [show List.getD (YX s) ((YX s).length - 1) (Ty.zero .str)=YG3 s from rfl,YK4 _ (by omega)]
  simp only [Yiu]
  generalize YG3 s=x at hl ⊢
  have hx:x.length<=1073741823:=by omega
  rw [Ybf _ _ (by simp; omega) (by simp)]
  simp only [Yiu]
  match x,hx with
  | [],_=> rfl
  | [a],hx=>
   rw [show (decide (([48,120]:List UInt8).length<=([a].map lowB).length)&&(([a].map lowB).take ([48,120]:List UInt8).length==[48,120]))=false from rfl,Yhu]
   rw [show (!(([a].map lowB)==([]:List UInt8)))=true from rfl,Ygu]
   have:=YT6 ([a].map lowB) digs Yra (by simp)
   rw [show ([48,49,50,51,52,53,54,55,56,57]:List UInt8)=digs from rfl,this,(Y79 [a]).2]
   simp [YY4]
  | a::b::l,hx=>
   have e1:(decide (([48,120]:List UInt8).length<=((a::b::l).map lowB).length)&&(((a::b::l).map lowB).take ([48,120]:List UInt8).length==[48,120]))=((Y9 a==48)&&isX b):=by
    obtain ⟨_,_,f3,_,_⟩:=Y18 a
    obtain ⟨_,_,_,f4,_⟩:=Y18 b
    rw [<-f3,<-f4]
    rw [show decide (([48,120]:List UInt8).length<=((a::b::l).map lowB).length)=true from by simp,Y5v]
    rw [show ((a::b::l).map lowB).take ([48,120]:List UInt8).length=[lowB a,lowB b] from rfl]
    simp
   rw [e1]
   have e2:YY4 (a::b::l)=if Y9 a=48/\isX b=true then l.all (fun b=> decide (0<=nib (Y9 b))) else (a::b::l).all YB:=rfl
   rw [e2]
   by_cases c:Y9 a=48/\isX b=true
   ·rw [Yku c,show ((Y9 a==48)&&isX b)=true from by simp [c.1,c.2],Ygu]
    rw [show Yi (some (2:Int)) none ((a::b::l).map lowB).length=true from Yi1 (f:=2) (by simp),Ygu]
    rw [show Ym (some (2:Int)) none ((a::b::l).map lowB)=l.map lowB from YR1 2 _]
    have:=YT6 (l.map lowB) hexs YNq (by simp at hx ⊢; omega)
    rw [show ([48,49,50,51,52,53,54,55,56,57,97,98,99,100,101,102]:List UInt8)=hexs from rfl,this,(Y79 l).1]
    rfl
   ·rw [Yju c,show ((Y9 a==48)&&isX b)=false from by
     cases hb:isX b with
     | false=> simp
     | true=> simp; intro e; exact c ⟨e,hb⟩,Yhu]
    rw [show (!(((a::b::l).map lowB)==([]:List UInt8)))=true from rfl,Ygu]
    have:=YT6 ((a::b::l).map lowB) digs Yra (by simp at hx ⊢; omega)
    rw [show ([48,49,50,51,52,53,54,55,56,57]:List UInt8)=digs from rfl,this,(Y79 (a::b::l)).2]
    rfl
end Go.Abs
