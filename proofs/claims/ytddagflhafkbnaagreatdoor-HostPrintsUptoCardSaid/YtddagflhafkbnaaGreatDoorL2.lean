/- Part L2 of the proof: see the last text of the claim. No condition of its own. -/
import Derived.Test.YtddagflhafkbnaaGreatDoorL1
set_option linter.all false
set_option autoImplicit false
namespace Go.Abs
theorem pre1 (c b:UInt8) (l:List UInt8):([c]:List UInt8).isPrefixOf (b::l)=(c==b):=by simp [List.isPrefixOf]
theorem YNg (c:UInt8):∀ x:List UInt8,decide (Lib.index x [c]>=0)=x.any (fun b=> b==c)
 | []=> rfl
 | b::l=> by
  have ih:=YNg c l
  have hge:=Lib.index_ge l [c]
  rw [Lib.index,pre1,List.any_cons,<-ih]
  by_cases h:c=b
  ·subst h; simp
  ·have h1:(c==b)=false:=by simpa using h
   have h2:(b==c)=false:=by simpa using fun e=> h e.symm
   rw [h1,h2,Yau (by simp),Ytu]
   by_cases h3:Lib.index l [c]=-1
   ·rw [h3]; rfl
   ·rw [Yau (by simpa using h3)]
    rw [Y5u (by omega:Lib.index l [c]>=0),Y5u (by omega:Lib.index l [c]+1>=0)]
def Y03 (x:List UInt8):Bool:=x.any fun b=> b==46
theorem Y6p (x:List UInt8) (hx:x.length<=1073741824):Y3a (x,[46])=some (Y03 x):=by
 rw [Y5p,Y7k,Yep,Yk2]
 rw [show decide (x.length < 4294967281)=true from Y5u (by omega),Y7u,Y9u,YNg]
 rfl
theorem Yyh (x:List UInt8) (hx:x.length<=1073741824):∀ (k i:Nat),i+k=x.length->Zf1 x 46 (i:Int)=some (Y03 (x.drop i))
 | 0,i,hk=> by
  have:i=x.length:=by omega
  subst this
  rw [Yw6]; simp [Y03]
 | k+1,i,hk=> by
  have hi:i < x.length:=by omega
  have hw:IntKind.i64.wrap ((i:Int)+1)=((i+1:Nat):Int):=by rw [w64 (by omega) (by omega)]; omega
  have hget:x.getD (Int.toNat (i:Int)) 0=x[i]:=by
   rw [Ydu,Ymu,Ynu hi]; rfl
  rw [Yw6]
  simp only [Yg,hi,decide_true,Y7u,Yj,hget,hw]
  rw [Yiu hi,Yyh x hx k (i+1) (by omega)]
  by_cases h:x[i]=46
  ·rw [h]; simp [Y03]
  ·have:(((x[i].toNat:Nat):Int)==46)=false:=by
    have:x[i].toNat≠46:=fun e=> h (UInt8.toNat_inj.1 e)
    simp; omega
   rw [this,Y8u]
   have h2:(x[i]==46)=false:=by simpa using h
   simp only [Y03,List.any_cons,h2,Ytu]
theorem YNn (x:List UInt8) (hx:x.length<=1073741824):YD5 (x,46)=some (Y03 x):=by
 rw [YXe,YZc]
 exact Yyh x hx x.length 0 (by omega)
def Ye2:Int->List UInt8->Int
 | n,[]=> n
 | n,b::l=> Ye2 (n*10+(Y8 b - 48)) l
def dec3 (x:List UInt8):Option Int:=
 if x.length < 1\/3 < x.length then none else if x.all YB=true then (if x.getD 0 0=48/\1 < x.length then none else if 255 < Ye2 0 x then none else some (Ye2 0 x)) else none
theorem Yne (b:UInt8):(((b.toNat:Nat):Int)==48)=decide (b=48):=by
 by_cases h:b=48
 ·subst h; rfl
 ·have:b.toNat≠48:=fun e=> h (UInt8.toNat_inj.1 e)
  rw [Y6u h]; simp; omega
theorem YWg (b:UInt8) (h:YB b=true):48<=Y8 b/\Y8 b<=57:=by simpa [YB] using h
theorem YGh (x:List UInt8) (h3:x.length<=3):∀ (k i:Nat) (n:Int),i+k=x.length->0<=n->n < 10 ^ i->
  Zh1 x n (i:Int)=some (if (x.drop i).all YB=true then (if 255 < Ye2 n (x.drop i) then -1 else Ye2 n (x.drop i)) else -1)
 | 0,i,n,hk,h0,h1=> by
  have:i=x.length:=by omega
  subst this
  rw [Y5d]
  simp only [Yg,Yxu,decide_false,Y8u,List.drop_length,List.all_nil,if_true,Ye2]
  by_cases c:255 < n
  ·rw [show decide (n > 255)=true from by simpa using c,Y7u,Ybu c]
  ·rw [show decide (n > 255)=false from by simpa using c,Y8u,Yau c]
 | k+1,i,n,hk,h0,h1=> by
  have hi:i < x.length:=by omega
  have hw:IntKind.i64.wrap ((i:Int)+1)=((i+1:Nat):Int):=by rw [w64 (by omega) (by omega)]; omega
  have hget:x.getD (Int.toNat (i:Int)) 0=x[i]:=by
   rw [Ydu,Ymu,Ynu hi]; rfl
  have hb:=YI2 x[i]
  have hn:n < 1000:=by
   have:i=0\/i=1\/i=2:=by omega
   rcases this with rfl | rfl | rfl <;> simp at h1 <;> omega
  rw [Y5d]
  simp only [Yg,hi,decide_true,Y7u,Yj,hget,hw]
  rw [show ((x[i].toNat:Nat):Int)=Y8 x[i] from rfl,Yiu hi,List.all_cons]
  by_cases a:Y8 x[i] < 48
  ·rw [Y5u a,Y7u]
   have:YB x[i]=false:=by simp [YB]; omega
   simp [this]
  ·rw [Y6u a,Y8u]
   by_cases c:Y8 x[i] > 57
   ·rw [Y5u c,Y7u]
    have:YB x[i]=false:=by simp [YB]; omega
    simp [this]
   ·rw [Y6u c,Y8u]
    have hd:YB x[i]=true:=by simp [YB]; omega
    rw [w64 (x:=n*10) (by omega) (by omega),w8 (x:=Y8 x[i] - 48) (by omega) (by omega),w64 (x:=Y8 x[i] - 48) (by omega) (by omega),w64 (by omega) (by omega)]
    rw [YGh x h3 k (i+1) _ (by omega) (by omega) (by rw [Int.pow_succ]; omega),hd,Bool.true_and]
    rfl
def Y1s:Option Int->Int
 | some v=> v
 | none=> -1
theorem YZo (x:List UInt8):Y0a x=some (Y1s (dec3 x)):=by
 rw [YYo,Yvk]
 unfold dec3
 by_cases h0:x.length < 1\/3 < x.length
 ·rw [Ybu h0]
  by_cases a:x.length < 1
  ·have:x=[]:=List.eq_nil_of_length_eq_zero (by omega)
   subst this; rfl
  ·rw [show (((x.length:Nat):Int)==0)=false from Yhu.2 (by omega),Y8u,show decide (((x.length:Nat):Int) > 3)=true from Y5u (by omega),Y7u]; rfl
 ·rw [Yau h0,show (((x.length:Nat):Int)==0)=false from Yhu.2 (by omega),Y8u,show decide (((x.length:Nat):Int) > 3)=false from Y6u (by omega),Y8u]
  rw [show Ya (0:Int) x.length=true from by rw [show (0:Int)=((0:Nat):Int) from rfl,Yj]; exact Y5u (by omega),Y7u]
  have loop:=YGh x (by omega) x.length 0 0 (by omega) (by omega) (by simp)
  rw [show ((0:Nat):Int)=0 from rfl,List.drop_zero] at loop
  rw [Yne,show Int.toNat (0:Int)=0 from rfl,loop]
  cases hd:x.all YB with
  | false=>
   rw [Yau (by simp),Yau (by simp)]
   by_cases c:x.getD 0 0=48
   ·rw [Y5u c,Y7u]
    cases decide (((x.length:Nat):Int) > 1) <;> rfl
   ·rw [Y6u c]; rfl
  | true=>
   rw [Ybu rfl,Ybu rfl]
   by_cases c:x.getD 0 0=48
   ·rw [Y5u c,Y7u]
    by_cases d:1 < x.length
    ·rw [show decide (((x.length:Nat):Int) > 1)=true from by simp; omega,Y7u,Ybu (show x.getD 0 0=48/\1 < x.length from ⟨c,d⟩)]
     rfl
    ·rw [show decide (((x.length:Nat):Int) > 1)=false from by simp; omega,Y8u,Yau (show ¬(x.getD 0 0=48/\1 < x.length) from fun h=> d h.2)]
     split <;> rfl
   ·rw [Y6u c,Y8u,Yau (show ¬(x.getD 0 0=48/\1 < x.length) from fun h=> c h.1)]
    split <;> rfl
end Go.Abs
namespace Go.Abs
theorem w16 {x:Int} (h1:0<=x) (h2:x<=65535):IntKind.u16.wrap x=x:=by
 change (if (false&&decide (x % (65536:Int)>=(32768:Int)))=true then x % (65536:Int) - (65536:Int) else x % (65536:Int))=x
 rw [Yau (by simp)]; omega
theorem Y5q:(List.range 256).all (fun n=> YI digs (Y8 (UInt8.ofNat n))==YB (UInt8.ofNat n))=true:=by kernel_rfl
theorem Y6q (b:UInt8):YI digs (Y8 b)=YB b:=by
 refine YE6 (p:=fun b=> YI digs (Y8 b)=YB b) (fun n hn=> ?_) b
 have:=List.all_eq_true.1 Y5q n (List.mem_range.2 hn)
 simpa using this
theorem Y4m (x:List UInt8) (hx:x.length<=1073741824):YC4 (x,[48,49,50,51,52,53,54,55,56,57])=some (x.all YB):=by
 rw [show ([48,49,50,51,52,53,54,55,56,57]:List UInt8)=digs from rfl,YH6 x digs Yma hx]
 congr 2
 funext b
 exact Y6q b
theorem YZf:∀ (x:List UInt8) (n:Int),0<=n->x.all YB=true->0<=Ye2 n x
 | [],n,h,_=> h
 | b::l,n,h,hd=> by
  rw [List.all_cons,Ycu] at hd
  have:=YWg b hd.1
  exact YZf l _ (by omega) hd.2
theorem YY2 {x:List UInt8} {v:Int} (h:dec3 x=some v):1<=x.length/\x.length<=3/\x.all YB=true/\¬(x.getD 0 0=48/\1 < x.length)/\v=Ye2 0 x/\0<=v/\v<=255:=by
 unfold dec3 at h
 split at h
 ·cases h
 ·split at h
  ·split at h
   ·cases h
   ·split at h
    ·cases h
    ·rename_i h1 h2 h3 h4
     have:=Option.some.inj h
     have:=YZf x 0 (by omega) h2
     exact ⟨by omega,by omega,h2,h3,by omega,by omega,by omega⟩
  ·cases h
theorem Yoh {a b:Int} (ha:0<=a/\a<=255) (hb:0<=b/\b<=255):bits Go.BinOp.or IntKind.u16 (a*256) b=a*256+b:=by
 obtain ⟨m,rfl⟩:=Int.eq_ofNat_of_zero_le ha.1
 obtain ⟨n,rfl⟩:=Int.eq_ofNat_of_zero_le hb.1
 have e1:(BitVec.ofInt 16 ((m:Int)*256)).toNat=m*2 ^ 8:=by
  rw [BitVec.toNat_ofInt]; omega
 have e2:(BitVec.ofInt 16 (n:Int)).toNat=n:=by
  rw [BitVec.toNat_ofInt]; omega
 have e:(BitVec.ofInt 16 ((m:Int)*256)|||BitVec.ofInt 16 (n:Int)).toNat=m*256+n:=by
  rw [BitVec.toNat_or,e1,e2,Nat.mul_comm m,<-Nat.two_pow_add_eq_or_of_lt (by omega)]
 show IntKind.u16.wrap (((BitVec.ofInt 16 ((m:Int)*256)|||BitVec.ofInt 16 (n:Int)).toNat:Nat):Int)=_
 rw [e,w16 (by omega) (by omega)]
 omega
theorem Y8m {n:Int} (h0:0<=n) (h1:n<=4294967295):bits Go.BinOp.and IntKind.i64 n 65535=n % 65536:=by
 obtain ⟨m,rfl⟩:=Int.eq_ofNat_of_zero_le h0
 have e1:(BitVec.ofInt 64 (m:Int)).toNat=m:=by
  rw [BitVec.toNat_ofInt]; omega
 have e2:(BitVec.ofInt 64 (65535:Int)).toNat=2 ^ 16 - 1:=by
  rw [BitVec.toNat_ofInt]; omega
 have e:(BitVec.ofInt 64 (m:Int)&&&BitVec.ofInt 64 (65535:Int)).toNat=m % 65536:=by
  rw [BitVec.toNat_and,e1,e2,Nat.and_two_pow_sub_one_eq_mod]
 show IntKind.i64.wrap (((BitVec.ofInt 64 (m:Int)&&&BitVec.ofInt 64 (65535:Int)).toNat:Nat):Int)=_
 rw [e,w64 (by omega) (by omega)]
 omega
theorem Yit (n:Int):shr IntKind.i64 n 16=n / 65536:=by
 show n.fdiv (2 ^ (min 16 64))=_
 rw [Int.fdiv_eq_ediv_of_nonneg _ (by decide)]
 rfl
theorem Yli {a:Int} (h0:0<=a) (h1:a<=255):shl IntKind.u16 a 8=a*256:=by
 show IntKind.u16.wrap (a*2 ^ (min 8 16))=_
 rw [show (2:Int) ^ (min 8 16)=256 from rfl,w16 (by omega) (by omega)]
def Y66:List (List UInt8)->Option (List Int)
 | [x0,x1,x2,x3]=> (dec3 x0).bind fun a=> (dec3 x1).bind fun b=> (dec3 x2).bind fun c=> (dec3 x3).bind fun d=> some [a*256+b,c*256+d]
 | _=> none
def quad (x:List UInt8):Option (List Int):=Y66 (YR x 46)
theorem Yf8 (s:List UInt8) (t:Bool) (j n:Int) (i:Nat) (r0:List (List UInt8)) (r1:List Int) (r2:List (List UInt8)) (x:List UInt8) (hi:i < 4) (hx:r2[i]? =some x) (h0:0<=n) (h1:n < 256 ^ i):
  Zz s t j n (i:Int) r0 r1 r2=match dec3 x with | none=> some ([],false) | some v=> Zz s t j (n*256+v) ((i+1:Nat):Int) r0 r1 r2:=by
 have hw:IntKind.i64.wrap ((i:Int)+1)=((i+1:Nat):Int):=by rw [w64 (by omega) (by omega)]; omega
 have hget:List.getD r2 (Int.toNat (i:Int)) (Ty.zero .str)=x:=by
  rw [Ydu,Ymu,hx]; rfl
 have hl:i < r2.length:=by
  rcases Nat.lt_or_ge i r2.length with h | h
  ·exact h
  ·rw [List.getElem?_eq_none h] at hx; cases hx
 have hn:n < 16777216:=by
  have:i=0\/i=1\/i=2\/i=3:=by omega
  rcases this with rfl | rfl | rfl | rfl <;> simp at h1 <;> omega
 rw [YWd,show decide ((i:Int) < 4)=true from Y5u (by omega),Y7u,Yj,Y5u hl,Y7u,hget,YZo,Y9u]
 cases hd:dec3 x with
 | none=> rfl
 | some v=>
  have hv:=YY2 hd
  show (bif decide (v < 0) then _ else _)=_
  rw [Y6u (by omega),Y8u]
  show Zz s t j (IntKind.i64.wrap (shl IntKind.i64 n 8+v)) _ r0 r1 r2=_
  rw [show shl IntKind.i64 n 8=n*256 from YI3 (y:=8) (by omega) (by omega) (by omega),w64 (by omega) (by omega),hw]
theorem Yes (s:List UInt8) (t:Bool) (j:Int) (a b c d:Int) (r0:List (List UInt8)) (r1:List Int) (r2:List (List UInt8)) (ha:0<=a/\a<=255) (hb:0<=b/\b<=255) (hc:0<=c/\c<=255) (hd:0<=d/\d<=255) (hr:r1.length<=1073741825):
  Zz s t j ((((0*256+a)*256+b)*256+c)*256+d) ((4:Nat):Int) r0 r1 r2=Zy s t (IntKind.i64.wrap (j+1)) r0 (r1++[a*256+b,c*256+d]):=by
 rw [YWd,show decide (((4:Nat):Int) < 4)=false from rfl,Y8u]
 rw [show decide (r1.length+[IntKind.wrap IntKind.u16 (shr IntKind.i64 ((((0*256+a)*256+b)*256+c)*256+d) 16),IntKind.wrap IntKind.u16 (bits Go.BinOp.and IntKind.i64 ((((0*256+a)*256+b)*256+c)*256+d) 65535)].length<=lim)=true from by simp [lim]; omega,Y7u]
 rw [Yit _,Y8m (by omega) (by omega),w16 (by omega) (by omega),w16 (by omega) (by omega)]
 congr 3
 ·omega
 ·congr 1; omega
theorem YBs (s:List UInt8) (t:Bool) (j:Int) (r0:List (List UInt8)) (r1:List Int) (x:List UInt8) (hx:x.length<=1073741824) (hr:r1.length<=1073741825):
  ((Y44 (x,46)).bind fun y1=> bif ((((List.length y1):Nat):Int) !=(4:Int)) then some (([]:List Int),false) else Zz s t j 0 0 r0 r1 y1)=
   match quad x with | none=> some ([],false) | some l=> Zy s t (IntKind.i64.wrap (j+1)) r0 (r1++l):=by
 rw [YU6 x 46 hx,Y9u]
 unfold quad
 generalize YR x 46=y
 match y with
 | []=> rfl
 | [_]=> rfl
 | [_,_]=> rfl
 | [_,_,_]=> rfl
 | x0::x1::x2::x3::x4::l=>
  rw [show ((((x0::x1::x2::x3::x4::l).length:Nat):Int) !=4)=true from by simp only [Yeu,bne_iff_ne]; omega,Y7u]; rfl
 | [x0,x1,x2,x3]=>
  rw [show ((((([x0,x1,x2,x3]:List (List UInt8)).length):Nat):Int) !=4)=false from rfl,Y8u]
  have s0:=Yf8 s t j 0 0 r0 r1 [x0,x1,x2,x3] x0 (by omega) rfl (by omega) (by simp)
  rw [show ((0:Nat):Int)=0 from rfl] at s0
  rw [s0]
  rw [show Y66 [x0,x1,x2,x3]=(dec3 x0).bind fun a=> (dec3 x1).bind fun b=> (dec3 x2).bind fun c=> (dec3 x3).bind fun d=> some [a*256+b,c*256+d] from rfl]
  cases h0:dec3 x0 with
  | none=> rfl
  | some a=>
   have b0:=YY2 h0
   simp only [Y9u]
   rw [Yf8 s t j _ 1 r0 r1 [x0,x1,x2,x3] x1 (by omega) rfl (by omega) (by simp; omega)]
   cases h1:dec3 x1 with
   | none=> rfl
   | some b=>
    have b1:=YY2 h1
    simp only [Y9u]
    rw [Yf8 s t j _ 2 r0 r1 [x0,x1,x2,x3] x2 (by omega) rfl (by omega) (by simp; omega)]
    cases h2:dec3 x2 with
    | none=> rfl
    | some c=>
     have b2:=YY2 h2
     simp only [Y9u]
     rw [Yf8 s t j _ 3 r0 r1 [x0,x1,x2,x3] x3 (by omega) rfl (by omega) (by simp; omega)]
     cases h3:dec3 x3 with
     | none=> rfl
     | some d=>
      have b3:=YY2 h3
      simp only [Y9u]
      exact Yes s t j a b c d r0 r1 _ (by omega) (by omega) (by omega) (by omega) hr
end Go.Abs
namespace Go.Abs
theorem Yxh (s:List UInt8) (i:Nat) (x:List UInt8) (b:List Int) (r0:List (List UInt8)) (hi:i < 4) (hb:b.length=4) (hx:x.length<=3):∀ (k j:Nat) (m:Int),j+k=x.length->0<=m->m < 10 ^ j->(x.drop j).all YB=true->
  Zd1 s (i:Int) x 4 (i:Int) (x.length:Int) (j:Int) (b.set i m) r0=
   if 255 < Ye2 m (x.drop j) then some ([],false) else Zc1 s 4 ((i+1:Nat):Int) (b.set i (Ye2 m (x.drop j))) r0
 | 0,j,m,hk,h0,h1,hd=> by
  have:j=x.length:=by omega
  subst this
  have hg:List.getD (b.set i m) (Int.toNat (i:Int)) (Ty.zero (.int .u16))=m:=by
   rw [Ydu,Ymu,List.getElem?_set_self (by omega)]; rfl
  have hw:IntKind.i64.wrap ((i:Int)+1)=((i+1:Nat):Int):=by rw [w64 (by omega) (by omega)]; omega
  rw [YVc,Yg,Y6u (Yxu _),Y8u,Yj,Y5u hi,Y7u,hg,List.drop_length,Ye2,hw]
  by_cases c:255 < m
  ·rw [show decide (m > 255)=true from Y5u c,Y7u,Ybu c]
  ·rw [show decide (m > 255)=false from Y6u c,Y8u,Yau c]
 | k+1,j,m,hk,h0,h1,hd=> by
  have hj:j < x.length:=by omega
  have hg:List.getD (b.set i m) (Int.toNat (i:Int)) (Ty.zero (.int .u16))=m:=by
   rw [Ydu,Ymu,List.getElem?_set_self (by omega)]; rfl
  have hget:x.getD (Int.toNat (j:Int)) 0=x[j]:=by
   rw [Ydu,Ymu,Ynu hj]; rfl
  have hw:IntKind.i64.wrap ((j:Int)+1)=((j+1:Nat):Int):=by rw [w64 (by omega) (by omega)]; omega
  have hm:m < 1000:=by
   have:j=0\/j=1\/j=2:=by omega
   rcases this with rfl | rfl | rfl <;> simp at h1 <;> omega
  rw [Yiu hj,List.all_cons,Ycu] at hd
  have hdig:=YWg _ hd.1
  rw [YVc,Yg,Y5u hj,Y7u,Yj,Y5u hi,Y7u,Yj,Y5u hj,Y7u,Y7u,hg,hget,hw]
  rw [show ((x[j].toNat:Nat):Int)=Y8 x[j] from rfl,w8 (by omega) (by omega),w16 (x:=10*m) (by omega) (by omega),w16 (x:=Y8 x[j] - 48) (by omega) (by omega),w16 (by omega) (by omega)]
  rw [Ydu,List.set_set,Yiu hj,Ye2,Int.mul_comm 10 m]
  exact Yxh s i x b r0 hi hb hx k (j+1) _ (by omega) (by omega) (by rw [Int.pow_succ]; omega) hd.2
theorem Yb8 (s:List UInt8) (i:Nat) (b:List Int) (r0:List (List UInt8)) (x:List UInt8) (hi:i < 4) (hb:b.length=4) (hxi:r0[i]? =some x) (hb0:b[i]? =some 0) (hx:x.length<=1073741824):
  Zc1 s 4 (i:Int) b r0=match dec3 x with | none=> some ([],false) | some v=> Zc1 s 4 ((i+1:Nat):Int) (b.set i v) r0:=by
 have hget:List.getD r0 (Int.toNat (i:Int)) (Ty.zero .str)=x:=by
  rw [Ydu,Ymu,hxi]; rfl
 have hl:i < r0.length:=by
  rcases Nat.lt_or_ge i r0.length with h | h
  ·exact h
  ·rw [List.getElem?_eq_none h] at hxi; cases hxi
 rw [YQc,show decide ((i:Int) < 4)=true from Y5u (by omega),Y7u,Yj,Y5u hl,Y7u,hget,Y4m x hx,Y9u]
 by_cases h0:x.length < 1
 ·have:x=[]:=List.eq_nil_of_length_eq_zero (by omega)
  subst this; rfl
 have hne:(x==([]:List UInt8))=false:=by
  rw [Yhu]; intro e; rw [e] at h0; simp at h0
 rw [hne,Y8u]
 unfold dec3
 by_cases h3:3 < x.length
 ·rw [show decide (((x.length:Nat):Int) > 3)=true from Y5u (by omega),Y7u,Ybu (.inr h3)]
 rw [show decide (((x.length:Nat):Int) > 3)=false from Y6u (by omega),Y8u,Yau (show ¬(x.length < 1\/3 < x.length) from by omega)]
 cases hd:x.all YB with
 | false=> rfl
 | true=>
  rw [Yvu,Y8u,Ybu rfl,show Ya (0:Int) x.length=true from by rw [show (0:Int)=((0:Nat):Int) from rfl,Yj]; exact Y5u (by omega),Y7u,Yne,show Int.toNat (0:Int)=0 from rfl]
  have hbs:b.set i 0=b:=by
   apply List.ext_getElem?
   intro n
   by_cases e:i=n
   ·subst e; rw [List.getElem?_set_self (by omega),hb0]
   ·rw [List.getElem?_set_ne e]
  have loop:=Yxh s i x b r0 hi hb (by omega) x.length 0 0 (by omega) (by omega) (by simp) hd
  rw [show ((0:Nat):Int)=0 from rfl,List.drop_zero,hbs] at loop
  rw [loop]
  by_cases c:x.getD 0 0=48
  ·rw [Y5u c,Y7u]
   by_cases d:1 < x.length
   ·rw [show decide (((x.length:Nat):Int) > 1)=true from Y5u (by omega),Y7u,Ybu (show x.getD 0 0=48/\1 < x.length from ⟨c,d⟩)]
   ·rw [show decide (((x.length:Nat):Int) > 1)=false from Y6u (by omega),Y8u,Yau (show ¬(x.getD 0 0=48/\1 < x.length) from fun h=> d h.2)]
    split <;> rfl
  ·rw [Y6u c,Y8u,Yau (show ¬(x.getD 0 0=48/\1 < x.length) from fun h=> c h.1)]
   split <;> rfl
theorem YXm (x:List UInt8) (hx:x.length<=1073741824):Yt9 x=match quad x with | none=> some ([],false) | some l=> some (l,true):=by
 rw [YWm,Yck,YM6 x 46 hx,Y9u]
 have hle:∀ y∈YR x 46,y.length<=1073741824:=by
  intro y hy
  have:=Yd6 46 x [] y hy
  simp at this; omega
 unfold quad
 generalize YR x 46=y at hle ⊢
 match y,hle with
 | [],_=> rfl
 | [_],_=> rfl
 | [_,_],_=> rfl
 | [_,_,_],_=> rfl
 | x0::x1::x2::x3::x4::l,_=>
  rw [show ((((x0::x1::x2::x3::x4::l).length:Nat):Int) !=4)=true from by simp only [Yeu,bne_iff_ne]; omega,Y7u]; rfl
 | [x0,x1,x2,x3],hle=>
  rw [show ((((([x0,x1,x2,x3]:List (List UInt8)).length):Nat):Int) !=4)=false from rfl,Y8u]
  have s0:=Yb8 x 0 [0,0,0,0] [x0,x1,x2,x3] x0 (by omega) rfl rfl rfl (hle x0 (by simp))
  rw [show ((0:Nat):Int)=0 from rfl] at s0
  rw [show (((([x0,x1,x2,x3]:List (List UInt8)).length:Nat):Int))=4 from rfl,show (Ty.zero (.arr 4 (.int .u16)):List Int)=[0,0,0,0] from rfl,s0]
  rw [show Y66 [x0,x1,x2,x3]=(dec3 x0).bind fun a=> (dec3 x1).bind fun b=> (dec3 x2).bind fun c=> (dec3 x3).bind fun d=> some [a*256+b,c*256+d] from rfl]
  cases h0:dec3 x0 with
  | none=> rfl
  | some a=>
   have b0:=YY2 h0
   simp only [Y9u]
   rw [Yb8 x 1 _ [x0,x1,x2,x3] x1 (by omega) rfl rfl rfl (hle x1 (by simp))]
   cases h1:dec3 x1 with
   | none=> rfl
   | some b=>
    have b1:=YY2 h1
    simp only [Y9u]
    rw [Yb8 x 2 _ [x0,x1,x2,x3] x2 (by omega) rfl rfl rfl (hle x2 (by simp))]
    cases h2:dec3 x2 with
    | none=> rfl
    | some c=>
     have b2:=YY2 h2
     simp only [Y9u]
     rw [Yb8 x 3 _ [x0,x1,x2,x3] x3 (by omega) rfl rfl rfl (hle x3 (by simp))]
     cases h3:dec3 x3 with
     | none=> rfl
     | some d=>
      have b3:=YY2 h3
      simp only [Y9u]
      rw [YQc,show decide (((3+1:Nat):Int) < 4)=false from rfl,Y8u]
      show some ([bits Go.BinOp.or IntKind.u16 (shl IntKind.u16 a 8) b,bits Go.BinOp.or IntKind.u16 (shl IntKind.u16 c 8) d],true)=_
      rw [Yli (by omega) (by omega),Yli (by omega) (by omega),Yoh (by omega) (by omega),Yoh (by omega) (by omega)]
end Go.Abs
namespace Go.Abs
def Y42 (x:List UInt8):Option Int:=if x.length < 1\/4 < x.length then none else if YK 16 0 x < 0 then none else some (IntKind.u16.wrap (YK 16 0 x))
def run6 (t:Bool):List (List UInt8)->Option (List Int)
 | []=> some []
 | x::l=> if t=true/\l=[]/\Y03 x=true then quad x else (Y42 x).bind fun v=> (run6 t l).map (v::·)
def Y61 (t:Bool) (s:List UInt8):Option (List Int):=if s=[] then some [] else run6 t (YR s 58)
theorem YLq {α:Type} (x:List UInt8) (r:List Int) (F:List Int->Option (List Int×Bool)) (hr:r.length<=1073741825):
  (bif (x==([]:List UInt8)) then some (([]:List Int),false)
   else bif (decide (((x.length:Nat):Int) > (4:Int))) then some (([]:List Int),false)
   else bif (decide (((List.length ([(48:UInt8),(120:UInt8)]:List UInt8))+x.length)<=(2 ^ 62))) then
    (Y14 (([(48:UInt8),(120:UInt8)]:List UInt8)++x)).bind fun y1=>
     bif (!y1.2) then some (([]:List Int),false)
     else bif (decide (((List.length r)+(List.length ([(IntKind.wrap IntKind.u16 y1.1)]:List Int)))<=(lim))) then F (r++([(IntKind.wrap IntKind.u16 y1.1)]:List Int))
     else none
   else none)=match Y42 x with | none=> some ([],false) | some v=> F (r++[v]):=by
 unfold Y42
 by_cases h0:x.length < 1
 ·have:x=[]:=List.eq_nil_of_length_eq_zero (by omega)
  subst this; rfl
 have hne:(x==([]:List UInt8))=false:=by
  rw [Yhu]; intro e; rw [e] at h0; simp at h0
 rw [hne,Y8u]
 by_cases h4:4 < x.length
 ·rw [show decide (((x.length:Nat):Int) > 4)=true from Y5u (by omega),Y7u,Ybu (.inr h4)]
 rw [show decide (((x.length:Nat):Int) > 4)=false from Y6u (by omega),Y8u,Yau (show ¬(x.length < 1\/4 < x.length) from by omega)]
 rw [show decide (((List.length ([(48:UInt8),(120:UInt8)]:List UInt8))+x.length)<=(2 ^ 62))=true from Y5u (by simp; omega),Y7u]
 rw [show ([(48:UInt8),(120:UInt8)]:List UInt8)++x=48::120::x from rfl,Ywe _ (by simp; omega),YUa,Ybu (show Y8 48=48 from rfl),Ybu (show isX 120=true from rfl),Y9u]
 unfold Yx2
 by_cases hn:YK 16 0 x < 0
 ·rw [Ybu hn,Ybu hn]; rfl
 ·rw [Yau hn,Yau hn]
  simp only [Yvu,Y8u]
  rw [show decide (r.length+[IntKind.u16.wrap (YK 16 0 x)].length<=lim)=true from Y5u (by simp [lim]; omega),Y7u]
def Ok6 (o:Option (List Int)) (r:List Int) (y:Option (List Int×Bool)):Prop:=match o with
 | none=> ∃ u,y=some (u,false)
 | some l=> y=some (r++l,true)
theorem Ywh (s:List UInt8) (t:Bool) (parts:List (List UInt8)) (hl:parts.length<=1073741825) (hp:∀ x∈parts,x.length<=1073741824):∀ (k j:Nat) (r:List Int),j+k=parts.length->r.length<=j->
  Ok6 (run6 t (parts.drop j)) r (Zw s t (parts.length:Int) (j:Int) r parts)
 | 0,j,r,hk,hr=> by
  have:j=parts.length:=by omega
  subst this
  rw [YNd,Yg,Y6u (Yxu _),Y8u,List.drop_length]
  show some (r,true)=some (r++[],true)
  rw [Yyu]
 | k+1,j,r,hk,hr=> by
  have hj:j < parts.length:=by omega
  have hget:List.getD parts (Int.toNat (j:Int)) (Ty.zero .str)=parts[j]:=by
   rw [Ydu,Ymu,Ynu hj]; rfl
  have hw:IntKind.i64.wrap ((j:Int)+1)=((j+1:Nat):Int):=by rw [w64 (by omega) (by omega)]; omega
  have hx:=hp _ (List.getElem_mem hj)
  have hwl:IntKind.i64.wrap ((parts.length:Int) - 1)=((parts.length - 1:Nat):Int):=by rw [w64 (by omega) (by omega)]; omega
  have hex:=YLq (α:=Unit) parts[j] r (fun q=> Zw s t (parts.length:Int) ((j+1:Nat):Int) q parts) (by omega)
  have next:∀ v,Ok6 ((run6 t (parts.drop (j+1))).map (v::·)) r (Zw s t (parts.length:Int) ((j+1:Nat):Int) (r++[v]) parts):=by
   intro v
   have ih:=Ywh s t parts hl hp k (j+1) (r++[v]) (by omega) (by simp; omega)
   cases ho:run6 t (parts.drop (j+1)) with
   | none=> rw [ho] at ih; exact ih
   | some l=>
    rw [ho] at ih
    refine (show _=some _ from ih).trans ?_
    simp
  have hexOk:Ok6 ((Y42 parts[j]).bind fun v=> (run6 t (parts.drop (j+1))).map (v::·)) r (match Y42 parts[j] with | none=> some ([],false) | some v=> Zw s t (parts.length:Int) ((j+1:Nat):Int) (r++[v]) parts):=by
   cases Y42 parts[j] with
   | none=> exact ⟨[],rfl⟩
   | some v=> exact next v
  rw [YNd,Yg,Y5u hj,Y7u,Yj,Y5u hj,Y7u,hget,hw,hwl,Yiu hj,run6,hex]
  cases t with
  | false=>
   rw [Y8u,Yau (fun h=> Bool.noConfusion h.1)]
   exact hexOk
  | true=>
   rw [Y7u]
   by_cases e:j=parts.length - 1
   ·rw [show (((j:Nat):Int)==((parts.length - 1:Nat):Int))=true from beq_iff_eq.2 (by omega),Y7u,Y6p _ hx,Y9u]
    have hnil:parts.drop (j+1)=[]:=List.drop_eq_nil_of_le (by omega)
    cases hd:Y03 parts[j] with
    | false=>
     rw [Y8u,Yau (fun h=> Bool.noConfusion h.2.2)]
     exact hexOk
    | true=>
     rw [Y7u,Ybu ⟨rfl,hnil,rfl⟩,YXm _ hx]
     cases hq:quad parts[j] with
     | none=>
      simp only [Y9u]
      rw [show decide (r.length+([]:List Int).length<=lim)=true from Y5u (by simp [lim]; omega),Y7u]
      exact ⟨_,rfl⟩
     | some l=>
      have hl2:l.length=2:=by
       unfold quad Y66 at hq
       split at hq
       ·simp only [YCu] at hq
        obtain ⟨a,_,b,_,c,_,d,_,h⟩:=hq
        rw [<-Option.some.inj h]; rfl
       ·cases hq
      simp only [Y9u]
      rw [show decide (r.length+l.length<=lim)=true from Y5u (by simp [lim]; omega),Y7u]
      rfl
   ·rw [show (((j:Nat):Int)==((parts.length - 1:Nat):Int))=false from Yhu.2 (by omega),Y8u]
    have hnn:¬parts.drop (j+1)=[]:=by
     rw [List.drop_eq_nil_iff]; omega
    rw [Yau (fun h=> hnn h.2.1)]
    exact hexOk
theorem YRb (s:List UInt8) (sep:Int):(YR s sep).length<=s.length+1/\∀ x∈YR s sep,x.length<=s.length:=by
 refine ⟨Yc3 sep s [],fun x hx=> ?_⟩
 have:=Yd6 sep s [] x hx
 simpa using this
theorem YK6 (s:List UInt8) (t:Bool) (hs:s.length<=1073741823):Ok6 (Y61 t s) [] (YV2 (s,t)):=by
 rw [YUm,YKl]
 unfold Y61
 by_cases h:s=[]
 ·subst h; exact rfl
 ·rw [show (s==([]:List UInt8))=false from Yhu.2 h,Y8u,Yau h]
  simp only
  rw [YM6 s 58 (by omega),Y9u]
  have:=YRb s 58
  exact Ywh s t (YR s 58) (by omega) (fun x hx=> by have:=this.2 x hx; omega) (YR s 58).length 0 [] (by omega) (by simp)
theorem YFh (s:List UInt8) (t:Bool) (j:Nat) (r0:List (List UInt8)) (r1:List Int) (x:List UInt8) (hx:r0[j]? =some x) (h4:x.length<=4) (hr:r1.length<=1073741825):∀ (k i:Nat) (n:Int),i+k=x.length->0<=n->n < 16 ^ i->
  Z01 s t (j:Int) n (i:Int) r0 r1=if YK 16 n (x.drop i) < 0 then some ([],false) else Zy s t (IntKind.i64.wrap ((j:Int)+1)) r0 (r1++[IntKind.u16.wrap (YK 16 n (x.drop i))])
 | 0,i,n,hk,h0,h1=> by
  have:i=x.length:=by omega
  subst this
  have hget:List.getD r0 (Int.toNat (j:Int)) (Ty.zero .str)=x:=by
   rw [Ydu,Ymu,hx]; rfl
  have hl:j < r0.length:=by
   rcases Nat.lt_or_ge j r0.length with h | h
   ·exact h
   ·rw [List.getElem?_eq_none h] at hx; cases hx
  rw [Yoc,Yj,Y5u hl,Y7u,hget,Yg,Y6u (Yxu _),Y8u,List.drop_length,YK,Yau (by omega)]
  rw [show decide (r1.length+[IntKind.u16.wrap n].length<=lim)=true from Y5u (by simp [lim]; omega),Y7u]
 | k+1,i,n,hk,h0,h1=> by
  have hi:i < x.length:=by omega
  have hget:List.getD r0 (Int.toNat (j:Int)) (Ty.zero .str)=x:=by
   rw [Ydu,Ymu,hx]; rfl
  have hl:j < r0.length:=by
   rcases Nat.lt_or_ge j r0.length with h | h
   ·exact h
   ·rw [List.getElem?_eq_none h] at hx; cases hx
  have hg:x.getD (Int.toNat (i:Int)) 0=x[i]:=by
   rw [Ydu,Ymu,Ynu hi]; rfl
  have hw:IntKind.i64.wrap ((i:Int)+1)=((i+1:Nat):Int):=by rw [w64 (by omega) (by omega)]; omega
  have hn:n < 4096:=by
   have:i=0\/i=1\/i=2\/i=3:=by omega
   rcases this with rfl | rfl | rfl | rfl <;> simp at h1 <;> omega
  have hb:=YI2 x[i]
  have hnb:=Y63 (Y8 x[i])
  rw [Yoc,Yj,Y5u hl,Y7u,hget,Yg,Y5u hi,Y7u,Y7u,Yj,Y5u hi,Y7u,hg,hw]
  rw [show ((x[i].toNat:Nat):Int)=Y8 x[i] from rfl,YE9 _ hb.1 hb.2,Y9u,Yiu hi,YK]
  by_cases a:nib (Y8 x[i]) < 0
  ·rw [Y5u a,Y7u,Ybu (show nib (Y8 x[i]) < 0\/16<=nib (Y8 x[i]) from .inl a),Ybu (by omega)]
  ·rw [Y6u a,Y8u,Yau (show ¬(nib (Y8 x[i]) < 0\/16<=nib (Y8 x[i])) from by omega),Ybu (show n*16+nib (Y8 x[i]) < 1099511627776 from by omega)]
   rw [show shl IntKind.i64 n 4=n*16 from YI3 (y:=4) (by omega) (by omega) (by omega),w64 (by omega) (by omega)]
   exact YFh s t j r0 r1 x hx h4 hr k (i+1) _ (by omega) (by omega) (by rw [Int.pow_succ]; omega)
theorem YMq (s:List UInt8) (t:Bool) (j:Nat) (r0:List (List UInt8)) (r1:List Int) (x:List UInt8) (hx:r0[j]? =some x) (hr:r1.length<=1073741825):
  (bif (Ya (j:Int) (List.length r0)) then
   bif (decide ((((List.length (List.getD r0 (Int.toNat (j:Int)) (Ty.zero .str))):Nat):Int) < (1:Int))) then some (([]:List Int),false)
   else bif (Ya (j:Int) (List.length r0)) then
     bif (decide ((((List.length (List.getD r0 (Int.toNat (j:Int)) (Ty.zero .str))):Nat):Int) > (4:Int))) then some (([]:List Int),false)
     else Z01 s t (j:Int) (0:Int) (0:Int) r0 r1
    else none
   else none)=match Y42 x with | none=> some ([],false) | some v=> Zy s t (IntKind.i64.wrap ((j:Int)+1)) r0 (r1++[v]):=by
 have hget:List.getD r0 (Int.toNat (j:Int)) (Ty.zero .str)=x:=by
  rw [Ydu,Ymu,hx]; rfl
 have hl:j < r0.length:=by
  rcases Nat.lt_or_ge j r0.length with h | h
  ·exact h
  ·rw [List.getElem?_eq_none h] at hx; cases hx
 rw [Yj,Y5u hl,Y7u,Y7u,hget]
 unfold Y42
 by_cases h0:x.length < 1
 ·rw [show decide (((x.length:Nat):Int) < 1)=true from Y5u (by omega),Y7u,Ybu (.inl h0)]
 rw [show decide (((x.length:Nat):Int) < 1)=false from Y6u (by omega),Y8u]
 by_cases h4:4 < x.length
 ·rw [show decide (((x.length:Nat):Int) > 4)=true from Y5u (by omega),Y7u,Ybu (.inr h4)]
 rw [show decide (((x.length:Nat):Int) > 4)=false from Y6u (by omega),Y8u,Yau (show ¬(x.length < 1\/4 < x.length) from by omega)]
 have:=YFh s t j r0 r1 x hx (by omega) hr x.length 0 0 (by omega) (by omega) (by simp)
 rw [show ((0:Nat):Int)=0 from rfl,List.drop_zero] at this
 rw [this]
 split <;> rfl
theorem YEh (s:List UInt8) (t:Bool) (parts:List (List UInt8)) (hl:parts.length<=1073741825) (hp:∀ x∈parts,x.length<=1073741824):∀ (k j:Nat) (r:List Int),j+k=parts.length->r.length<=j->
  Zy s t (j:Int) parts r=match run6 t (parts.drop j) with | none=> some ([],false) | some l=> some (r++l,true)
 | 0,j,r,hk,hr=> by
  have:j=parts.length:=by omega
  subst this
  rw [Y79,Yg,Y6u (Yxu _),Y8u,List.drop_length]
  simp [run6]
 | k+1,j,r,hk,hr=> by
  have hj:j < parts.length:=by omega
  have hxj:parts[j]? =some parts[j]:=Ynu hj
  have hget:List.getD parts (Int.toNat (j:Int)) (Ty.zero .str)=parts[j]:=by
   rw [Ydu,Ymu,hxj]; rfl
  have hw:IntKind.i64.wrap ((j:Int)+1)=((j+1:Nat):Int):=by rw [w64 (by omega) (by omega)]; omega
  have hx:=hp _ (List.getElem_mem hj)
  have hwl:IntKind.i64.wrap ((parts.length:Int) - 1)=((parts.length - 1:Nat):Int):=by rw [w64 (by omega) (by omega)]; omega
  have hex:=YMq s t j parts r parts[j] hxj (by omega)
  rw [hw] at hex
  have hexOk:(match Y42 parts[j] with | none=> some ([],false) | some v=> Zy s t ((j+1:Nat):Int) parts (r++[v]))=
    match ((Y42 parts[j]).bind fun v=> (run6 t (parts.drop (j+1))).map (v::·)) with | none=> some ([],false) | some l=> some (r++l,true):=by
   cases Y42 parts[j] with
   | none=> rfl
   | some v=>
    simp only [Y9u]
    rw [YEh s t parts hl hp k (j+1) (r++[v]) (by omega) (by simp; omega)]
    cases run6 t (parts.drop (j+1)) with
    | none=> rfl
    | some l=> simp
  rw [Y79,Yg,Y5u hj,Y7u,hwl,Yiu hj,run6]
  rw [hex]
  cases t with
  | false=>
   rw [Y8u,Yau (fun h=> Bool.noConfusion h.1)]
   exact hexOk
  | true=>
   rw [Y7u]
   by_cases e:j=parts.length - 1
   ·rw [show (((j:Nat):Int)==((parts.length - 1:Nat):Int))=true from beq_iff_eq.2 (by omega),Y7u,Yj,Y5u hj,Y7u,hget,YNn _ hx,Y9u]
    have hnil:parts.drop (j+1)=[]:=List.drop_eq_nil_of_le (by omega)
    cases hd:Y03 parts[j] with
    | false=>
     rw [Y8u,Yau (fun h=> Bool.noConfusion h.2.2),<-hexOk,<-hex,Yj,Y5u hj,Y7u,hget]
    | true=>
     rw [Y7u,Y7u,Ybu ⟨rfl,hnil,rfl⟩,YBs s true (j:Int) parts r parts[j] hx (by omega)]
     cases hq:quad parts[j] with
     | none=> rfl
     | some l=>
      simp only
      rw [hw,Y79,Yg,Y6u (by omega),Y8u]
   ·rw [show (((j:Nat):Int)==((parts.length - 1:Nat):Int))=false from Yhu.2 (by omega),Y8u]
    have hnn:¬parts.drop (j+1)=[]:=by
     rw [List.drop_eq_nil_iff]; omega
    rw [Yau (fun h=> hnn h.2.1)]
    exact hexOk
theorem YY9 (s:List UInt8) (t:Bool) (hs:s.length<=1073741823):Yp2 (s,t)=match Y61 t s with | none=> some ([],false) | some l=> some (l,true):=by
 rw [YWo,YTl]
 unfold Y61
 by_cases h:s=[]
 ·subst h; rfl
 ·rw [show (s==([]:List UInt8))=false from Yhu.2 h,Y8u,Yau h]
  simp only
  rw [YU6 s 58 (by omega),Y9u]
  have:=YRb s 58
  exact YEh s t (YR s 58) (by omega) (fun x hx=> by have:=this.2 x hx; omega) (YR s 58).length 0 [] (by omega) (by simp)
end Go.Abs
namespace Go.Abs
def cc:List UInt8:=[58,58]
def z8:List Int:=[0,0,0,0,0,0,0,0]
def lay8 (a b:List Int):List Int:=(a++z8.drop a.length).take (8 - b.length)++b
def Yj6 (a b:Option (List Int)):List Int×Int:=match a,b with
 | some a,some b=> if 7 < a.length+b.length then (z8,55) else (lay8 a b,0)
 | _,_=> (z8,55)
def Yi6 (a:Option (List Int)):List Int×Int:=match a with
 | some l=> if l.length=8 then (l,0) else (z8,55)
 | none=> (z8,55)
def v6Of (s:List UInt8):List Int×Int:=
 if Lib.index s cc < 0 then Yi6 (Y61 true s) else Yj6 (Y61 false (s.take (Lib.index s cc).toNat)) (Y61 true (s.drop ((Lib.index s cc).toNat+2)))
theorem Y2i (t:Bool):∀ (l:List (List UInt8)) (r:List Int),run6 t l=some r->r.length<=l.length+1
 | [],r,h=> by rw [<-Option.some.inj h]; simp
 | x::l,r,h=> by
  unfold run6 at h
  split at h
  ·unfold quad Y66 at h
   split at h
   ·simp only [YCu] at h
    obtain ⟨a,_,b,_,c,_,d,_,h⟩:=h
    rw [<-Option.some.inj h]; simp
   ·cases h
  ·simp only [YCu,YBu] at h
   obtain ⟨v,_,q,hq,h⟩:=h
   have:=Y2i t l q hq
   rw [<-h]; simp only [Yeu]; omega
theorem Y46 (t:Bool) (s:List UInt8) (r:List Int) (h:Y61 t s=some r):r.length<=s.length+2:=by
 unfold Y61 at h
 split at h
 ·rw [<-Option.some.inj h]; simp
 ·have:=Y2i t _ r h
  have:=(YRb s 58).1
  omega
theorem Y8b (L r:List Int) (p i:Nat) (v:Int) (hp:p+r.length<=L.length) (hi:i < r.length) (hv:r[i]? =some v):
  List.set (L.take p++r.take i++L.drop (p+i)) (p+i) v=L.take p++r.take (i+1)++L.drop (p+i+1):=by
 have hlen:(L.take p++r.take i).length=p+i:=by simp; omega
 have hd:L.drop (p+i)=L[p+i]'(by omega)::L.drop (p+i+1):=Yiu (by omega)
 have hv':r[i]=v:=by
  rw [Ynu hi] at hv; exact Option.some.inj hv
 rw [List.set_append_right _ _ (by omega),hlen,Nat.sub_self,hd,List.set_cons_zero,List.take_succ_eq_append_getElem hi,hv']
 simp
theorem YBh (s:List UInt8) (b0 r0:List Int) (h8:r0.length=8):∀ (k i:Nat),i+k=8->Zc s (i:Int) b0 (z8.take 0++r0.take i++z8.drop (0+i)) r0=some (r0,0)
 | 0,i,hk=> by
  have:i=8:=by omega
  subst this
  rw [YUc,show decide (((8:Nat):Int) < 8)=false from rfl,Y8u,List.take_of_length_le (l:=r0) (by omega)]
  simp [z8]
 | k+1,i,hk=> by
  have hi:i < 8:=by omega
  have hw:IntKind.i64.wrap ((i:Int)+1)=((i+1:Nat):Int):=by rw [w64 (by omega) (by omega)]; omega
  have hget:List.getD r0 (Int.toNat (i:Int)) (Ty.zero (.int .u16))=r0[i]:=by
   rw [Ydu,Ymu,Ynu (by omega)]; rfl
  rw [YUc,show decide ((i:Int) < 8)=true from Y5u (by omega),Y7u,Yj,Y5u (by omega),Y7u,Yj,Y5u hi,Y7u,hw,hget,Ydu]
  have:=Y8b z8 r0 0 i r0[i] (by simp [z8,h8]) (by omega) (Ynu (by omega))
  rw [Nat.zero_add] at this
  rw [Nat.zero_add,this]
  have ih:=YBh s b0 r0 h8 k (i+1) (by omega)
  rw [Nat.zero_add] at ih
  exact ih
theorem YDh (s:List UInt8) (b0 L r:List Int) (hL:L.length=8) (hr:r.length<=8):∀ (k i:Nat),i+k=r.length->
  Ze s (i:Int) b0 (L.take (8 - r.length)++r.take i++L.drop (8 - r.length+i)) r=some (L.take (8 - r.length)++r,0)
 | 0,i,hk=> by
  have:i=r.length:=by omega
  subst this
  rw [Y2d,Yg,Y6u (Yxu _),Y8u,List.take_of_length_le (Nat.le_refl _),List.drop_eq_nil_of_le (by omega),Yyu]
 | k+1,i,hk=> by
  have hi:i < r.length:=by omega
  have hw:IntKind.i64.wrap ((i:Int)+1)=((i+1:Nat):Int):=by rw [w64 (by omega) (by omega)]; omega
  have hw2:IntKind.i64.wrap (IntKind.i64.wrap ((8:Int) - (r.length:Int))+(i:Int))=((8 - r.length+i:Nat):Int):=by
   rw [w64 (x:=(8:Int) - (r.length:Int)) (by omega) (by omega),w64 (by omega) (by omega)]; omega
  have hget:List.getD r (Int.toNat (i:Int)) (Ty.zero (.int .u16))=r[i]:=by
   rw [Ydu,Ymu,Ynu (by omega)]; rfl
  rw [Y2d,Yg,Y5u hi,Y7u,Yj,Y5u hi,Y7u,hw2,Yj,Y5u (by omega),Y7u,hw,hget,Ydu]
  rw [Y8b L r (8 - r.length) i r[i] (by omega) hi (Ynu hi)]
  exact YDh s b0 L r hL hr k (i+1) (by omega)
theorem YCh (s:List UInt8) (b0 r q:List Int) (hr:r.length+q.length<=7):∀ (k i:Nat),i+k=r.length->
  Zd s (i:Int) b0 (z8.take 0++r.take i++z8.drop (0+i)) r q=some (lay8 r q,0)
 | 0,i,hk=> by
  have:i=r.length:=by omega
  subst this
  have hz:z8.length=8:=rfl
  rw [YYc,Yg,Y6u (Yxu _),Y8u,List.take_of_length_le (Nat.le_refl _),Nat.zero_add,List.take_zero,Yzu]
  have hL:(r++z8.drop r.length).length=8:=by rw [Yfu,Yqu,hz]; omega
  have:=YDh s b0 (r++z8.drop r.length) q hL (by omega) q.length 0 (by omega)
  rw [List.take_zero,Yyu,Nat.add_zero,List.take_append_drop] at this
  exact this
 | k+1,i,hk=> by
  have hi:i < r.length:=by omega
  have hw:IntKind.i64.wrap ((i:Int)+1)=((i+1:Nat):Int):=by rw [w64 (by omega) (by omega)]; omega
  have hget:List.getD r (Int.toNat (i:Int)) (Ty.zero (.int .u16))=r[i]:=by
   rw [Ydu,Ymu,Ynu (by omega)]; rfl
  rw [YYc,Yg,Y5u hi,Y7u,Yj,Y5u hi,Y7u,Yj,Y5u (by omega),Y7u,hw,hget,Ydu]
  have:=Y8b z8 r 0 i r[i] (by simp [z8]; omega) (by omega) (Ynu (by omega))
  rw [Nat.zero_add] at this
  rw [Nat.zero_add,this]
  have ih:=YCh s b0 r q hr k (i+1) (by omega)
  rw [Nat.zero_add] at ih
  exact ih
theorem YYh (s:List UInt8) (b0:List Int) (hs:s.length<=1073741823):
  ((Yp2 (s,true)).bind fun y0=>
     bif (!y0.2) then some (z8,(55:Int))
     else bif ((((List.length y0.1):Nat):Int) !=(8:Int)) then some (z8,(55:Int))
     else Zc s (0:Int) b0 z8 y0.1)=some (Yi6 (Y61 true s)):=by
 rw [YY9 s true hs]
 unfold Yi6
 cases Y61 true s with
 | none=> rfl
 | some l=>
  simp only [Y9u,Yvu,Y8u]
  by_cases h:l.length=8
  ·rw [show (((l.length:Nat):Int) !=8)=false from by simp [h],Y8u,Ybu h]
   exact YBh s b0 l h 8 0 (by omega)
  ·rw [show (((l.length:Nat):Int) !=8)=true from by simp; omega,Y7u,Yau h]
theorem YCs (s:List UInt8) (b0:List Int) (i:Nat) (hi:i+2<=s.length) (hs:s.length<=1073741823):
  (bif (Yi none (some (i:Int)) (List.length s)) then
    (Yp2 ((Yl none (some (i:Int)) s),false)).bind fun y0=>
     bif (Yi (some (IntKind.wrap IntKind.i64 ((i:Int)+(2:Int)))) none (List.length s)) then
      (Yp2 ((Yl (some (IntKind.wrap IntKind.i64 ((i:Int)+(2:Int)))) none s),true)).bind fun y1=>
       bif (!y0.2) then some (z8,(55:Int))
       else bif (!y1.2) then some (z8,(55:Int))
       else bif (decide ((IntKind.wrap IntKind.i64 ((((List.length y0.1):Nat):Int)+(((List.length y1.1):Nat):Int))) > (7:Int))) then some (z8,(55:Int))
       else Zd s (0:Int) b0 z8 y0.1 y1.1
     else none
   else none)=some (Yj6 (Y61 false (s.take i)) (Y61 true (s.drop (i+2)))):=by
 have hw:IntKind.i64.wrap ((i:Int)+2)=((i+2:Nat):Int):=by rw [w64 (by omega) (by omega)]; omega
 have hc:Yi none (some (i:Int)) s.length=true:=by simp [Yi]; omega
 have hcl:Yl none (some (i:Int)) s=s.take i:=by simp [Yl]
 rw [hc,Y7u,hcl,hw,Yd1 hi,YS1]
 simp only [Y7u]
 rw [YY9 _ false (by simp; omega),YY9 _ true (by simp; omega)]
 have l1:=Y46 false (s.take i)
 have l2:=Y46 true (s.drop (i+2))
 unfold Yj6
 cases h1:Y61 false (s.take i) with
 | none=>
  cases h2:Y61 true (s.drop (i+2)) with
  | none=> rfl
  | some b=> rfl
 | some a=>
  have l1:=l1 a h1
  cases h2:Y61 true (s.drop (i+2)) with
  | none=> rfl
  | some b=>
   have l2:=l2 b h2
   simp only [Ypu,Yqu] at l1 l2
   simp only [Y9u,Yvu,Y8u]
   rw [w64 (by omega) (by omega)]
   by_cases c:7 < a.length+b.length
   ·rw [show decide (((a.length:Nat):Int)+((b.length:Nat):Int) > 7)=true from Y5u (by omega),Y7u,Ybu c]
   ·rw [show decide (((a.length:Nat):Int)+((b.length:Nat):Int) > 7)=false from Y6u (by omega),Y8u,Yau c]
    exact YCh s b0 a b (by omega) a.length 0 (by omega)
theorem YP7:∀ s:List UInt8,0<=Lib.index s cc->(Lib.index s cc).toNat+2<=s.length
 | [],h=> by simp [Lib.index,cc] at h
 | [a],h=> by simp [Lib.index,cc,List.isPrefixOf] at h
 | a::b::l,h=> by
  have ih:=YP7 (b::l)
  rw [Lib.index] at h ⊢
  split
  ·simp
  ·rename_i hp
   rw [Yau hp] at h
   have hge:=Lib.index_ge (b::l) cc
   split
   ·rename_i hn; rw [Ybu hn] at h; omega
   ·rename_i hn
    rw [Yau hn] at h
    have h1:Lib.index (b::l) cc≠-1:=by simpa using hn
    have:=ih (by omega)
    simp only [Yeu] at this ⊢
    omega
theorem YOg (s:List UInt8) (h:s.length < 2):Lib.index s cc=-1:=by
 have hge:=Lib.index_ge s cc
 rcases Int.lt_or_le (Lib.index s cc) 0 with c | c
 ·omega
 ·have:=YP7 s c; omega
theorem pre2 (a b:UInt8) (l:List UInt8):cc.isPrefixOf (a::b::l)=((58==a)&&(58==b)):=by simp [cc,List.isPrefixOf]
def YR3 (s:List UInt8) (i:Nat):List Int×Int:=
 if Lib.index (s.drop i) cc < 0 then Yi6 (Y61 true s) else Yj6 (Y61 false (s.take (i+(Lib.index (s.drop i) cc).toNat))) (Y61 true (s.drop (i+(Lib.index (s.drop i) cc).toNat+2)))
theorem YAh (s:List UInt8) (b0:List Int) (hs:s.length<=1073741823):∀ (k i:Nat),i+k=s.length->Zb s (-1) (i:Int) b0 z8=some (YR3 s i)
 | 0,i,hk=> by
  have hi:¬(i+1 < s.length):=by omega
  have hw:IntKind.i64.wrap ((i:Int)+1)=((i+1:Nat):Int):=by rw [w64 (by omega) (by omega)]; omega
  rw [Y09,hw,Yg,Y6u hi,Y8u,show decide ((-1:Int) < 0)=true from rfl,Y7u,YYh s b0 hs]
  unfold YR3
  rw [YOg _ (by simp; omega),Ybu (by omega)]
 | k+1,i,hk=> by
  have hw:IntKind.i64.wrap ((i:Int)+1)=((i+1:Nat):Int):=by rw [w64 (by omega) (by omega)]; omega
  by_cases hi:i+1 < s.length
  ·have hi0:i < s.length:=by omega
   have hget:s.getD (Int.toNat (i:Int)) 0=s[i]:=by
    rw [Ydu,Ymu,Ynu hi0]; rfl
   have hget1:s.getD (Int.toNat ((i+1:Nat):Int)) 0=s[i+1]:=by
    rw [Ydu,Ymu,Ynu hi]; rfl
   have b58:∀ b:UInt8,(((b.toNat:Nat):Int)==58)=(58==b):=by
    intro b
    by_cases h:b=58
    ·subst h; rfl
    ·have:b.toNat≠58:=fun e=> h (UInt8.toNat_inj.1 e)
     rw [show ((58:UInt8)==b)=false from Yhu.2 (fun e=> h e.symm)]
     exact Yhu.2 (by omega)
   have hpre:cc.isPrefixOf (s.drop i)=((58==s[i])&&(58==s[i+1])):=by
    rw [Yiu hi0,Yiu hi,pre2]
   have ih:=YAh s b0 hs k (i+1) (by omega)
   have hnext:cc.isPrefixOf (s.drop i)=false->YR3 s i=YR3 s (i+1):=by
    intro hp
    have hix:Lib.index (s.drop i) cc=if Lib.index (s.drop (i+1)) cc==-1 then -1 else Lib.index (s.drop (i+1)) cc+1:=by
     rw [Yiu hi0] at hp ⊢
     rw [Lib.index,Yau (by rw [hp]; simp)]
    have hge:=Lib.index_ge (s.drop (i+1)) cc
    unfold YR3
    rw [hix]
    by_cases c:Lib.index (s.drop (i+1)) cc=-1
    ·rw [c]; rfl
    ·rw [Yau (show ¬((Lib.index (s.drop (i+1)) cc==-1)=true) from by simpa using c),Yau (show ¬(Lib.index (s.drop (i+1)) cc+1 < 0) from by omega),Yau (show ¬(Lib.index (s.drop (i+1)) cc < 0) from by omega)]
     rw [show i+(Lib.index (s.drop (i+1)) cc+1).toNat=i+1+(Lib.index (s.drop (i+1)) cc).toNat from by omega]
   rw [Y09,hw,Yg,Y5u hi,Y7u,Yj,Y5u hi0,Y7u,hget,b58,Yj,Y5u hi,Y7u,hget1,b58]
   cases h1:(58==s[i]) with
   | false=>
    rw [Y8u,ih,hnext (by rw [hpre,h1]; rfl)]
   | true=>
    rw [Y7u]
    cases h2:(58==s[i+1]) with
    | false=>
     rw [Y8u,ih,hnext (by rw [hpre,h2,Bool.and_false])]
    | true=>
     rw [Y7u,show decide ((i:Int) < 0)=false from Y6u (by omega),Y8u,YCs s b0 i (by omega) hs]
     have hix:Lib.index (s.drop i) cc=0:=by
      have hp:cc.isPrefixOf (s.drop i)=true:=by rw [hpre,h1,h2]; rfl
      rw [Yiu hi0] at hp ⊢
      rw [Lib.index,Ybu hp]
     unfold YR3
     rw [hix,Yau (by omega)]
     rfl
  ·rw [Y09,hw,Yg,Y6u hi,Y8u,show decide ((-1:Int) < 0)=true from rfl,Y7u,YYh s b0 hs]
   unfold YR3
   rw [YOg _ (by simp; omega),Ybu (by omega)]
theorem YIo (s:List UInt8) (hs:s.length<=1073741823):YS9 s=some (v6Of s):=by
 rw [YHo,Ybk]
 refine (YAh s _ hs s.length 0 (by omega)).trans ?_
 unfold YR3 v6Of
 rw [List.drop_zero,Nat.zero_add]
theorem YSf (a b:List Int) (h:a.length+b.length<=8):
  (List.take (Int.toNat (IntKind.i64.wrap ((8:Int) - (b.length:Int)))) ((List.take 0 z8++List.take (8 - 0) a)++List.drop (0+min a.length (8 - 0)) z8)++List.take (8 - Int.toNat (IntKind.i64.wrap ((8:Int) - (b.length:Int)))) b)++
   List.drop (Int.toNat (IntKind.i64.wrap ((8:Int) - (b.length:Int)))+min b.length (8 - Int.toNat (IntKind.i64.wrap ((8:Int) - (b.length:Int))))) ((List.take 0 z8++List.take (8 - 0) a)++List.drop (0+min a.length (8 - 0)) z8)=lay8 a b:=by
 have hw:Int.toNat (IntKind.i64.wrap ((8:Int) - (b.length:Int)))=8 - b.length:=by rw [w64 (by omega) (by omega)]; omega
 have hA:(List.take 0 z8++List.take (8 - 0) a)++List.drop (0+min a.length (8 - 0)) z8=a++z8.drop a.length:=by
  rw [List.take_zero,Yzu,List.take_of_length_le (by omega),Nat.zero_add,Nat.min_eq_left (by omega)]
 have hl:(a++z8.drop a.length).length=8:=by rw [Yfu,Yqu,show z8.length=8 from rfl]; omega
 unfold lay8
 rw [hw,hA]
 generalize a++z8.drop a.length=A at hl
 rw [List.take_of_length_le (l:=b) (by omega),Nat.min_eq_left (by omega),List.drop_eq_nil_of_le (by omega),Yyu]
theorem cut8 (b:List Int) (h:b.length<=8):Yi (some (IntKind.i64.wrap ((8:Int) - (b.length:Int)))) none 8=true:=by
 rw [w64 (by omega) (by omega),show ((8:Int) - (b.length:Int))=((8 - b.length:Nat):Int) from by omega]
 exact Yd1 (by omega)
theorem Y8p (s:List UInt8) (hs:s.length<=1073741823):
  Y4a (s,[58,58])=some (if Lib.index s cc < 0 then (s,[],false) else (s.take (Lib.index s cc).toNat,s.drop ((Lib.index s cc).toNat+2),true)):=by
 rw [Y7p,YGl,Y6n,Y1k,Y9n,Yk2,show decide (s.length < 4294967281)=true from Y5u (by omega),Y7u,Y9u]
 rw [show ([58,58]:List UInt8)=cc from rfl]
 by_cases h:Lib.index s cc < 0
 ·rw [show decide (Lib.index s cc>=0)=false from Y6u (by omega),Y8u,Ybu h]; rfl
 ·have hle:=YP7 s (by omega)
  rw [show decide (Lib.index s cc>=0)=true from Y5u (by omega),Y7u,Yau h]
  obtain ⟨n,hn⟩:=Int.eq_ofNat_of_zero_le (show 0<=Lib.index s cc by omega)
  rw [hn] at hle ⊢
  rw [Ydu] at hle ⊢
  have hc:Yi none (some (n:Int)) s.length=true:=by simp [Yi]; omega
  have hcl:Yl none (some (n:Int)) s=s.take n:=by simp [Yl]
  have hw:IntKind.i64.wrap ((n:Int)+((cc.length:Nat):Int))=((n+2:Nat):Int):=by
   rw [show ((cc.length:Nat):Int)=2 from rfl,w64 (by omega) (by omega)]; omega
  rw [hc,Y7u,hcl,hw,Yd1 hle,Y7u,YS1]; rfl
theorem Yzm (s:List UInt8) (hs:s.length<=1073741823):Yn9 s=some (v6Of s):=by
 rw [Yym,Y6k,Y8p s hs,Y9u]
 unfold v6Of
 by_cases h:Lib.index s cc < 0
 ·rw [Ybu h,Ybu h]
  simp only [Ywu,Y7u,Y8u]
  have o1:=YK6 s true hs
  have o2:YV2 ([],true)=some ([],true):=YK6 [] true (by simp)
  have ln:=Y46 true s
  unfold Yi6
  cases hp:Y61 true s with
  | none=>
   rw [hp] at o1
   obtain ⟨u,hu⟩:=o1
   rw [hu,o2]; rfl
  | some l=>
   rw [hp] at o1
   have ln:=ln l hp
   have hu:YV2 (s,true)=some (l,true):=o1
   rw [hu,o2]
   simp only [Y9u,Yvu,Y8u]
   rw [w64 (by simp only [Yju]; omega) (by simp only [Yju]; omega)]
   rw [show ((l.length:Nat):Int)+((([]:List Int).length:Nat):Int)=(l.length:Int) from by simp]
   by_cases c:l.length=8
   ·rw [show (((l.length:Nat):Int) !=8)=false from by simp [c],Y8u,Ybu c,cut8 [] (by simp),Y7u]
    have:=YSf l [] (by simp [c])
    refine congrArg some (Prod.ext ?_ rfl)
    refine this.trans ?_
    unfold lay8
    rw [c,show z8.drop 8=[] from rfl,Yyu,Yyu,List.take_of_length_le (by simp [c])]
   ·rw [show (((l.length:Nat):Int) !=8)=true from by simp; omega,Y7u,Yau c]; rfl
 ·rw [Yau h,Yau h]
  have hle:=YP7 s (by omega)
  simp only [Yvu,Y7u,Y8u]
  have o1:=YK6 (s.take (Lib.index s cc).toNat) false (by simp; omega)
  have o2:=YK6 (s.drop ((Lib.index s cc).toNat+2)) true (by simp; omega)
  have l1:=Y46 false (s.take (Lib.index s cc).toNat)
  have l2:=Y46 true (s.drop ((Lib.index s cc).toNat+2))
  unfold Yj6
  cases h1:Y61 false (s.take (Lib.index s cc).toNat) with
  | none=>
   rw [h1] at o1
   obtain ⟨u,hu⟩:=o1
   rw [hu]
   cases h2:Y61 true (s.drop ((Lib.index s cc).toNat+2)) with
   | none=>
    rw [h2] at o2
    obtain ⟨u2,hu2⟩:=o2
    rw [hu2]; rfl
   | some b=>
    rw [h2] at o2
    rw [show YV2 (s.drop ((Lib.index s cc).toNat+2),true)=some (b,true) from o2]; rfl
  | some a=>
   rw [h1] at o1
   have l1:=l1 a h1
   rw [show YV2 (s.take (Lib.index s cc).toNat,false)=some (a,true) from o1]
   cases h2:Y61 true (s.drop ((Lib.index s cc).toNat+2)) with
   | none=>
    rw [h2] at o2
    obtain ⟨u2,hu2⟩:=o2
    rw [hu2]; rfl
   | some b=>
    rw [h2] at o2
    have l2:=l2 b h2
    rw [show YV2 (s.drop ((Lib.index s cc).toNat+2),true)=some (b,true) from o2]
    simp only [Ypu,Yqu] at l1 l2
    simp only [Y9u,Yvu,Y8u]
    rw [w64 (by omega) (by omega)]
    by_cases c:7 < a.length+b.length
    ·rw [show decide (((a.length:Nat):Int)+((b.length:Nat):Int) > 7)=true from Y5u (by omega),Y7u,Ybu c]; rfl
    ·rw [show decide (((a.length:Nat):Int)+((b.length:Nat):Int) > 7)=false from Y6u (by omega),Y8u,Yau c,cut8 b (by omega),Y7u]
     exact congrArg some (Prod.ext (YSf a b (by omega)) rfl)
end Go.Abs
namespace Go.Abs
theorem YLe (n:Int):YL6 n=some n:=by rw [Ydn,Yuk]
end Go.Abs
