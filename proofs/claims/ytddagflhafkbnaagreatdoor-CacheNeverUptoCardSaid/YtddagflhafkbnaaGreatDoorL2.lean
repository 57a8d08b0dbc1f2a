/- Part L2 of the proof: see the last text of the claim. No condition of its own. -/
import Derived.Test.YtddagflhafkbnaaGreatDoorL1
set_option linter.all false
set_option autoImplicit false
namespace Go.Abs
theorem pre1 (c b:UInt8) (l:List UInt8):([c]:List UInt8).isPrefixOf (b::l)=(c==b):=by simp [List.isPrefixOf]
theorem Yvg (c:UInt8):∀ x:List UInt8,decide (Lib.index x [c]>=0)=x.any (fun b=> b==c)
 | []=> rfl
 | b::l=> by
  have ih:=Yvg c l
  have hge:=Lib.index_ge l [c]
  rw [Lib.index,pre1,List.any_cons,<-ih]
  by_cases h:c=b
  ·subst h; simp
  ·have h1:(c==b)=false:=by simpa using h
   have h2:(b==c)=false:=by simpa using fun e=> h e.symm
   rw [h1,h2,Yju (by simp),YCu]
   by_cases h3:Lib.index l [c]=-1
   ·rw [h3]; rfl
   ·rw [Yju (by simpa using h3)]
    rw [Yeu (by omega:Lib.index l [c]>=0),Yeu (by omega:Lib.index l [c]+1>=0)]
def Y63 (x:List UInt8):Bool:=x.any fun b=> b==46
theorem Y4p (x:List UInt8) (hx:x.length<=1073741824):Y7a (x,[46])=some (Y63 x):=by
 rw [Y3p,YHj,Ycp,Yl2]
 rw [show decide (x.length < 4294967281)=true from Yeu (by omega),Ygu,Yiu,Yvg]
 rfl
theorem Yih (x:List UInt8) (hx:x.length<=1073741824):∀ (k i:Nat),i+k=x.length->Ze1 x 46 (i:Int)=some (Y63 (x.drop i))
 | 0,i,hk=> by
  have:i=x.length:=by omega
  subst this
  rw [YH6]; simp [Y63]
 | k+1,i,hk=> by
  have hi:i < x.length:=by omega
  have hw:IntKind.i64.wrap ((i:Int)+1)=((i+1:Nat):Int):=by rw [w64 (by omega) (by omega)]; omega
  have hget:x.getD (Int.toNat (i:Int)) 0=x[i]:=by
   rw [Ymu,Yvu,Ywu hi]; rfl
  rw [YH6]
  simp only [Yg,hi,decide_true,Ygu,Yj,hget,hw]
  rw [Yru hi,Yih x hx k (i+1) (by omega)]
  by_cases h:x[i]=46
  ·rw [h]; simp [Y63]
  ·have:(((x[i].toNat:Nat):Int)==46)=false:=by
    have:x[i].toNat≠46:=fun e=> h (UInt8.toNat_inj.1 e)
    simp; omega
   rw [this,Yhu]
   have h2:(x[i]==46)=false:=by simpa using h
   simp only [Y63,List.any_cons,h2,YCu]
theorem YGn (x:List UInt8) (hx:x.length<=1073741824):YD5 (x,46)=some (Y63 x):=by
 rw [YFe,YTc]
 exact Yih x hx x.length 0 (by omega)
def Yd2:Int->List UInt8->Int
 | n,[]=> n
 | n,b::l=> Yd2 (n*10+(Y9 b - 48)) l
def dec3 (x:List UInt8):Option Int:=
 if x.length < 1\/3 < x.length then none else if x.all YB=true then (if x.getD 0 0=48/\1 < x.length then none else if 255 < Yd2 0 x then none else some (Yd2 0 x)) else none
theorem Yde (b:UInt8):(((b.toNat:Nat):Int)==48)=decide (b=48):=by
 by_cases h:b=48
 ·subst h; rfl
 ·have:b.toNat≠48:=fun e=> h (UInt8.toNat_inj.1 e)
  rw [Yfu h]; simp; omega
theorem YCg (b:UInt8) (h:YB b=true):48<=Y9 b/\Y9 b<=57:=by simpa [YB] using h
theorem Yqh (x:List UInt8) (h3:x.length<=3):∀ (k i:Nat) (n:Int),i+k=x.length->0<=n->n < 10 ^ i->
  Zg1 x n (i:Int)=some (if (x.drop i).all YB=true then (if 255 < Yd2 n (x.drop i) then -1 else Yd2 n (x.drop i)) else -1)
 | 0,i,n,hk,h0,h1=> by
  have:i=x.length:=by omega
  subst this
  rw [Y6d]
  simp only [Yg,YGu,decide_false,Yhu,YUu,List.all_nil,if_true,Yd2]
  by_cases c:255 < n
  ·rw [show decide (n > 255)=true from by simpa using c,Ygu,Yku c]
  ·rw [show decide (n > 255)=false from by simpa using c,Yhu,Yju c]
 | k+1,i,n,hk,h0,h1=> by
  have hi:i < x.length:=by omega
  have hw:IntKind.i64.wrap ((i:Int)+1)=((i+1:Nat):Int):=by rw [w64 (by omega) (by omega)]; omega
  have hget:x.getD (Int.toNat (i:Int)) 0=x[i]:=by
   rw [Ymu,Yvu,Ywu hi]; rfl
  have hb:=YK2 x[i]
  have hn:n < 1000:=by
   have:i=0\/i=1\/i=2:=by omega
   rcases this with rfl | rfl | rfl <;> simp at h1 <;> omega
  rw [Y6d]
  simp only [Yg,hi,decide_true,Ygu,Yj,hget,hw]
  rw [show ((x[i].toNat:Nat):Int)=Y9 x[i] from rfl,Yru hi,List.all_cons]
  by_cases a:Y9 x[i] < 48
  ·rw [Yeu a,Ygu]
   have:YB x[i]=false:=by simp [YB]; omega
   simp [this]
  ·rw [Yfu a,Yhu]
   by_cases c:Y9 x[i] > 57
   ·rw [Yeu c,Ygu]
    have:YB x[i]=false:=by simp [YB]; omega
    simp [this]
   ·rw [Yfu c,Yhu]
    have hd:YB x[i]=true:=by simp [YB]; omega
    rw [w64 (x:=n*10) (by omega) (by omega),w8 (x:=Y9 x[i] - 48) (by omega) (by omega),w64 (x:=Y9 x[i] - 48) (by omega) (by omega),w64 (by omega) (by omega)]
    rw [Yqh x h3 k (i+1) _ (by omega) (by omega) (by rw [Int.pow_succ]; omega),hd,Y5v]
    rfl
def Y1s:Option Int->Int
 | some v=> v
 | none=> -1
theorem YSo (x:List UInt8):Y1a x=some (Y1s (dec3 x)):=by
 rw [YRo,Y7k]
 unfold dec3
 by_cases h0:x.length < 1\/3 < x.length
 ·rw [Yku h0]
  by_cases a:x.length < 1
  ·have:x=[]:=YRu (by omega)
   subst this; rfl
  ·rw [show (((x.length:Nat):Int)==0)=false from Yqu.2 (by omega),Yhu,show decide (((x.length:Nat):Int) > 3)=true from Yeu (by omega),Ygu]; rfl
 ·rw [Yju h0,show (((x.length:Nat):Int)==0)=false from Yqu.2 (by omega),Yhu,show decide (((x.length:Nat):Int) > 3)=false from Yfu (by omega),Yhu]
  rw [show Ya (0:Int) x.length=true from by rw [show (0:Int)=((0:Nat):Int) from rfl,Yj]; exact Yeu (by omega),Ygu]
  have loop:=Yqh x (by omega) x.length 0 0 (by omega) (by omega) (by simp)
  rw [show ((0:Nat):Int)=0 from rfl,YZu] at loop
  rw [Yde,show Int.toNat (0:Int)=0 from rfl,loop]
  cases hd:x.all YB with
  | false=>
   rw [Yju (by simp),Yju (by simp)]
   by_cases c:x.getD 0 0=48
   ·rw [Yeu c,Ygu]
    cases decide (((x.length:Nat):Int) > 1) <;> rfl
   ·rw [Yfu c]; rfl
  | true=>
   rw [Yku rfl,Yku rfl]
   by_cases c:x.getD 0 0=48
   ·rw [Yeu c,Ygu]
    by_cases d:1 < x.length
    ·rw [show decide (((x.length:Nat):Int) > 1)=true from by simp; omega,Ygu,Yku (show x.getD 0 0=48/\1 < x.length from ⟨c,d⟩)]
     rfl
    ·rw [show decide (((x.length:Nat):Int) > 1)=false from by simp; omega,Yhu,Yju (show ¬(x.getD 0 0=48/\1 < x.length) from fun h=> d h.2)]
     split <;> rfl
   ·rw [Yfu c,Yhu,Yju (show ¬(x.getD 0 0=48/\1 < x.length) from fun h=> c h.1)]
    split <;> rfl
end Go.Abs
namespace Go.Abs
theorem w16 {x:Int} (h1:0<=x) (h2:x<=65535):IntKind.u16.wrap x=x:=by
 change (if (false&&decide (x % (65536:Int)>=(32768:Int)))=true then x % (65536:Int) - (65536:Int) else x % (65536:Int))=x
 rw [Yju (by simp)]; omega
theorem Y3q:(List.range 256).all (fun n=> YI digs (Y9 (UInt8.ofNat n))==YB (UInt8.ofNat n))=true:=by kernel_rfl
theorem Y4q (b:UInt8):YI digs (Y9 b)=YB b:=by
 refine YP6 (p:=fun b=> YI digs (Y9 b)=YB b) (fun n hn=> ?_) b
 have:=Y3v.1 Y3q n (List.mem_range.2 hn)
 simpa using this
theorem YVl (x:List UInt8) (hx:x.length<=1073741824):YI4 (x,[48,49,50,51,52,53,54,55,56,57])=some (x.all YB):=by
 rw [show ([48,49,50,51,52,53,54,55,56,57]:List UInt8)=digs from rfl,YT6 x digs Yra hx]
 congr 2
 funext b
 exact Y4q b
theorem YJf:∀ (x:List UInt8) (n:Int),0<=n->x.all YB=true->0<=Yd2 n x
 | [],n,h,_=> h
 | b::l,n,h,hd=> by
  rw [List.all_cons,Ylu] at hd
  have:=YCg b hd.1
  exact YJf l _ (by omega) hd.2
theorem Y43 {x:List UInt8} {v:Int} (h:dec3 x=some v):1<=x.length/\x.length<=3/\x.all YB=true/\¬(x.getD 0 0=48/\1 < x.length)/\v=Yd2 0 x/\0<=v/\v<=255:=by
 unfold dec3 at h
 split at h
 ·cases h
 ·split at h
  ·split at h
   ·cases h
   ·split at h
    ·cases h
    ·rename_i h1 h2 h3 h4
     have:=Option.some.inj h
     have:=YJf x 0 (by omega) h2
     exact ⟨by omega,by omega,h2,h3,by omega,by omega,by omega⟩
  ·cases h
theorem Y5h {a b:Int} (ha:0<=a/\a<=255) (hb:0<=b/\b<=255):bits Go.BinOp.or IntKind.u16 (a*256) b=a*256+b:=by
 obtain ⟨m,rfl⟩:=Y6v ha.1
 obtain ⟨n,rfl⟩:=Y6v hb.1
 have e1:(BitVec.ofInt 16 ((m:Int)*256)).toNat=m*2 ^ 8:=by
  rw [BitVec.toNat_ofInt]; omega
 have e2:(BitVec.ofInt 16 (n:Int)).toNat=n:=by
  rw [BitVec.toNat_ofInt]; omega
 have e:(BitVec.ofInt 16 ((m:Int)*256)|||BitVec.ofInt 16 (n:Int)).toNat=m*256+n:=by
  rw [BitVec.toNat_or,e1,e2,Ygv m,<-Nat.two_pow_add_eq_or_of_lt (by omega)]
 show IntKind.u16.wrap (((BitVec.ofInt 16 ((m:Int)*256)|||BitVec.ofInt 16 (n:Int)).toNat:Nat):Int)=_
 rw [e,w16 (by omega) (by omega)]
 omega
theorem YYl {n:Int} (h0:0<=n) (h1:n<=4294967295):bits Go.BinOp.and IntKind.i64 n 65535=n % 65536:=by
 obtain ⟨m,rfl⟩:=Y6v h0
 have e1:(BitVec.ofInt 64 (m:Int)).toNat=m:=by
  rw [BitVec.toNat_ofInt]; omega
 have e2:(BitVec.ofInt 64 (65535:Int)).toNat=2 ^ 16 - 1:=by
  rw [BitVec.toNat_ofInt]; omega
 have e:(BitVec.ofInt 64 (m:Int)&&&BitVec.ofInt 64 (65535:Int)).toNat=m % 65536:=by
  rw [BitVec.toNat_and,e1,e2,Nat.and_two_pow_sub_one_eq_mod]
 show IntKind.i64.wrap (((BitVec.ofInt 64 (m:Int)&&&BitVec.ofInt 64 (65535:Int)).toNat:Nat):Int)=_
 rw [e,w64 (by omega) (by omega)]
 omega
theorem Yit (n:Int):shr IntKind.i64 n 16=n / 65536:=by
 show n.fdiv (2 ^ (min 16 64))=_
 rw [Int.fdiv_eq_ediv_of_nonneg _ (by decide)]
 rfl
theorem Y4i {a:Int} (h0:0<=a) (h1:a<=255):shl IntKind.u16 a 8=a*256:=by
 show IntKind.u16.wrap (a*2 ^ (min 8 16))=_
 rw [show (2:Int) ^ (min 8 16)=256 from rfl,w16 (by omega) (by omega)]
def Yh6:List (List UInt8)->Option (List Int)
 | [x0,x1,x2,x3]=> (dec3 x0).bind fun a=> (dec3 x1).bind fun b=> (dec3 x2).bind fun c=> (dec3 x3).bind fun d=> some [a*256+b,c*256+d]
 | _=> none
def quad (x:List UInt8):Option (List Int):=Yh6 (YQ x 46)
theorem Yi8 (s:List UInt8) (t:Bool) (j n:Int) (i:Nat) (r0:List (List UInt8)) (r1:List Int) (r2:List (List UInt8)) (x:List UInt8) (hi:i < 4) (hx:r2[i]? =some x) (h0:0<=n) (h1:n < 256 ^ i):
  Zy s t j n (i:Int) r0 r1 r2=match dec3 x with | none=> some ([],false) | some v=> Zy s t j (n*256+v) ((i+1:Nat):Int) r0 r1 r2:=by
 have hw:IntKind.i64.wrap ((i:Int)+1)=((i+1:Nat):Int):=by rw [w64 (by omega) (by omega)]; omega
 have hget:List.getD r2 (Int.toNat (i:Int)) (Ty.zero .str)=x:=by
  rw [Ymu,Yvu,hx]; rfl
 have hl:i < r2.length:=by
  rcases Nat.lt_or_ge i r2.length with h | h
  ·exact h
  ·rw [List.getElem?_eq_none h] at hx; cases hx
 have hn:n < 16777216:=by
  have:i=0\/i=1\/i=2\/i=3:=by omega
  rcases this with rfl | rfl | rfl | rfl <;> simp at h1 <;> omega
 rw [YLd,show decide ((i:Int) < 4)=true from Yeu (by omega),Ygu,Yj,Yeu hl,Ygu,hget,YSo,Yiu]
 cases hd:dec3 x with
 | none=> rfl
 | some v=>
  have hv:=Y43 hd
  show (bif decide (v < 0) then _ else _)=_
  rw [Yfu (by omega),Yhu]
  show Zy s t j (IntKind.i64.wrap (shl IntKind.i64 n 8+v)) _ r0 r1 r2=_
  rw [show shl IntKind.i64 n 8=n*256 from Yo6 (y:=8) (by omega) (by omega) (by omega),w64 (by omega) (by omega),hw]
theorem Yfs (s:List UInt8) (t:Bool) (j:Int) (a b c d:Int) (r0:List (List UInt8)) (r1:List Int) (r2:List (List UInt8)) (ha:0<=a/\a<=255) (hb:0<=b/\b<=255) (hc:0<=c/\c<=255) (hd:0<=d/\d<=255) (hr:r1.length<=1073741825):
  Zy s t j ((((0*256+a)*256+b)*256+c)*256+d) ((4:Nat):Int) r0 r1 r2=Zx s t (IntKind.i64.wrap (j+1)) r0 (r1++[a*256+b,c*256+d]):=by
 rw [YLd,show decide (((4:Nat):Int) < 4)=false from rfl,Yhu]
 rw [show decide (r1.length+[IntKind.wrap IntKind.u16 (shr IntKind.i64 ((((0*256+a)*256+b)*256+c)*256+d) 16),IntKind.wrap IntKind.u16 (bits Go.BinOp.and IntKind.i64 ((((0*256+a)*256+b)*256+c)*256+d) 65535)].length<=lim)=true from by simp [lim]; omega,Ygu]
 rw [Yit _,YYl (by omega) (by omega),w16 (by omega) (by omega),w16 (by omega) (by omega)]
 congr 3
 ·omega
 ·congr 1; omega
theorem YFs (s:List UInt8) (t:Bool) (j:Int) (r0:List (List UInt8)) (r1:List Int) (x:List UInt8) (hx:x.length<=1073741824) (hr:r1.length<=1073741825):
  ((Ya4 (x,46)).bind fun y1=> bif ((((List.length y1):Nat):Int) !=(4:Int)) then some (([]:List Int),false) else Zy s t j 0 0 r0 r1 y1)=
   match quad x with | none=> some ([],false) | some l=> Zx s t (IntKind.i64.wrap (j+1)) r0 (r1++l):=by
 rw [Y77 x 46 hx,Yiu]
 unfold quad
 generalize YQ x 46=y
 match y with
 | []=> rfl
 | [_]=> rfl
 | [_,_]=> rfl
 | [_,_,_]=> rfl
 | x0::x1::x2::x3::x4::l=>
  rw [show ((((x0::x1::x2::x3::x4::l).length:Nat):Int) !=4)=true from by simp only [Ynu,bne_iff_ne]; omega,Ygu]; rfl
 | [x0,x1,x2,x3]=>
  rw [show ((((([x0,x1,x2,x3]:List (List UInt8)).length):Nat):Int) !=4)=false from rfl,Yhu]
  have s0:=Yi8 s t j 0 0 r0 r1 [x0,x1,x2,x3] x0 (by omega) rfl (by omega) (by simp)
  rw [show ((0:Nat):Int)=0 from rfl] at s0
  rw [s0]
  rw [show Yh6 [x0,x1,x2,x3]=(dec3 x0).bind fun a=> (dec3 x1).bind fun b=> (dec3 x2).bind fun c=> (dec3 x3).bind fun d=> some [a*256+b,c*256+d] from rfl]
  cases h0:dec3 x0 with
  | none=> rfl
  | some a=>
   have b0:=Y43 h0
   simp only [Yiu]
   rw [Yi8 s t j _ 1 r0 r1 [x0,x1,x2,x3] x1 (by omega) rfl (by omega) (by simp; omega)]
   cases h1:dec3 x1 with
   | none=> rfl
   | some b=>
    have b1:=Y43 h1
    simp only [Yiu]
    rw [Yi8 s t j _ 2 r0 r1 [x0,x1,x2,x3] x2 (by omega) rfl (by omega) (by simp; omega)]
    cases h2:dec3 x2 with
    | none=> rfl
    | some c=>
     have b2:=Y43 h2
     simp only [Yiu]
     rw [Yi8 s t j _ 3 r0 r1 [x0,x1,x2,x3] x3 (by omega) rfl (by omega) (by simp; omega)]
     cases h3:dec3 x3 with
     | none=> rfl
     | some d=>
      have b3:=Y43 h3
      simp only [Yiu]
      exact Yfs s t j a b c d r0 r1 _ (by omega) (by omega) (by omega) (by omega) hr
end Go.Abs
namespace Go.Abs
theorem Yhh (s:List UInt8) (i:Nat) (x:List UInt8) (b:List Int) (r0:List (List UInt8)) (hi:i < 4) (hb:b.length=4) (hx:x.length<=3):∀ (k j:Nat) (m:Int),j+k=x.length->0<=m->m < 10 ^ j->(x.drop j).all YB=true->
  Zc1 s (i:Int) x 4 (i:Int) (x.length:Int) (j:Int) (b.set i m) r0=
   if 255 < Yd2 m (x.drop j) then some ([],false) else Zb1 s 4 ((i+1:Nat):Int) (b.set i (Yd2 m (x.drop j))) r0
 | 0,j,m,hk,h0,h1,hd=> by
  have:j=x.length:=by omega
  subst this
  have hg:List.getD (b.set i m) (Int.toNat (i:Int)) (Ty.zero (.int .u16))=m:=by
   rw [Ymu,Yvu,List.getElem?_set_self (by omega)]; rfl
  have hw:IntKind.i64.wrap ((i:Int)+1)=((i+1:Nat):Int):=by rw [w64 (by omega) (by omega)]; omega
  rw [YPc,Yg,Yfu (YGu _),Yhu,Yj,Yeu hi,Ygu,hg,YUu,Yd2,hw]
  by_cases c:255 < m
  ·rw [show decide (m > 255)=true from Yeu c,Ygu,Yku c]
  ·rw [show decide (m > 255)=false from Yfu c,Yhu,Yju c]
 | k+1,j,m,hk,h0,h1,hd=> by
  have hj:j < x.length:=by omega
  have hg:List.getD (b.set i m) (Int.toNat (i:Int)) (Ty.zero (.int .u16))=m:=by
   rw [Ymu,Yvu,List.getElem?_set_self (by omega)]; rfl
  have hget:x.getD (Int.toNat (j:Int)) 0=x[j]:=by
   rw [Ymu,Yvu,Ywu hj]; rfl
  have hw:IntKind.i64.wrap ((j:Int)+1)=((j+1:Nat):Int):=by rw [w64 (by omega) (by omega)]; omega
  have hm:m < 1000:=by
   have:j=0\/j=1\/j=2:=by omega
   rcases this with rfl | rfl | rfl <;> simp at h1 <;> omega
  rw [Yru hj,List.all_cons,Ylu] at hd
  have hdig:=YCg _ hd.1
  rw [YPc,Yg,Yeu hj,Ygu,Yj,Yeu hi,Ygu,Yj,Yeu hj,Ygu,Ygu,hg,hget,hw]
  rw [show ((x[j].toNat:Nat):Int)=Y9 x[j] from rfl,w8 (by omega) (by omega),w16 (x:=10*m) (by omega) (by omega),w16 (x:=Y9 x[j] - 48) (by omega) (by omega),w16 (by omega) (by omega)]
  rw [Ymu,List.set_set,Yru hj,Yd2,Int.mul_comm 10 m]
  exact Yhh s i x b r0 hi hb hx k (j+1) _ (by omega) (by omega) (by rw [Int.pow_succ]; omega) hd.2
theorem Ye8 (s:List UInt8) (i:Nat) (b:List Int) (r0:List (List UInt8)) (x:List UInt8) (hi:i < 4) (hb:b.length=4) (hxi:r0[i]? =some x) (hb0:b[i]? =some 0) (hx:x.length<=1073741824):
  Zb1 s 4 (i:Int) b r0=match dec3 x with | none=> some ([],false) | some v=> Zb1 s 4 ((i+1:Nat):Int) (b.set i v) r0:=by
 have hget:List.getD r0 (Int.toNat (i:Int)) (Ty.zero .str)=x:=by
  rw [Ymu,Yvu,hxi]; rfl
 have hl:i < r0.length:=by
  rcases Nat.lt_or_ge i r0.length with h | h
  ·exact h
  ·rw [List.getElem?_eq_none h] at hxi; cases hxi
 rw [YMc,show decide ((i:Int) < 4)=true from Yeu (by omega),Ygu,Yj,Yeu hl,Ygu,hget,YVl x hx,Yiu]
 by_cases h0:x.length < 1
 ·have:x=[]:=YRu (by omega)
  subst this; rfl
 have hne:(x==([]:List UInt8))=false:=by
  rw [Yqu]; intro e; rw [e] at h0; simp at h0
 rw [hne,Yhu]
 unfold dec3
 by_cases h3:3 < x.length
 ·rw [show decide (((x.length:Nat):Int) > 3)=true from Yeu (by omega),Ygu,Yku (.inr h3)]
 rw [show decide (((x.length:Nat):Int) > 3)=false from Yfu (by omega),Yhu,Yju (show ¬(x.length < 1\/3 < x.length) from by omega)]
 cases hd:x.all YB with
 | false=> rfl
 | true=>
  rw [YEu,Yhu,Yku rfl,show Ya (0:Int) x.length=true from by rw [show (0:Int)=((0:Nat):Int) from rfl,Yj]; exact Yeu (by omega),Ygu,Yde,show Int.toNat (0:Int)=0 from rfl]
  have hbs:b.set i 0=b:=by
   apply List.ext_getElem?
   intro n
   by_cases e:i=n
   ·subst e; rw [List.getElem?_set_self (by omega),hb0]
   ·rw [List.getElem?_set_ne e]
  have loop:=Yhh s i x b r0 hi hb (by omega) x.length 0 0 (by omega) (by omega) (by simp) hd
  rw [show ((0:Nat):Int)=0 from rfl,YZu,hbs] at loop
  rw [loop]
  by_cases c:x.getD 0 0=48
  ·rw [Yeu c,Ygu]
   by_cases d:1 < x.length
   ·rw [show decide (((x.length:Nat):Int) > 1)=true from Yeu (by omega),Ygu,Yku (show x.getD 0 0=48/\1 < x.length from ⟨c,d⟩)]
   ·rw [show decide (((x.length:Nat):Int) > 1)=false from Yfu (by omega),Yhu,Yju (show ¬(x.getD 0 0=48/\1 < x.length) from fun h=> d h.2)]
    split <;> rfl
  ·rw [Yfu c,Yhu,Yju (show ¬(x.getD 0 0=48/\1 < x.length) from fun h=> c h.1)]
   split <;> rfl
theorem YVm (x:List UInt8) (hx:x.length<=1073741824):Yw9 x=match quad x with | none=> some ([],false) | some l=> some (l,true):=by
 rw [YUm,YNj,YY6 x 46 hx,Yiu]
 have hle:∀ y∈YQ x 46,y.length<=1073741824:=by
  intro y hy
  have:=Yp6 46 x [] y hy
  simp at this; omega
 unfold quad
 generalize YQ x 46=y at hle ⊢
 match y,hle with
 | [],_=> rfl
 | [_],_=> rfl
 | [_,_],_=> rfl
 | [_,_,_],_=> rfl
 | x0::x1::x2::x3::x4::l,_=>
  rw [show ((((x0::x1::x2::x3::x4::l).length:Nat):Int) !=4)=true from by simp only [Ynu,bne_iff_ne]; omega,Ygu]; rfl
 | [x0,x1,x2,x3],hle=>
  rw [show ((((([x0,x1,x2,x3]:List (List UInt8)).length):Nat):Int) !=4)=false from rfl,Yhu]
  have s0:=Ye8 x 0 [0,0,0,0] [x0,x1,x2,x3] x0 (by omega) rfl rfl rfl (hle x0 (by simp))
  rw [show ((0:Nat):Int)=0 from rfl] at s0
  rw [show (((([x0,x1,x2,x3]:List (List UInt8)).length:Nat):Int))=4 from rfl,show (Ty.zero (.arr 4 (.int .u16)):List Int)=[0,0,0,0] from rfl,s0]
  rw [show Yh6 [x0,x1,x2,x3]=(dec3 x0).bind fun a=> (dec3 x1).bind fun b=> (dec3 x2).bind fun c=> (dec3 x3).bind fun d=> some [a*256+b,c*256+d] from rfl]
  cases h0:dec3 x0 with
  | none=> rfl
  | some a=>
   have b0:=Y43 h0
   simp only [Yiu]
   rw [Ye8 x 1 _ [x0,x1,x2,x3] x1 (by omega) rfl rfl rfl (hle x1 (by simp))]
   cases h1:dec3 x1 with
   | none=> rfl
   | some b=>
    have b1:=Y43 h1
    simp only [Yiu]
    rw [Ye8 x 2 _ [x0,x1,x2,x3] x2 (by omega) rfl rfl rfl (hle x2 (by simp))]
    cases h2:dec3 x2 with
    | none=> rfl
    | some c=>
     have b2:=Y43 h2
     simp only [Yiu]
     rw [Ye8 x 3 _ [x0,x1,x2,x3] x3 (by omega) rfl rfl rfl (hle x3 (by simp))]
     cases h3:dec3 x3 with
     | none=> rfl
     | some d=>
      have b3:=Y43 h3
      simp only [Yiu]
      rw [YMc,show decide (((3+1:Nat):Int) < 4)=false from rfl,Yhu]
      show some ([bits Go.BinOp.or IntKind.u16 (shl IntKind.u16 a 8) b,bits Go.BinOp.or IntKind.u16 (shl IntKind.u16 c 8) d],true)=_
      rw [Y4i (by omega) (by omega),Y4i (by omega) (by omega),Y5h (by omega) (by omega),Y5h (by omega) (by omega)]
end Go.Abs
namespace Go.Abs
def Yt2 (x:List UInt8):Option Int:=if x.length < 1\/4 < x.length then none else if Y11 16 0 x < 0 then none else some (IntKind.u16.wrap (Y11 16 0 x))
def run6 (t:Bool):List (List UInt8)->Option (List Int)
 | []=> some []
 | x::l=> if t=true/\l=[]/\Y63 x=true then quad x else (Yt2 x).bind fun v=> (run6 t l).map (v::·)
def Y61 (t:Bool) (s:List UInt8):Option (List Int):=if s=[] then some [] else run6 t (YQ s 58)
theorem YJq {α:Type} (x:List UInt8) (r:List Int) (F:List Int->Option (List Int×Bool)) (hr:r.length<=1073741825):
  (bif (x==([]:List UInt8)) then some (([]:List Int),false)
   else bif (decide (((x.length:Nat):Int) > (4:Int))) then some (([]:List Int),false)
   else bif (decide (((List.length ([(48:UInt8),(120:UInt8)]:List UInt8))+x.length)<=(2 ^ 62))) then
    (Y74 (([(48:UInt8),(120:UInt8)]:List UInt8)++x)).bind fun y1=>
     bif (!y1.2) then some (([]:List Int),false)
     else bif (decide (((List.length r)+(List.length ([(IntKind.wrap IntKind.u16 y1.1)]:List Int)))<=(lim))) then F (r++([(IntKind.wrap IntKind.u16 y1.1)]:List Int))
     else none
   else none)=match Yt2 x with | none=> some ([],false) | some v=> F (r++[v]):=by
 unfold Yt2
 by_cases h0:x.length < 1
 ·have:x=[]:=YRu (by omega)
  subst this; rfl
 have hne:(x==([]:List UInt8))=false:=by
  rw [Yqu]; intro e; rw [e] at h0; simp at h0
 rw [hne,Yhu]
 by_cases h4:4 < x.length
 ·rw [show decide (((x.length:Nat):Int) > 4)=true from Yeu (by omega),Ygu,Yku (.inr h4)]
 rw [show decide (((x.length:Nat):Int) > 4)=false from Yfu (by omega),Yhu,Yju (show ¬(x.length < 1\/4 < x.length) from by omega)]
 rw [show decide (((List.length ([(48:UInt8),(120:UInt8)]:List UInt8))+x.length)<=(2 ^ 62))=true from Yeu (by simp; omega),Ygu]
 rw [show ([(48:UInt8),(120:UInt8)]:List UInt8)++x=48::120::x from rfl,Yle _ (by simp; omega),YWa,Yku (show Y9 48=48 from rfl),Yku (show isX 120=true from rfl),Yiu]
 unfold Yz2
 by_cases hn:Y11 16 0 x < 0
 ·rw [Yku hn,Yku hn]; rfl
 ·rw [Yju hn,Yju hn]
  simp only [YEu,Yhu]
  rw [show decide (r.length+[IntKind.u16.wrap (Y11 16 0 x)].length<=lim)=true from Yeu (by simp [lim]; omega),Ygu]
def Ok6 (o:Option (List Int)) (r:List Int) (y:Option (List Int×Bool)):Prop:=match o with
 | none=> ∃ u,y=some (u,false)
 | some l=> y=some (r++l,true)
theorem Ygh (s:List UInt8) (t:Bool) (parts:List (List UInt8)) (hl:parts.length<=1073741825) (hp:∀ x∈parts,x.length<=1073741824):∀ (k j:Nat) (r:List Int),j+k=parts.length->r.length<=j->
  Ok6 (run6 t (parts.drop j)) r (Zv s t (parts.length:Int) (j:Int) r parts)
 | 0,j,r,hk,hr=> by
  have:j=parts.length:=by omega
  subst this
  rw [YGd,Yg,Yfu (YGu _),Yhu,YUu]
  show some (r,true)=some (r++[],true)
  rw [YHu]
 | k+1,j,r,hk,hr=> by
  have hj:j < parts.length:=by omega
  have hget:List.getD parts (Int.toNat (j:Int)) (Ty.zero .str)=parts[j]:=by
   rw [Ymu,Yvu,Ywu hj]; rfl
  have hw:IntKind.i64.wrap ((j:Int)+1)=((j+1:Nat):Int):=by rw [w64 (by omega) (by omega)]; omega
  have hx:=hp _ (List.getElem_mem hj)
  have hwl:IntKind.i64.wrap ((parts.length:Int) - 1)=((parts.length - 1:Nat):Int):=by rw [w64 (by omega) (by omega)]; omega
  have hex:=YJq (α:=Unit) parts[j] r (fun q=> Zv s t (parts.length:Int) ((j+1:Nat):Int) q parts) (by omega)
  have next:∀ v,Ok6 ((run6 t (parts.drop (j+1))).map (v::·)) r (Zv s t (parts.length:Int) ((j+1:Nat):Int) (r++[v]) parts):=by
   intro v
   have ih:=Ygh s t parts hl hp k (j+1) (r++[v]) (by omega) (by simp; omega)
   cases ho:run6 t (parts.drop (j+1)) with
   | none=> rw [ho] at ih; exact ih
   | some l=>
    rw [ho] at ih
    refine (show _=some _ from ih).trans ?_
    simp
  have hexOk:Ok6 ((Yt2 parts[j]).bind fun v=> (run6 t (parts.drop (j+1))).map (v::·)) r (match Yt2 parts[j] with | none=> some ([],false) | some v=> Zv s t (parts.length:Int) ((j+1:Nat):Int) (r++[v]) parts):=by
   cases Yt2 parts[j] with
   | none=> exact ⟨[],rfl⟩
   | some v=> exact next v
  rw [YGd,Yg,Yeu hj,Ygu,Yj,Yeu hj,Ygu,hget,hw,hwl,Yru hj,run6,hex]
  cases t with
  | false=>
   rw [Yhu,Yju (fun h=> Bool.noConfusion h.1)]
   exact hexOk
  | true=>
   rw [Ygu]
   by_cases e:j=parts.length - 1
   ·rw [show (((j:Nat):Int)==((parts.length - 1:Nat):Int))=true from Y7v.2 (by omega),Ygu,Y4p _ hx,Yiu]
    have hnil:parts.drop (j+1)=[]:=YPu (by omega)
    cases hd:Y63 parts[j] with
    | false=>
     rw [Yhu,Yju (fun h=> Bool.noConfusion h.2.2)]
     exact hexOk
    | true=>
     rw [Ygu,Yku ⟨rfl,hnil,rfl⟩,YVm _ hx]
     cases hq:quad parts[j] with
     | none=>
      simp only [Yiu]
      rw [show decide (r.length+([]:List Int).length<=lim)=true from Yeu (by simp [lim]; omega),Ygu]
      exact ⟨_,rfl⟩
     | some l=>
      have hl2:l.length=2:=by
       unfold quad Yh6 at hq
       split at hq
       ·simp only [YLu] at hq
        obtain ⟨a,_,b,_,c,_,d,_,h⟩:=hq
        rw [<-Option.some.inj h]; rfl
       ·cases hq
      simp only [Yiu]
      rw [show decide (r.length+l.length<=lim)=true from Yeu (by simp [lim]; omega),Ygu]
      rfl
   ·rw [show (((j:Nat):Int)==((parts.length - 1:Nat):Int))=false from Yqu.2 (by omega),Yhu]
    have hnn:¬parts.drop (j+1)=[]:=by
     rw [List.drop_eq_nil_iff]; omega
    rw [Yju (fun h=> hnn h.2.1)]
    exact hexOk
theorem YOb (s:List UInt8) (sep:Int):(YQ s sep).length<=s.length+1/\∀ x∈YQ s sep,x.length<=s.length:=by
 refine ⟨Yh3 sep s [],fun x hx=> ?_⟩
 have:=Yp6 sep s [] x hx
 simpa using this
theorem YW6 (s:List UInt8) (t:Bool) (hs:s.length<=1073741823):Ok6 (Y61 t s) [] (Y03 (s,t)):=by
 rw [YTm,Yul]
 unfold Y61
 by_cases h:s=[]
 ·subst h; exact rfl
 ·rw [show (s==([]:List UInt8))=false from Yqu.2 h,Yhu,Yju h]
  simp only
  rw [YY6 s 58 (by omega),Yiu]
  have:=YOb s 58
  exact Ygh s t (YQ s 58) (by omega) (fun x hx=> by have:=this.2 x hx; omega) (YQ s 58).length 0 [] (by omega) (by simp)
theorem Yph (s:List UInt8) (t:Bool) (j:Nat) (r0:List (List UInt8)) (r1:List Int) (x:List UInt8) (hx:r0[j]? =some x) (h4:x.length<=4) (hr:r1.length<=1073741825):∀ (k i:Nat) (n:Int),i+k=x.length->0<=n->n < 16 ^ i->
  Zz s t (j:Int) n (i:Int) r0 r1=if Y11 16 n (x.drop i) < 0 then some ([],false) else Zx s t (IntKind.i64.wrap ((j:Int)+1)) r0 (r1++[IntKind.u16.wrap (Y11 16 n (x.drop i))])
 | 0,i,n,hk,h0,h1=> by
  have:i=x.length:=by omega
  subst this
  have hget:List.getD r0 (Int.toNat (j:Int)) (Ty.zero .str)=x:=by
   rw [Ymu,Yvu,hx]; rfl
  have hl:j < r0.length:=by
   rcases Nat.lt_or_ge j r0.length with h | h
   ·exact h
   ·rw [List.getElem?_eq_none h] at hx; cases hx
  rw [YPd,Yj,Yeu hl,Ygu,hget,Yg,Yfu (YGu _),Yhu,YUu,Y11,Yju (by omega)]
  rw [show decide (r1.length+[IntKind.u16.wrap n].length<=lim)=true from Yeu (by simp [lim]; omega),Ygu]
 | k+1,i,n,hk,h0,h1=> by
  have hi:i < x.length:=by omega
  have hget:List.getD r0 (Int.toNat (j:Int)) (Ty.zero .str)=x:=by
   rw [Ymu,Yvu,hx]; rfl
  have hl:j < r0.length:=by
   rcases Nat.lt_or_ge j r0.length with h | h
   ·exact h
   ·rw [List.getElem?_eq_none h] at hx; cases hx
  have hg:x.getD (Int.toNat (i:Int)) 0=x[i]:=by
   rw [Ymu,Yvu,Ywu hi]; rfl
  have hw:IntKind.i64.wrap ((i:Int)+1)=((i+1:Nat):Int):=by rw [w64 (by omega) (by omega)]; omega
  have hn:n < 4096:=by
   have:i=0\/i=1\/i=2\/i=3:=by omega
   rcases this with rfl | rfl | rfl | rfl <;> simp at h1 <;> omega
  have hb:=YK2 x[i]
  have hnb:=Yd3 (Y9 x[i])
  rw [YPd,Yj,Yeu hl,Ygu,hget,Yg,Yeu hi,Ygu,Ygu,Yj,Yeu hi,Ygu,hg,hw]
  rw [show ((x[i].toNat:Nat):Int)=Y9 x[i] from rfl,YH9 _ hb.1 hb.2,Yiu,Yru hi,Y11]
  by_cases a:nib (Y9 x[i]) < 0
  ·rw [Yeu a,Ygu,Yku (show nib (Y9 x[i]) < 0\/16<=nib (Y9 x[i]) from .inl a),Yku (by omega)]
  ·rw [Yfu a,Yhu,Yju (show ¬(nib (Y9 x[i]) < 0\/16<=nib (Y9 x[i])) from by omega),Yku (show n*16+nib (Y9 x[i]) < 1099511627776 from by omega)]
   rw [show shl IntKind.i64 n 4=n*16 from Yo6 (y:=4) (by omega) (by omega) (by omega),w64 (by omega) (by omega)]
   exact Yph s t j r0 r1 x hx h4 hr k (i+1) _ (by omega) (by omega) (by rw [Int.pow_succ]; omega)
theorem YKq (s:List UInt8) (t:Bool) (j:Nat) (r0:List (List UInt8)) (r1:List Int) (x:List UInt8) (hx:r0[j]? =some x) (hr:r1.length<=1073741825):
  (bif (Ya (j:Int) (List.length r0)) then
   bif (decide ((((List.length (List.getD r0 (Int.toNat (j:Int)) (Ty.zero .str))):Nat):Int) < (1:Int))) then some (([]:List Int),false)
   else bif (Ya (j:Int) (List.length r0)) then
     bif (decide ((((List.length (List.getD r0 (Int.toNat (j:Int)) (Ty.zero .str))):Nat):Int) > (4:Int))) then some (([]:List Int),false)
     else Zz s t (j:Int) (0:Int) (0:Int) r0 r1
    else none
   else none)=match Yt2 x with | none=> some ([],false) | some v=> Zx s t (IntKind.i64.wrap ((j:Int)+1)) r0 (r1++[v]):=by
 have hget:List.getD r0 (Int.toNat (j:Int)) (Ty.zero .str)=x:=by
  rw [Ymu,Yvu,hx]; rfl
 have hl:j < r0.length:=by
  rcases Nat.lt_or_ge j r0.length with h | h
  ·exact h
  ·rw [List.getElem?_eq_none h] at hx; cases hx
 rw [Yj,Yeu hl,Ygu,Ygu,hget]
 unfold Yt2
 by_cases h0:x.length < 1
 ·rw [show decide (((x.length:Nat):Int) < 1)=true from Yeu (by omega),Ygu,Yku (.inl h0)]
 rw [show decide (((x.length:Nat):Int) < 1)=false from Yfu (by omega),Yhu]
 by_cases h4:4 < x.length
 ·rw [show decide (((x.length:Nat):Int) > 4)=true from Yeu (by omega),Ygu,Yku (.inr h4)]
 rw [show decide (((x.length:Nat):Int) > 4)=false from Yfu (by omega),Yhu,Yju (show ¬(x.length < 1\/4 < x.length) from by omega)]
 have:=Yph s t j r0 r1 x hx (by omega) hr x.length 0 0 (by omega) (by omega) (by simp)
 rw [show ((0:Nat):Int)=0 from rfl,YZu] at this
 rw [this]
 split <;> rfl
theorem Yoh (s:List UInt8) (t:Bool) (parts:List (List UInt8)) (hl:parts.length<=1073741825) (hp:∀ x∈parts,x.length<=1073741824):∀ (k j:Nat) (r:List Int),j+k=parts.length->r.length<=j->
  Zx s t (j:Int) parts r=match run6 t (parts.drop j) with | none=> some ([],false) | some l=> some (r++l,true)
 | 0,j,r,hk,hr=> by
  have:j=parts.length:=by omega
  subst this
  rw [Y59,Yg,Yfu (YGu _),Yhu,YUu]
  simp [run6]
 | k+1,j,r,hk,hr=> by
  have hj:j < parts.length:=by omega
  have hxj:parts[j]? =some parts[j]:=Ywu hj
  have hget:List.getD parts (Int.toNat (j:Int)) (Ty.zero .str)=parts[j]:=by
   rw [Ymu,Yvu,hxj]; rfl
  have hw:IntKind.i64.wrap ((j:Int)+1)=((j+1:Nat):Int):=by rw [w64 (by omega) (by omega)]; omega
  have hx:=hp _ (List.getElem_mem hj)
  have hwl:IntKind.i64.wrap ((parts.length:Int) - 1)=((parts.length - 1:Nat):Int):=by rw [w64 (by omega) (by omega)]; omega
  have hex:=YKq s t j parts r parts[j] hxj (by omega)
  rw [hw] at hex
  have hexOk:(match Yt2 parts[j] with | none=> some ([],false) | some v=> Zx s t ((j+1:Nat):Int) parts (r++[v]))=
    match ((Yt2 parts[j]).bind fun v=> (run6 t (parts.drop (j+1))).map (v::·)) with | none=> some ([],false) | some l=> some (r++l,true):=by
   cases Yt2 parts[j] with
   | none=> rfl
   | some v=>
    simp only [Yiu]
    rw [Yoh s t parts hl hp k (j+1) (r++[v]) (by omega) (by simp; omega)]
    cases run6 t (parts.drop (j+1)) with
    | none=> rfl
    | some l=> simp
  rw [Y59,Yg,Yeu hj,Ygu,hwl,Yru hj,run6]
  rw [hex]
  cases t with
  | false=>
   rw [Yhu,Yju (fun h=> Bool.noConfusion h.1)]
   exact hexOk
  | true=>
   rw [Ygu]
   by_cases e:j=parts.length - 1
   ·rw [show (((j:Nat):Int)==((parts.length - 1:Nat):Int))=true from Y7v.2 (by omega),Ygu,Yj,Yeu hj,Ygu,hget,YGn _ hx,Yiu]
    have hnil:parts.drop (j+1)=[]:=YPu (by omega)
    cases hd:Y63 parts[j] with
    | false=>
     rw [Yhu,Yju (fun h=> Bool.noConfusion h.2.2),<-hexOk,<-hex,Yj,Yeu hj,Ygu,hget]
    | true=>
     rw [Ygu,Ygu,Yku ⟨rfl,hnil,rfl⟩,YFs s true (j:Int) parts r parts[j] hx (by omega)]
     cases hq:quad parts[j] with
     | none=> rfl
     | some l=>
      simp only
      rw [hw,Y59,Yg,Yfu (by omega),Yhu]
   ·rw [show (((j:Nat):Int)==((parts.length - 1:Nat):Int))=false from Yqu.2 (by omega),Yhu]
    have hnn:¬parts.drop (j+1)=[]:=by
     rw [List.drop_eq_nil_iff]; omega
    rw [Yju (fun h=> hnn h.2.1)]
    exact hexOk
theorem Y0a (s:List UInt8) (t:Bool) (hs:s.length<=1073741823):Yp2 (s,t)=match Y61 t s with | none=> some ([],false) | some l=> some (l,true):=by
 rw [YQo,YDl]
 unfold Y61
 by_cases h:s=[]
 ·subst h; rfl
 ·rw [show (s==([]:List UInt8))=false from Yqu.2 h,Yhu,Yju h]
  simp only
  rw [Y77 s 58 (by omega),Yiu]
  have:=YOb s 58
  exact Yoh s t (YQ s 58) (by omega) (fun x hx=> by have:=this.2 x hx; omega) (YQ s 58).length 0 [] (by omega) (by simp)
end Go.Abs
namespace Go.Abs
def cc:List UInt8:=[58,58]
def z8:List Int:=[0,0,0,0,0,0,0,0]
def lay8 (a b:List Int):List Int:=(a++z8.drop a.length).take (8 - b.length)++b
def Yu6 (a b:Option (List Int)):List Int×Int:=match a,b with
 | some a,some b=> if 7 < a.length+b.length then (z8,55) else (lay8 a b,0)
 | _,_=> (z8,55)
def Yt6 (a:Option (List Int)):List Int×Int:=match a with
 | some l=> if l.length=8 then (l,0) else (z8,55)
 | none=> (z8,55)
def v6Of (s:List UInt8):List Int×Int:=
 if Lib.index s cc < 0 then Yt6 (Y61 true s) else Yu6 (Y61 false (s.take (Lib.index s cc).toNat)) (Y61 true (s.drop ((Lib.index s cc).toNat+2)))
theorem YMh (t:Bool):∀ (l:List (List UInt8)) (r:List Int),run6 t l=some r->r.length<=l.length+1
 | [],r,h=> by rw [<-Option.some.inj h]; simp
 | x::l,r,h=> by
  unfold run6 at h
  split at h
  ·unfold quad Yh6 at h
   split at h
   ·simp only [YLu] at h
    obtain ⟨a,_,b,_,c,_,d,_,h⟩:=h
    rw [<-Option.some.inj h]; simp
   ·cases h
  ·simp only [YLu,YKu] at h
   obtain ⟨v,_,q,hq,h⟩:=h
   have:=YMh t l q hq
   rw [<-h]; simp only [Ynu]; omega
theorem Ye6 (t:Bool) (s:List UInt8) (r:List Int) (h:Y61 t s=some r):r.length<=s.length+2:=by
 unfold Y61 at h
 split at h
 ·rw [<-Option.some.inj h]; simp
 ·have:=YMh t _ r h
  have:=(YOb s 58).1
  omega
theorem Y9b (L r:List Int) (p i:Nat) (v:Int) (hp:p+r.length<=L.length) (hi:i < r.length) (hv:r[i]? =some v):
  List.set (L.take p++r.take i++L.drop (p+i)) (p+i) v=L.take p++r.take (i+1)++L.drop (p+i+1):=by
 have hlen:(L.take p++r.take i).length=p+i:=by simp; omega
 have hd:L.drop (p+i)=L[p+i]'(by omega)::L.drop (p+i+1):=Yru (by omega)
 have hv':r[i]=v:=by
  rw [Ywu hi] at hv; exact Option.some.inj hv
 rw [List.set_append_right _ _ (by omega),hlen,Nat.sub_self,hd,List.set_cons_zero,List.take_succ_eq_append_getElem hi,hv']
 simp
theorem Ylh (s:List UInt8) (b0 r0:List Int) (h8:r0.length=8):∀ (k i:Nat),i+k=8->Zc s (i:Int) b0 (z8.take 0++r0.take i++z8.drop (0+i)) r0=some (r0,0)
 | 0,i,hk=> by
  have:i=8:=by omega
  subst this
  rw [YSc,show decide (((8:Nat):Int) < 8)=false from rfl,Yhu,YWu (l:=r0) (by omega)]
  simp [z8]
 | k+1,i,hk=> by
  have hi:i < 8:=by omega
  have hw:IntKind.i64.wrap ((i:Int)+1)=((i+1:Nat):Int):=by rw [w64 (by omega) (by omega)]; omega
  have hget:List.getD r0 (Int.toNat (i:Int)) (Ty.zero (.int .u16))=r0[i]:=by
   rw [Ymu,Yvu,Ywu (by omega)]; rfl
  rw [YSc,show decide ((i:Int) < 8)=true from Yeu (by omega),Ygu,Yj,Yeu (by omega),Ygu,Yj,Yeu hi,Ygu,hw,hget,Ymu]
  have:=Y9b z8 r0 0 i r0[i] (by simp [z8,h8]) (by omega) (Ywu (by omega))
  rw [Y2v] at this
  rw [Y2v,this]
  have ih:=Ylh s b0 r0 h8 k (i+1) (by omega)
  rw [Y2v] at ih
  exact ih
theorem Ynh (s:List UInt8) (b0 L r:List Int) (hL:L.length=8) (hr:r.length<=8):∀ (k i:Nat),i+k=r.length->
  Ze s (i:Int) b0 (L.take (8 - r.length)++r.take i++L.drop (8 - r.length+i)) r=some (L.take (8 - r.length)++r,0)
 | 0,i,hk=> by
  have:i=r.length:=by omega
  subst this
  rw [Y2d,Yg,Yfu (YGu _),Yhu,YWu (Nat.le_refl _),YPu (by omega),YHu]
 | k+1,i,hk=> by
  have hi:i < r.length:=by omega
  have hw:IntKind.i64.wrap ((i:Int)+1)=((i+1:Nat):Int):=by rw [w64 (by omega) (by omega)]; omega
  have hw2:IntKind.i64.wrap (IntKind.i64.wrap ((8:Int) - (r.length:Int))+(i:Int))=((8 - r.length+i:Nat):Int):=by
   rw [w64 (x:=(8:Int) - (r.length:Int)) (by omega) (by omega),w64 (by omega) (by omega)]; omega
  have hget:List.getD r (Int.toNat (i:Int)) (Ty.zero (.int .u16))=r[i]:=by
   rw [Ymu,Yvu,Ywu (by omega)]; rfl
  rw [Y2d,Yg,Yeu hi,Ygu,Yj,Yeu hi,Ygu,hw2,Yj,Yeu (by omega),Ygu,hw,hget,Ymu]
  rw [Y9b L r (8 - r.length) i r[i] (by omega) hi (Ywu hi)]
  exact Ynh s b0 L r hL hr k (i+1) (by omega)
theorem Ymh (s:List UInt8) (b0 r q:List Int) (hr:r.length+q.length<=7):∀ (k i:Nat),i+k=r.length->
  Zd s (i:Int) b0 (z8.take 0++r.take i++z8.drop (0+i)) r q=some (lay8 r q,0)
 | 0,i,hk=> by
  have:i=r.length:=by omega
  subst this
  have hz:z8.length=8:=rfl
  rw [YZc,Yg,Yfu (YGu _),Yhu,YWu (Nat.le_refl _),Y2v,List.take_zero,YIu]
  have hL:(r++z8.drop r.length).length=8:=by rw [You,Yzu,hz]; omega
  have:=Ynh s b0 (r++z8.drop r.length) q hL (by omega) q.length 0 (by omega)
  rw [List.take_zero,YHu,Nat.add_zero,Ybv] at this
  exact this
 | k+1,i,hk=> by
  have hi:i < r.length:=by omega
  have hw:IntKind.i64.wrap ((i:Int)+1)=((i+1:Nat):Int):=by rw [w64 (by omega) (by omega)]; omega
  have hget:List.getD r (Int.toNat (i:Int)) (Ty.zero (.int .u16))=r[i]:=by
   rw [Ymu,Yvu,Ywu (by omega)]; rfl
  rw [YZc,Yg,Yeu hi,Ygu,Yj,Yeu hi,Ygu,Yj,Yeu (by omega),Ygu,hw,hget,Ymu]
  have:=Y9b z8 r 0 i r[i] (by simp [z8]; omega) (by omega) (Ywu (by omega))
  rw [Y2v] at this
  rw [Y2v,this]
  have ih:=Ymh s b0 r q hr k (i+1) (by omega)
  rw [Y2v] at ih
  exact ih
theorem YIh (s:List UInt8) (b0:List Int) (hs:s.length<=1073741823):
  ((Yp2 (s,true)).bind fun y0=>
     bif (!y0.2) then some (z8,(55:Int))
     else bif ((((List.length y0.1):Nat):Int) !=(8:Int)) then some (z8,(55:Int))
     else Zc s (0:Int) b0 z8 y0.1)=some (Yt6 (Y61 true s)):=by
 rw [Y0a s true hs]
 unfold Yt6
 cases Y61 true s with
 | none=> rfl
 | some l=>
  simp only [Yiu,YEu,Yhu]
  by_cases h:l.length=8
  ·rw [show (((l.length:Nat):Int) !=8)=false from by simp [h],Yhu,Yku h]
   exact Ylh s b0 l h 8 0 (by omega)
  ·rw [show (((l.length:Nat):Int) !=8)=true from by simp; omega,Ygu,Yju h]
theorem YGs (s:List UInt8) (b0:List Int) (i:Nat) (hi:i+2<=s.length) (hs:s.length<=1073741823):
  (bif (Yi none (some (i:Int)) (List.length s)) then
    (Yp2 ((Ym none (some (i:Int)) s),false)).bind fun y0=>
     bif (Yi (some (IntKind.wrap IntKind.i64 ((i:Int)+(2:Int)))) none (List.length s)) then
      (Yp2 ((Ym (some (IntKind.wrap IntKind.i64 ((i:Int)+(2:Int)))) none s),true)).bind fun y1=>
       bif (!y0.2) then some (z8,(55:Int))
       else bif (!y1.2) then some (z8,(55:Int))
       else bif (decide ((IntKind.wrap IntKind.i64 ((((List.length y0.1):Nat):Int)+(((List.length y1.1):Nat):Int))) > (7:Int))) then some (z8,(55:Int))
       else Zd s (0:Int) b0 z8 y0.1 y1.1
     else none
   else none)=some (Yu6 (Y61 false (s.take i)) (Y61 true (s.drop (i+2)))):=by
 have hw:IntKind.i64.wrap ((i:Int)+2)=((i+2:Nat):Int):=by rw [w64 (by omega) (by omega)]; omega
 have hc:Yi none (some (i:Int)) s.length=true:=by simp [Yi]; omega
 have hcl:Ym none (some (i:Int)) s=s.take i:=by simp [Ym]
 rw [hc,Ygu,hcl,hw,Yi1 hi,YR1]
 simp only [Ygu]
 rw [Y0a _ false (by simp; omega),Y0a _ true (by simp; omega)]
 have l1:=Ye6 false (s.take i)
 have l2:=Ye6 true (s.drop (i+2))
 unfold Yu6
 cases h1:Y61 false (s.take i) with
 | none=>
  cases h2:Y61 true (s.drop (i+2)) with
  | none=> rfl
  | some b=> rfl
 | some a=>
  have l1:=l1 a h1
  cases h2:Y61 true (s.drop (i+2)) with
  | none=> rfl
  | some b=>
   have l2:=l2 b h2
   simp only [Yyu,Yzu] at l1 l2
   simp only [Yiu,YEu,Yhu]
   rw [w64 (by omega) (by omega)]
   by_cases c:7 < a.length+b.length
   ·rw [show decide (((a.length:Nat):Int)+((b.length:Nat):Int) > 7)=true from Yeu (by omega),Ygu,Yku c]
   ·rw [show decide (((a.length:Nat):Int)+((b.length:Nat):Int) > 7)=false from Yfu (by omega),Yhu,Yju c]
    exact Ymh s b0 a b (by omega) a.length 0 (by omega)
theorem YS7:∀ s:List UInt8,0<=Lib.index s cc->(Lib.index s cc).toNat+2<=s.length
 | [],h=> by simp [Lib.index,cc] at h
 | [a],h=> by simp [Lib.index,cc,List.isPrefixOf] at h
 | a::b::l,h=> by
  have ih:=YS7 (b::l)
  rw [Lib.index] at h ⊢
  split
  ·simp
  ·rename_i hp
   rw [Yju hp] at h
   have hge:=Lib.index_ge (b::l) cc
   split
   ·rename_i hn; rw [Yku hn] at h; omega
   ·rename_i hn
    rw [Yju hn] at h
    have h1:Lib.index (b::l) cc≠-1:=by simpa using hn
    have:=ih (by omega)
    simp only [Ynu] at this ⊢
    omega
theorem Ywg (s:List UInt8) (h:s.length < 2):Lib.index s cc=-1:=by
 have hge:=Lib.index_ge s cc
 rcases Int.lt_or_le (Lib.index s cc) 0 with c | c
 ·omega
 ·have:=YS7 s c; omega
theorem pre2 (a b:UInt8) (l:List UInt8):cc.isPrefixOf (a::b::l)=((58==a)&&(58==b)):=by simp [cc,List.isPrefixOf]
def YY3 (s:List UInt8) (i:Nat):List Int×Int:=
 if Lib.index (s.drop i) cc < 0 then Yt6 (Y61 true s) else Yu6 (Y61 false (s.take (i+(Lib.index (s.drop i) cc).toNat))) (Y61 true (s.drop (i+(Lib.index (s.drop i) cc).toNat+2)))
theorem Ykh (s:List UInt8) (b0:List Int) (hs:s.length<=1073741823):∀ (k i:Nat),i+k=s.length->Zb s (-1) (i:Int) b0 z8=some (YY3 s i)
 | 0,i,hk=> by
  have hi:¬(i+1 < s.length):=by omega
  have hw:IntKind.i64.wrap ((i:Int)+1)=((i+1:Nat):Int):=by rw [w64 (by omega) (by omega)]; omega
  rw [Y09,hw,Yg,Yfu hi,Yhu,show decide ((-1:Int) < 0)=true from rfl,Ygu,YIh s b0 hs]
  unfold YY3
  rw [Ywg _ (by simp; omega),Yku (by omega)]
 | k+1,i,hk=> by
  have hw:IntKind.i64.wrap ((i:Int)+1)=((i+1:Nat):Int):=by rw [w64 (by omega) (by omega)]; omega
  by_cases hi:i+1 < s.length
  ·have hi0:i < s.length:=by omega
   have hget:s.getD (Int.toNat (i:Int)) 0=s[i]:=by
    rw [Ymu,Yvu,Ywu hi0]; rfl
   have hget1:s.getD (Int.toNat ((i+1:Nat):Int)) 0=s[i+1]:=by
    rw [Ymu,Yvu,Ywu hi]; rfl
   have b58:∀ b:UInt8,(((b.toNat:Nat):Int)==58)=(58==b):=by
    intro b
    by_cases h:b=58
    ·subst h; rfl
    ·have:b.toNat≠58:=fun e=> h (UInt8.toNat_inj.1 e)
     rw [show ((58:UInt8)==b)=false from Yqu.2 (fun e=> h e.symm)]
     exact Yqu.2 (by omega)
   have hpre:cc.isPrefixOf (s.drop i)=((58==s[i])&&(58==s[i+1])):=by
    rw [Yru hi0,Yru hi,pre2]
   have ih:=Ykh s b0 hs k (i+1) (by omega)
   have hnext:cc.isPrefixOf (s.drop i)=false->YY3 s i=YY3 s (i+1):=by
    intro hp
    have hix:Lib.index (s.drop i) cc=if Lib.index (s.drop (i+1)) cc==-1 then -1 else Lib.index (s.drop (i+1)) cc+1:=by
     rw [Yru hi0] at hp ⊢
     rw [Lib.index,Yju (by rw [hp]; simp)]
    have hge:=Lib.index_ge (s.drop (i+1)) cc
    unfold YY3
    rw [hix]
    by_cases c:Lib.index (s.drop (i+1)) cc=-1
    ·rw [c]; rfl
    ·rw [Yju (show ¬((Lib.index (s.drop (i+1)) cc==-1)=true) from by simpa using c),Yju (show ¬(Lib.index (s.drop (i+1)) cc+1 < 0) from by omega),Yju (show ¬(Lib.index (s.drop (i+1)) cc < 0) from by omega)]
     rw [show i+(Lib.index (s.drop (i+1)) cc+1).toNat=i+1+(Lib.index (s.drop (i+1)) cc).toNat from by omega]
   rw [Y09,hw,Yg,Yeu hi,Ygu,Yj,Yeu hi0,Ygu,hget,b58,Yj,Yeu hi,Ygu,hget1,b58]
   cases h1:(58==s[i]) with
   | false=>
    rw [Yhu,ih,hnext (by rw [hpre,h1]; rfl)]
   | true=>
    rw [Ygu]
    cases h2:(58==s[i+1]) with
    | false=>
     rw [Yhu,ih,hnext (by rw [hpre,h2,Bool.and_false])]
    | true=>
     rw [Ygu,show decide ((i:Int) < 0)=false from Yfu (by omega),Yhu,YGs s b0 i (by omega) hs]
     have hix:Lib.index (s.drop i) cc=0:=by
      have hp:cc.isPrefixOf (s.drop i)=true:=by rw [hpre,h1,h2]; rfl
      rw [Yru hi0] at hp ⊢
      rw [Lib.index,Yku hp]
     unfold YY3
     rw [hix,Yju (by omega)]
     rfl
  ·rw [Y09,hw,Yg,Yfu hi,Yhu,show decide ((-1:Int) < 0)=true from rfl,Ygu,YIh s b0 hs]
   unfold YY3
   rw [Ywg _ (by simp; omega),Yku (by omega)]
theorem YCo (s:List UInt8) (hs:s.length<=1073741823):YU9 s=some (v6Of s):=by
 rw [YBo,YTj]
 refine (Ykh s _ hs s.length 0 (by omega)).trans ?_
 unfold YY3 v6Of
 rw [YZu,Y2v]
theorem YCf (a b:List Int) (h:a.length+b.length<=8):
  (List.take (Int.toNat (IntKind.i64.wrap ((8:Int) - (b.length:Int)))) ((List.take 0 z8++List.take (8 - 0) a)++List.drop (0+min a.length (8 - 0)) z8)++List.take (8 - Int.toNat (IntKind.i64.wrap ((8:Int) - (b.length:Int)))) b)++
   List.drop (Int.toNat (IntKind.i64.wrap ((8:Int) - (b.length:Int)))+min b.length (8 - Int.toNat (IntKind.i64.wrap ((8:Int) - (b.length:Int))))) ((List.take 0 z8++List.take (8 - 0) a)++List.drop (0+min a.length (8 - 0)) z8)=lay8 a b:=by
 have hw:Int.toNat (IntKind.i64.wrap ((8:Int) - (b.length:Int)))=8 - b.length:=by rw [w64 (by omega) (by omega)]; omega
 have hA:(List.take 0 z8++List.take (8 - 0) a)++List.drop (0+min a.length (8 - 0)) z8=a++z8.drop a.length:=by
  rw [List.take_zero,YIu,YWu (by omega),Y2v,Nat.min_eq_left (by omega)]
 have hl:(a++z8.drop a.length).length=8:=by rw [You,Yzu,show z8.length=8 from rfl]; omega
 unfold lay8
 rw [hw,hA]
 generalize a++z8.drop a.length=A at hl
 rw [YWu (l:=b) (by omega),Nat.min_eq_left (by omega),YPu (by omega),YHu]
theorem cut8 (b:List Int) (h:b.length<=8):Yi (some (IntKind.i64.wrap ((8:Int) - (b.length:Int)))) none 8=true:=by
 rw [w64 (by omega) (by omega),show ((8:Int) - (b.length:Int))=((8 - b.length:Nat):Int) from by omega]
 exact Yi1 (by omega)
theorem Y6p (s:List UInt8) (hs:s.length<=1073741823):
  Y8a (s,[58,58])=some (if Lib.index s cc < 0 then (s,[],false) else (s.take (Lib.index s cc).toNat,s.drop ((Lib.index s cc).toNat+2),true)):=by
 rw [Y5p,Yql,YXm,YAj,Y0n,Yl2,show decide (s.length < 4294967281)=true from Yeu (by omega),Ygu,Yiu]
 rw [show ([58,58]:List UInt8)=cc from rfl]
 by_cases h:Lib.index s cc < 0
 ·rw [show decide (Lib.index s cc>=0)=false from Yfu (by omega),Yhu,Yku h]; rfl
 ·have hle:=YS7 s (by omega)
  rw [show decide (Lib.index s cc>=0)=true from Yeu (by omega),Ygu,Yju h]
  obtain ⟨n,hn⟩:=Y6v (show 0<=Lib.index s cc by omega)
  rw [hn] at hle ⊢
  rw [Ymu] at hle ⊢
  have hc:Yi none (some (n:Int)) s.length=true:=by simp [Yi]; omega
  have hcl:Ym none (some (n:Int)) s=s.take n:=by simp [Ym]
  have hw:IntKind.i64.wrap ((n:Int)+((cc.length:Nat):Int))=((n+2:Nat):Int):=by
   rw [show ((cc.length:Nat):Int)=2 from rfl,w64 (by omega) (by omega)]; omega
  rw [hc,Ygu,hcl,hw,Yi1 hle,Ygu,YR1]; rfl
theorem Yzm (s:List UInt8) (hs:s.length<=1073741823):Yr9 s=some (v6Of s):=by
 rw [Yym,YMj,Y6p s hs,Yiu]
 unfold v6Of
 by_cases h:Lib.index s cc < 0
 ·rw [Yku h,Yku h]
  simp only [YFu,Ygu,Yhu]
  have o1:=YW6 s true hs
  have o2:Y03 ([],true)=some ([],true):=YW6 [] true (by simp)
  have ln:=Ye6 true s
  unfold Yt6
  cases hp:Y61 true s with
  | none=>
   rw [hp] at o1
   obtain ⟨u,hu⟩:=o1
   rw [hu,o2]; rfl
  | some l=>
   rw [hp] at o1
   have ln:=ln l hp
   have hu:Y03 (s,true)=some (l,true):=o1
   rw [hu,o2]
   simp only [Yiu,YEu,Yhu]
   rw [w64 (by simp only [Ysu]; omega) (by simp only [Ysu]; omega)]
   rw [show ((l.length:Nat):Int)+((([]:List Int).length:Nat):Int)=(l.length:Int) from by simp]
   by_cases c:l.length=8
   ·rw [show (((l.length:Nat):Int) !=8)=false from by simp [c],Yhu,Yku c,cut8 [] (by simp),Ygu]
    have:=YCf l [] (by simp [c])
    refine congrArg some (Prod.ext ?_ rfl)
    refine this.trans ?_
    unfold lay8
    rw [c,show z8.drop 8=[] from rfl,YHu,YHu,YWu (by simp [c])]
   ·rw [show (((l.length:Nat):Int) !=8)=true from by simp; omega,Ygu,Yju c]; rfl
 ·rw [Yju h,Yju h]
  have hle:=YS7 s (by omega)
  simp only [YEu,Ygu,Yhu]
  have o1:=YW6 (s.take (Lib.index s cc).toNat) false (by simp; omega)
  have o2:=YW6 (s.drop ((Lib.index s cc).toNat+2)) true (by simp; omega)
  have l1:=Ye6 false (s.take (Lib.index s cc).toNat)
  have l2:=Ye6 true (s.drop ((Lib.index s cc).toNat+2))
  unfold Yu6
  cases h1:Y61 false (s.take (Lib.index s cc).toNat) with
  | none=>
   rw [h1] at o1
   obtain ⟨u,hu⟩:=o1
   rw [hu]
   cases h2:Y61 true (s.drop ((Lib.index s cc).toNat+2)) with
   | none=>
    rw [h2] at o2
    obtain ⟨u2,hu2⟩:=o2
    rw [hu2]; rfl
   | some b=>
    rw [h2] at o2
    rw [show Y03 (s.drop ((Lib.index s cc).toNat+2),true)=some (b,true) from o2]; rfl
  | some a=>
   rw [h1] at o1
   have l1:=l1 a h1
   rw [show Y03 (s.take (Lib.index s cc).toNat,false)=some (a,true) from o1]
   cases h2:Y61 true (s.drop ((Lib.index s cc).toNat+2)) with
   | none=>
    rw [h2] at o2
    obtain ⟨u2,hu2⟩:=o2
    rw [hu2]; rfl
   | some b=>
    rw [h2] at o2
    have l2:=l2 b h2
    rw [show Y03 (s.drop ((Lib.index s cc).toNat+2),true)=some (b,true) from o2]
    simp only [Yyu,Yzu] at l1 l2
    simp only [Yiu,YEu,Yhu]
    rw [w64 (by omega) (by omega)]
    by_cases c:7 < a.length+b.length
    ·rw [show decide (((a.length:Nat):Int)+((b.length:Nat):Int) > 7)=true from Yeu (by omega),Ygu,Yku c]; rfl
    ·rw [show decide (((a.length:Nat):Int)+((b.length:Nat):Int) > 7)=false from Yfu (by omega),Yhu,Yju c,cut8 b (by omega),Ygu]
     exact congrArg some (Prod.ext (YCf a b (by omega)) rfl)
end Go.Abs
namespace Go.Abs
end Go.Abs
