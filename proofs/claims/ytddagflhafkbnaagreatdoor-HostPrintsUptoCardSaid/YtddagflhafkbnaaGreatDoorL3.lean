/- Part L3 of the proof: see the last text of the claim. No condition of its own. -/
import Derived.Test.YtddagflhafkbnaaGreatDoorL2
import Derived.Test.YtddagflhafkbnaaGreatDoorQ2
import Derived.Test.YtddagflhafkbnaaGreatDoorQ3
set_option linter.all false
set_option autoImplicit false
namespace Go.Abs
def bat (s:List UInt8) (k:Nat):Int:=Y8 (s.getD k 0)
theorem Yt (s:List UInt8) (k:Nat):0<=bat s k/\bat s k<=255:=YI2 _
def c2 (s:List UInt8) (k:Nat):Int:=bat s k % 32*64+bat s (k+1) % 64
def c3 (s:List UInt8) (k:Nat):Int:=bat s k % 16*4096+bat s (k+1) % 64*64+bat s (k+2) % 64
def c4 (s:List UInt8) (k:Nat):Int:=bat s k % 8*262144+bat s (k+1) % 64*4096+bat s (k+2) % 64*64+bat s (k+3) % 64
def scal (r:Int):Bool:=decide (0<=r/\r<=1114111/\¬(55296<=r/\r<=57343))
def ut1 (s:List UInt8) (k:Nat):Bool:=decide (bat s k < 128)
def ut2 (s:List UInt8) (k:Nat):Bool:=decide (k+1 < s.length/\bat s k / 32=6/\bat s (k+1) / 64=2/\128<=c2 s k)
def ut3 (s:List UInt8) (k:Nat):Bool:=decide (k+2 < s.length/\bat s k / 16=14/\bat s (k+1) / 64=2/\bat s (k+2) / 64=2/\2048<=c3 s k)&&scal (c3 s k)
def ut4 (s:List UInt8) (k:Nat):Bool:=decide (k+3 < s.length/\bat s k / 8=30/\bat s (k+1) / 64=2/\bat s (k+2) / 64=2/\bat s (k+3) / 64=2/\65536<=c4 s k)&&scal (c4 s k)
def Yk (s:List UInt8) (k:Nat):Int×(Int×Bool):=
 if ut1 s k=true then (bat s k,1,false) else if ut2 s k=true then (c2 s k,2,false) else if ut3 s k=true then (c3 s k,3,false) else if ut4 s k=true then (c4 s k,4,false) else (65533,1,true)
theorem YIp (a0 a1 a2 a3 C2 C3 C4 k n:Nat) (s3 s4:Bool) (b0 b1 b2 b3 D2 D3 D4:Int) (hb0:b0=(a0:Int)) (hb1:b1=(a1:Int)) (hb2:b2=(a2:Int)) (hb3:b3=(a3:Int)) (hD2:D2=(C2:Int)) (hD3:D3=(C3:Int)) (hD4:D4=(C4:Int)):
  Prod.map (fun x:Nat=> ((x:Nat):Int)) (fun x:Nat=> ((x:Nat):Int)) (if a0 < 128 then (a0,1) else if a0 / 32=6/\k+1 < n/\a1 / 64=2 then (if C2>=128 then (C2,2) else (65533,1))
   else if (a0 / 16=14/\k+1 < n/\a1 / 64=2)/\k+2 < n/\a2 / 64=2 then (if C3>=2048/\s3=true then (C3,3) else (65533,1))
   else if ((a0 / 8=30/\k+1 < n/\a1 / 64=2)/\k+2 < n/\a2 / 64=2)/\k+3 < n/\a3 / 64=2 then (if C4>=65536/\s4=true then (C4,4) else (65533,1)) else (65533,1))=
  (fun y:Int×(Int×Bool)=> (y.1,y.2.1)) (if b0 < 128 then (b0,1,false) else if k+1 < n/\b0 / 32=6/\b1 / 64=2/\128<=D2 then (D2,2,false)
   else if (k+2 < n/\b0 / 16=14/\b1 / 64=2/\b2 / 64=2/\2048<=D3)/\s3=true then (D3,3,false)
   else if (k+3 < n/\b0 / 8=30/\b1 / 64=2/\b2 / 64=2/\b3 / 64=2/\65536<=D4)/\s4=true then (D4,4,false) else (65533,1,true)):=by
 subst hb0 hb1 hb2 hb3 hD2 hD3 hD4
 by_cases q1:a0 < 128
 ·rw [Ybu q1,Ybu (show (a0:Int) < 128 by omega)]; rfl
 rw [Yau q1,Yau (show ¬((a0:Int) < 128) by omega)]
 by_cases q2:a0 / 32=6/\k+1 < n/\a1 / 64=2
 ·rw [Ybu q2]
  by_cases q:C2>=128
  ·rw [Ybu q,Ybu (show k+1 < n/\(a0:Int) / 32=6/\(a1:Int) / 64=2/\128<=(C2:Int) by omega)]; rfl
  ·rw [Yau q,Yau (show ¬(k+1 < n/\(a0:Int) / 32=6/\(a1:Int) / 64=2/\128<=(C2:Int)) by omega),
    Yau (show ¬((k+2 < n/\(a0:Int) / 16=14/\(a1:Int) / 64=2/\(a2:Int) / 64=2/\2048<=(C3:Int))/\s3=true) from fun h=> by omega),
    Yau (show ¬((k+3 < n/\(a0:Int) / 8=30/\(a1:Int) / 64=2/\(a2:Int) / 64=2/\(a3:Int) / 64=2/\65536<=(C4:Int))/\s4=true) from fun h=> by omega)]
   rfl
 rw [Yau q2,Yau (show ¬(k+1 < n/\(a0:Int) / 32=6/\(a1:Int) / 64=2/\128<=(C2:Int)) by omega)]
 by_cases q3:(a0 / 16=14/\k+1 < n/\a1 / 64=2)/\k+2 < n/\a2 / 64=2
 ·rw [Ybu q3]
  by_cases q:C3>=2048/\s3=true
  ·rw [Ybu q,Ybu (show (k+2 < n/\(a0:Int) / 16=14/\(a1:Int) / 64=2/\(a2:Int) / 64=2/\2048<=(C3:Int))/\s3=true from ⟨by omega,q.2⟩)]; rfl
  ·rw [Yau q,Yau (show ¬((k+2 < n/\(a0:Int) / 16=14/\(a1:Int) / 64=2/\(a2:Int) / 64=2/\2048<=(C3:Int))/\s3=true) from fun h=> q ⟨by omega,h.2⟩),
    Yau (show ¬((k+3 < n/\(a0:Int) / 8=30/\(a1:Int) / 64=2/\(a2:Int) / 64=2/\(a3:Int) / 64=2/\65536<=(C4:Int))/\s4=true) from fun h=> by omega)]
   rfl
 rw [Yau q3,Yau (show ¬((k+2 < n/\(a0:Int) / 16=14/\(a1:Int) / 64=2/\(a2:Int) / 64=2/\2048<=(C3:Int))/\s3=true) from fun h=> by omega)]
 by_cases q4:((a0 / 8=30/\k+1 < n/\a1 / 64=2)/\k+2 < n/\a2 / 64=2)/\k+3 < n/\a3 / 64=2
 ·rw [Ybu q4]
  by_cases q:C4>=65536/\s4=true
  ·rw [Ybu q,Ybu (show (k+3 < n/\(a0:Int) / 8=30/\(a1:Int) / 64=2/\(a2:Int) / 64=2/\(a3:Int) / 64=2/\65536<=(C4:Int))/\s4=true from ⟨by omega,q.2⟩)]; rfl
  ·rw [Yau q,Yau (show ¬((k+3 < n/\(a0:Int) / 8=30/\(a1:Int) / 64=2/\(a2:Int) / 64=2/\(a3:Int) / 64=2/\65536<=(C4:Int))/\s4=true) from fun h=> q ⟨by omega,h.2⟩)]
   rfl
 rw [Yau q4,Yau (show ¬((k+3 < n/\(a0:Int) / 8=30/\(a1:Int) / 64=2/\(a2:Int) / 64=2/\(a3:Int) / 64=2/\65536<=(C4:Int))/\s4=true) from fun h=> by omega)]
 rfl
set_option maxRecDepth 20000 in
theorem Yx7 (s:List UInt8) (k:Nat):(((Yx s k).1:Nat):Int)=(Yk s k).1/\(((Yx s k).2:Nat):Int)=(Yk s k).2.1:=by
 have hsz:(⟨s.toArray⟩:ByteArray).size=s.length:=by simp [ByteArray.size]
 have hv:∀ n:Int,Utf8.valid n=scal n:=by
  intro n
  unfold Utf8.valid scal
  rw [Bool.eq_iff_iff]
  simp only [Bool.or_eq_true,Ycu,You]
  omega
 have hre:Utf8.runeError=65533:=rfl
 have e2:c2 s k=(((s.getD k 0).toNat % 32*64+(s.getD (k+1) 0).toNat % 64:Nat):Int):=by unfold c2 bat Y8; omega
 have e3:c3 s k=(((s.getD k 0).toNat % 16*4096+(s.getD (k+1) 0).toNat % 64*64+(s.getD (k+2) 0).toNat % 64:Nat):Int):=by unfold c3 bat Y8; omega
 have e4:c4 s k=(((s.getD k 0).toNat % 8*262144+(s.getD (k+1) 0).toNat % 64*4096+(s.getD (k+2) 0).toNat % 64*64+(s.getD (k+3) 0).toNat % 64:Nat):Int):=by unfold c4 bat Y8; omega
 have h:=YIp (s.getD k 0).toNat (s.getD (k+1) 0).toNat (s.getD (k+2) 0).toNat (s.getD (k+3) 0).toNat ((s.getD k 0).toNat % 32*64+(s.getD (k+1) 0).toNat % 64)
  ((s.getD k 0).toNat % 16*4096+(s.getD (k+1) 0).toNat % 64*64+(s.getD (k+2) 0).toNat % 64) ((s.getD k 0).toNat % 8*262144+(s.getD (k+1) 0).toNat % 64*4096+(s.getD (k+2) 0).toNat % 64*64+(s.getD (k+3) 0).toNat % 64) k s.length (scal (c3 s k)) (scal (c4 s k)) (bat s k) (bat s (k+1)) (bat s (k+2)) (bat s (k+3)) (c2 s k) (c3 s k) (c4 s k) rfl rfl rfl rfl e2 e3 e4
 have hl:Yx s k=(if (s.getD k 0).toNat < 128 then ((s.getD k 0).toNat,1) else if (s.getD k 0).toNat / 32=6/\k+1 < s.length/\(s.getD (k+1) 0).toNat / 64=2 then (if (s.getD k 0).toNat % 32*64+(s.getD (k+1) 0).toNat % 64>=128 then ((s.getD k 0).toNat % 32*64+(s.getD (k+1) 0).toNat % 64,2) else (65533,1))
   else if ((s.getD k 0).toNat / 16=14/\k+1 < s.length/\(s.getD (k+1) 0).toNat / 64=2)/\k+2 < s.length/\(s.getD (k+2) 0).toNat / 64=2 then (if (s.getD k 0).toNat % 16*4096+(s.getD (k+1) 0).toNat % 64*64+(s.getD (k+2) 0).toNat % 64>=2048/\scal (c3 s k)=true then ((s.getD k 0).toNat % 16*4096+(s.getD (k+1) 0).toNat % 64*64+(s.getD (k+2) 0).toNat % 64,3) else (65533,1))
   else if (((s.getD k 0).toNat / 8=30/\k+1 < s.length/\(s.getD (k+1) 0).toNat / 64=2)/\k+2 < s.length/\(s.getD (k+2) 0).toNat / 64=2)/\k+3 < s.length/\(s.getD (k+3) 0).toNat / 64=2 then (if (s.getD k 0).toNat % 8*262144+(s.getD (k+1) 0).toNat % 64*4096+(s.getD (k+2) 0).toNat % 64*64+(s.getD (k+3) 0).toNat % 64>=65536/\scal (c4 s k)=true then ((s.getD k 0).toNat % 8*262144+(s.getD (k+1) 0).toNat % 64*4096+(s.getD (k+2) 0).toNat % 64*64+(s.getD (k+3) 0).toNat % 64,4) else (65533,1)) else (65533,1)):=by
  unfold Yx Utf8.decode
  simp only [Nat.add_zero,hsz,Yya,hv,<-e3,<-e4,hre,Ycu,beq_iff_eq,You]
 have hr2:Yk s k=(if bat s k < 128 then (bat s k,1,false) else if k+1 < s.length/\bat s k / 32=6/\bat s (k+1) / 64=2/\128<=c2 s k then (c2 s k,2,false)
   else if (k+2 < s.length/\bat s k / 16=14/\bat s (k+1) / 64=2/\bat s (k+2) / 64=2/\2048<=c3 s k)/\scal (c3 s k)=true then (c3 s k,3,false)
   else if (k+3 < s.length/\bat s k / 8=30/\bat s (k+1) / 64=2/\bat s (k+2) / 64=2/\bat s (k+3) / 64=2/\65536<=c4 s k)/\scal (c4 s k)=true then (c4 s k,4,false) else (65533,1,true)):=by
  unfold Yk ut1 ut2 ut3 ut4
  simp only [Ycu,You]
 rw [<-hr2,<-hl] at h
 exact ⟨congrArg Prod.fst h,congrArg Prod.snd h⟩
end Go.Abs
namespace Go.Abs
theorem w32 {x:Int} (h1:-2147483648<=x) (h2:x<=2147483647):IntKind.i32.wrap x=x:=by
 change (if (true&&decide (x % (4294967296:Int)>=(2147483648:Int)))=true then x % (4294967296:Int) - (4294967296:Int) else x % (4294967296:Int))=x
 by_cases h:x % (4294967296:Int)>=(2147483648:Int)
 ·rw [Ybu (by simp [h])]; omega
 ·rw [Yau (by simp [h])]; omega
def Yu (r:Int):List Int:=
 if r < 128 then [r] else if r < 2048 then [192+r / 64,128+r % 64] else if r < 65536 then [224+r / 4096,128+r / 64 % 64,128+r % 64] else [240+r / 262144,128+r / 4096 % 64,128+r / 64 % 64,128+r % 64]
theorem YY6 (r:Int):YH4 r=some (scal r):=by
 rw [YYn,YJj]
 unfold scal
 by_cases a:0<=r
 ·rw [show decide (r>=0)=true from Y5u a,Y7u]
  by_cases b:r<=1114111
  ·rw [Y5u b,Y7u]
   by_cases c:r < 55296
   ·rw [Y5u c,Y7u,Y5u (by omega)]
   ·rw [Y6u c,Y8u]
    congr 1
    by_cases d:r > 57343
    ·rw [Y5u d,Y5u (by omega)]
    ·rw [Y6u d,Y6u (by omega)]
  ·rw [Y6u b,Y8u,Y6u (by omega)]
 ·rw [show decide (r>=0)=false from Y6u (by omega),Y8u,Y6u (by omega)]
theorem YV6 (r:Int) (h0:0<=r) (h1:r < 2097152):YK2 r=some (Yu r):=by
 rw [YUn,YJk]
 unfold Yu
 have td:∀ d:Int,0 < d->Int.tdiv r d=r / d:=fun d _=> YDu h0
 have tm:∀ x:Int,0<=x->Int.tmod x 64=x % 64:=fun x hx=> Int.tmod_eq_emod_of_nonneg hx
 by_cases a:r < 128
 ·rw [Y5u a,Y7u,Ybu a,w8 h0 (by omega)]
 ·rw [Y6u a,Y8u,Yau a,td 64 (by omega),tm r h0,td 4096 (by omega),td 262144 (by omega)]
  rw [w32 (x:=r / 64) (by omega) (by omega),w32 (x:=128+r % 64) (by omega) (by omega),w32 (x:=r / 4096) (by omega) (by omega),w32 (x:=r / 262144) (by omega) (by omega),tm (r / 64) (by omega),tm (r / 4096) (by omega)]
  rw [w8 (x:=128+r % 64) (by omega) (by omega),w32 (x:=128+r / 64 % 64) (by omega) (by omega),w8 (x:=128+r / 64 % 64) (by omega) (by omega),w32 (x:=128+r / 4096 % 64) (by omega) (by omega),w8 (x:=128+r / 4096 % 64) (by omega) (by omega)]
  by_cases b:r < 2048
  ·rw [Y5u b,Y7u,Ybu b,w32 (by omega) (by omega),w8 (by omega) (by omega)]
  ·rw [Y6u b,Y8u,Yau b]
   by_cases c:r < 65536
   ·rw [Y5u c,Y7u,Ybu c,w32 (by omega) (by omega),w8 (by omega) (by omega)]
   ·rw [Y6u c,Y8u,Yau c,w32 (by omega) (by omega),w8 (by omega) (by omega)]
def atB (s:List UInt8) (k:Nat):List Int->Bool
 | []=> true
 | b::l=> decide (k < s.length/\bat s k=b)&&atB s (k+1) l
theorem Yrh (s:List UInt8) (k:Nat) (bs:List Int) (hs:s.length<=1073741824) (hb:bs.length<=4) (hk:k+bs.length<=s.length):∀ (m i:Nat),i+m=bs.length->Zk3 s (k:Int) bs (i:Int)=some (atB s (k+i) (bs.drop i))
 | 0,i,h=> by
  have:i=bs.length:=by omega
  subst this
  rw [Yed,Yg,Y6u (Yxu _),Y8u,List.drop_length]; rfl
 | m+1,i,h=> by
  have hi:i < bs.length:=by omega
  have hw:IntKind.i64.wrap ((k:Int)+(i:Int))=((k+i:Nat):Int):=by rw [w64 (by omega) (by omega)]; omega
  have hw1:IntKind.i64.wrap ((i:Int)+1)=((i+1:Nat):Int):=by rw [w64 (by omega) (by omega)]; omega
  have hg:List.getD bs (Int.toNat (i:Int)) (Ty.zero (.int .u8))=bs[i]:=by
   rw [Ydu,Ymu,Ynu hi]; rfl
  rw [Yed,Yg,Y5u hi,Y7u,hw,hw1,Yj,Y5u (by omega),Y7u,Yj,Y5u hi,Y7u,hg,Ydu,Yiu hi,atB]
  rw [show (((s.getD (k+i) 0).toNat:Nat):Int)=bat s (k+i) from rfl]
  by_cases e:bat s (k+i)=bs[i]
  ·rw [show (bat s (k+i) !=bs[i])=false from by simpa using e,Y8u,Yrh s k bs hs hb hk m (i+1) (by omega),Y5u ⟨by omega,e⟩,Bool.true_and,Nat.add_assoc]
  ·rw [show (bat s (k+i) !=bs[i])=true from by simpa using e,Y7u,Y6u (fun h=> e h.2),Bool.false_and]
theorem Y5f (s:List UInt8) (k:Nat) (bs:List Int) (hs:s.length<=1073741824) (hb:bs.length<=4) (hk:k<=s.length):YH5 (s,(k:Int),bs)=some (atB s k bs):=by
 rw [Y4o,YMk]
 simp only
 rw [w64 (by omega) (by omega)]
 by_cases h:k+bs.length<=s.length
 ·rw [show decide ((s.length:Int) - (k:Int) < (bs.length:Int))=false from Y6u (by omega),Y8u]
  exact Yrh s k bs hs hb h bs.length 0 (by omega)
 ·rw [show decide ((s.length:Int) - (k:Int) < (bs.length:Int))=true from Y5u (by omega),Y7u]
  have:∀ (l:List Int) (k:Nat),s.length < k+l.length->k<=s.length->atB s k l=false:=by
   intro l
   induction l with
   | nil=> intro k h1 h2; simp at h1; omega
   | cons b l ih=>
    intro k h1 h2
    rw [atB]
    by_cases c:k < s.length
    ·rw [ih (k+1) (by simp only [Yeu] at h1; omega) (by omega),Bool.and_false]
    ·rw [Y6u (fun h=> c h.1),Bool.false_and]
  rw [this bs k (by omega) hk]
theorem Yv5 {x:Int} (m:Nat) (h0:0<=x) (h1:x<=255) (hm:m<=8):bits Go.BinOp.and IntKind.u8 x ((2 ^ m - 1:Nat):Int)=x % ((2 ^ m:Nat):Int):=by
 obtain ⟨n,rfl⟩:=Int.eq_ofNat_of_zero_le h0
 have hp:2 ^ m<=256:=by
  have:=Nat.pow_le_pow_right (n:=2) (by omega) hm
  simpa using this
 have hp0:0 < 2 ^ m:=Nat.pow_pos (by omega)
 have e1:(BitVec.ofInt 8 (n:Int)).toNat=n:=by
  rw [BitVec.toNat_ofInt]; omega
 have e2:(BitVec.ofInt 8 (((2 ^ m - 1:Nat):Nat):Int)).toNat=2 ^ m - 1:=by
  rw [BitVec.toNat_ofInt]; omega
 have e:(BitVec.ofInt 8 (n:Int)&&&BitVec.ofInt 8 (((2 ^ m - 1:Nat):Nat):Int)).toNat=n % 2 ^ m:=by
  rw [BitVec.toNat_and,e1,e2,Nat.and_two_pow_sub_one_eq_mod]
 show IntKind.u8.wrap (((BitVec.ofInt 8 (n:Int)&&&BitVec.ofInt 8 (((2 ^ m - 1:Nat):Nat):Int)).toNat:Nat):Int)=_
 have hlt:n % 2 ^ m < 2 ^ m:=Nat.mod_lt _ hp0
 rw [e,w8 (by omega) (by omega)]
 exact Int.natCast_emod _ _
theorem m127 {x:Int} (h:0<=x/\x<=255):bits Go.BinOp.and IntKind.u8 x 127=x % 128:=Yv5 7 h.1 h.2 (by omega)
theorem m31 {x:Int} (h:0<=x/\x<=255):bits Go.BinOp.and IntKind.u8 x 31=x % 32:=Yv5 5 h.1 h.2 (by omega)
theorem m15 {x:Int} (h:0<=x/\x<=255):bits Go.BinOp.and IntKind.u8 x 15=x % 16:=Yv5 4 h.1 h.2 (by omega)
theorem m7 {x:Int} (h:0<=x/\x<=255):bits Go.BinOp.and IntKind.u8 x 7=x % 8:=Yv5 3 h.1 h.2 (by omega)
theorem m63 {x:Int} (h:0<=x/\x<=255):bits Go.BinOp.and IntKind.u8 x 63=x % 64:=Yv5 6 h.1 h.2 (by omega)
theorem YW4 (s:List UInt8) (k w i:Nat) (r:Int) (hs:s.length<=1073741824) (hi:i < w) (hw4:w<=4) (hk:k+w<=s.length) (h0:0<=r) (h1:r < 32768):
  Zh3 s (k:Int) (w:Int) r (i:Int)=Zh3 s (k:Int) (w:Int) (r*64+bat s (k+i) % 64) ((i+1:Nat):Int):=by
 have hb:=Yt s (k+i)
 have hw:IntKind.i64.wrap ((k:Int)+(i:Int))=((k+i:Nat):Int):=by rw [w64 (by omega) (by omega)]; omega
 have hw1:IntKind.i64.wrap ((i:Int)+1)=((i+1:Nat):Int):=by rw [w64 (by omega) (by omega)]; omega
 rw [Y7d,Yg,Y5u hi,Y7u,hw,hw1,Yj,Y5u (by omega),Y7u,Ydu]
 rw [show (((s.getD (k+i) 0).toNat:Nat):Int)=bat s (k+i) from rfl,m63 hb,w32 (x:=bat s (k+i) % 64) (by omega) (by omega),w32 (x:=r*64) (by omega) (by omega),w32 (by omega) (by omega)]
theorem YJ7 (s:List UInt8) (k w:Nat) (r:Int):Zh3 s (k:Int) (w:Int) r (w:Int)=some r:=by
 rw [Y7d,Yg,Y6u (Yxu _),Y8u]
def Ye1 (s:List UInt8) (k w:Nat):Int:=match w with
 | 1=> bat s k % 128
 | 2=> c2 s k
 | 3=> c3 s k
 | _=> c4 s k
theorem Y6o (s:List UInt8) (k w:Nat) (hs:s.length<=1073741824) (h1:1<=w) (h4:w<=4) (hk:k+w<=s.length):YI9 (s,(k:Int),(w:Int))=some (Ye1 s k w):=by
 have hb:=Yt s k
 rw [Y5o,Yxk]
 simp only
 rw [Yj,Y5u (by omega),Y7u,show Ya (w:Int) [(0:Int),127,31,15,7].length=true from by rw [Yj]; exact Y5u (by simp; omega),Y7u,Ydu,Ydu]
 rw [show (((s.getD k 0).toNat:Nat):Int)=bat s k from rfl]
 have e:w=1\/w=2\/w=3\/w=4:=by omega
 rcases e with rfl | rfl | rfl | rfl
 ·rw [show List.getD [(0:Int),127,31,15,7] 1 (Ty.zero (.int .u8))=127 from rfl,m127 hb,w32 (by omega) (by omega)]
  exact YJ7 s k 1 _
 ·rw [show List.getD [(0:Int),127,31,15,7] 2 (Ty.zero (.int .u8))=31 from rfl,m31 hb,w32 (by omega) (by omega)]
  have:=YW4 s k 2 1 (bat s k % 32) hs (by omega) (by omega) hk (by omega) (by omega)
  rw [show ((1:Nat):Int)=1 from rfl] at this
  rw [this]
  exact YJ7 s k 2 _
 ·rw [show List.getD [(0:Int),127,31,15,7] 3 (Ty.zero (.int .u8))=15 from rfl,m15 hb,w32 (by omega) (by omega)]
  have:=YW4 s k 3 1 (bat s k % 16) hs (by omega) (by omega) hk (by omega) (by omega)
  have b1:=Yt s (k+1)
  rw [show ((1:Nat):Int)=1 from rfl] at this
  rw [this,YW4 s k 3 2 _ hs (by omega) (by omega) hk (by omega) (by omega)]
  refine (YJ7 s k 3 _).trans ?_
  show some _=some (c3 s k)
  unfold c3; congr 1; omega
 ·rw [show List.getD [(0:Int),127,31,15,7] 4 (Ty.zero (.int .u8))=7 from rfl,m7 hb,w32 (by omega) (by omega)]
  have:=YW4 s k 4 1 (bat s k % 8) hs (by omega) (by omega) hk (by omega) (by omega)
  have b1:=Yt s (k+1)
  have b2:=Yt s (k+2)
  rw [show ((1:Nat):Int)=1 from rfl] at this
  rw [this,YW4 s k 4 2 _ hs (by omega) (by omega) hk (by omega) (by omega),YW4 s k 4 3 _ hs (by omega) (by omega) hk (by omega) (by omega)]
  refine (YJ7 s k 4 _).trans ?_
  show some _=some (c4 s k)
  unfold c4; congr 1; omega
end Go.Abs
namespace Go.Abs
def tryW (s:List UInt8) (k w:Nat):Bool:=scal (Ye1 s k w)&&(decide ((Yu (Ye1 s k w)).length=w)&&atB s k (Yu (Ye1 s k w)))
theorem YFq (s:List UInt8) (k w:Nat):0<=Ye1 s k w/\Ye1 s k w < 2097152:=by
 have h0:=Yt s k
 have h1:=Yt s (k+1)
 have h2:=Yt s (k+2)
 have h3:=Yt s (k+3)
 unfold Ye1 c2 c3 c4
 split <;> omega
theorem Ym3 (r:Int):(Yu r).length=if r < 128 then 1 else if r < 2048 then 2 else if r < 65536 then 3 else 4:=by
 unfold Yu
 split
 ·rfl
 ·split
  ·rfl
  ·split <;> rfl
theorem Yr6 (s:List UInt8) (k w:Nat) (b:D181) (hs:s.length<=1073741824) (h1:1<=w) (h4:w<=4) (hk:k+w<=s.length):
  Zv2 s (k:Int) false (w:Int) b=if tryW s k w=true then some ((k:Int),((w:Int),(Ye1 s k w,false))) else Zv2 s (k:Int) false ((w+1:Nat):Int) b:=by
 have hw:IntKind.i64.wrap ((k:Int)+(w:Int))=((k+w:Nat):Int):=by rw [w64 (by omega) (by omega)]; omega
 have hw1:IntKind.i64.wrap ((w:Int)+1)=((w+1:Nat):Int):=by rw [w64 (by omega) (by omega)]; omega
 have hg:=YFq s k w
 rw [YHd,show decide ((w:Int)<=4)=true from Y5u (by omega),Y7u,hw,show decide (((k+w:Nat):Int)<=(s.length:Int))=true from Y5u (by omega),Y7u,hw1]
 rw [Y6o s k w hs h1 h4 hk,Y9u,YY6,Y9u,YV6 _ hg.1 hg.2,Y9u]
 unfold tryW
 have hbl:=Ym3 (Ye1 s k w)
 have hb4:(Yu (Ye1 s k w)).length<=4:=by rw [hbl]; split <;> (try split) <;> (try split) <;> omega
 cases scal (Ye1 s k w) with
 | false=> simp only [Y8u,Bool.false_and,Bool.false_eq_true,if_false]
 | true=>
  rw [Y7u,Bool.true_and]
  by_cases hl:(Yu (Ye1 s k w)).length=w
  ·rw [show (((Yu (Ye1 s k w)).length:Int)==(w:Int))=true from beq_iff_eq.2 (by omega),Y7u,Y9u,Y5f s k _ hs hb4 (by omega),Y9u,Y5u hl,Bool.true_and]
   cases atB s k (Yu (Ye1 s k w)) <;> rfl
  ·rw [show (((Yu (Ye1 s k w)).length:Int)==(w:Int))=false from Yhu.2 (by omega),Y8u,Y6u hl,Bool.false_and]; rfl
theorem Yq6 (s:List UInt8) (k w:Nat) (b:D181) (hs:s.length<=1073741824) (hk1:k<=s.length) (hk:s.length < k+w\/4 < w) (h5:w<=5):
  Zv2 s (k:Int) false (w:Int) b=some ((k:Int),(1,(65533,true))):=by
 have hw:IntKind.i64.wrap ((k:Int)+(w:Int))=((k+w:Nat):Int):=by rw [w64 (by omega) (by omega)]; omega
 rw [YHd,hw]
 by_cases h:(w:Int)<=4
 ·rw [Y5u h,Y7u,show decide (((k+w:Nat):Int)<=(s.length:Int))=false from Y6u (by omega),Y8u]
 ·rw [Y6u h,Y8u]
theorem YMt (s:List UInt8) (k:Nat) (hk:k+1<=s.length):tryW s k 1=ut1 s k:=by
 have h0:=Yt s k
 unfold tryW ut1
 have hg:Ye1 s k 1=bat s k % 128:=rfl
 have hb:Yu (bat s k % 128)=[bat s k % 128]:=by unfold Yu; rw [Ybu (by omega)]
 rw [hg,hb,show scal (bat s k % 128)=true from by unfold scal; exact Y5u (by omega),Bool.true_and]
 rw [show decide ([bat s k % 128].length=1)=true from rfl,Bool.true_and,atB,atB,Bool.and_true]
 by_cases c:bat s k < 128
 ·rw [Y5u c,Y5u ⟨by omega,by omega⟩]
 ·rw [Y6u c,Y6u (fun h=> c (by omega))]
theorem YNt (s:List UInt8) (k:Nat) (hk:k+2<=s.length):tryW s k 2=ut2 s k:=by
 have h0:=Yt s k
 have h1:=Yt s (k+1)
 unfold tryW ut2
 have hg:Ye1 s k 2=c2 s k:=rfl
 have hc:0<=c2 s k/\c2 s k < 2048:=by unfold c2; omega
 rw [hg,show scal (c2 s k)=true from by unfold scal; exact Y5u (by omega),Bool.true_and,Ym3]
 by_cases c:c2 s k < 128
 ·rw [Ybu c,show decide ((1:Nat)=2)=false from rfl,Bool.false_and,Y6u (by omega)]
 ·rw [Yau c,Ybu hc.2,show decide ((2:Nat)=2)=true from rfl,Bool.true_and]
  have hb:Yu (c2 s k)=[192+c2 s k / 64,128+c2 s k % 64]:=by unfold Yu; rw [Yau c,Ybu hc.2]
  rw [hb,atB,atB,atB,Bool.and_true,Bool.eq_iff_iff]
  simp only [Ycu,You]
  have e:c2 s k=bat s k % 32*64+bat s (k+1) % 64:=rfl
  omega
theorem YOt (s:List UInt8) (k:Nat) (hk:k+3<=s.length):tryW s k 3=ut3 s k:=by
 have h0:=Yt s k
 have h1:=Yt s (k+1)
 have h2:=Yt s (k+2)
 unfold tryW ut3
 have hg:Ye1 s k 3=c3 s k:=rfl
 have hc:0<=c3 s k/\c3 s k < 65536:=by unfold c3; omega
 rw [hg,Ym3]
 cases scal (c3 s k) with
 | false=> rw [Bool.false_and,Bool.and_false]
 | true=>
  rw [Bool.true_and,Bool.and_true]
  by_cases c:c3 s k < 128
  ·rw [Ybu c,show decide ((1:Nat)=3)=false from rfl,Bool.false_and,Y6u (by omega)]
  ·rw [Yau c]
   by_cases d:c3 s k < 2048
   ·rw [Ybu d,show decide ((2:Nat)=3)=false from rfl,Bool.false_and,Y6u (by omega)]
   ·rw [Yau d,Ybu hc.2,show decide ((3:Nat)=3)=true from rfl,Bool.true_and]
    have hb:Yu (c3 s k)=[224+c3 s k / 4096,128+c3 s k / 64 % 64,128+c3 s k % 64]:=by unfold Yu; rw [Yau c,Yau d,Ybu hc.2]
    rw [hb,atB,atB,atB,atB,Bool.and_true,Bool.eq_iff_iff]
    simp only [Ycu,You]
    have e:c3 s k=bat s k % 16*4096+bat s (k+1) % 64*64+bat s (k+2) % 64:=rfl
    rw [show k+1+1=k+2 from rfl]
    omega
theorem YPt (s:List UInt8) (k:Nat) (hk:k+4<=s.length):tryW s k 4=ut4 s k:=by
 have h0:=Yt s k
 have h1:=Yt s (k+1)
 have h2:=Yt s (k+2)
 have h3:=Yt s (k+3)
 unfold tryW ut4
 have hg:Ye1 s k 4=c4 s k:=rfl
 have hc:0<=c4 s k/\c4 s k < 2097152:=by unfold c4; omega
 rw [hg,Ym3]
 cases scal (c4 s k) with
 | false=> rw [Bool.false_and,Bool.and_false]
 | true=>
  rw [Bool.true_and,Bool.and_true]
  by_cases d:c4 s k < 65536
  ·have:decide ((if c4 s k < 128 then 1 else if c4 s k < 2048 then 2 else if c4 s k < 65536 then 3 else 4)=4)=false:=by
    apply Y6u
    split
    ·omega
    ·split
     ·omega
     ·first | omega | (rw [Ybu d]; omega)
   rw [this,Bool.false_and,Y6u (by omega)]
  ·rw [Yau (by omega),Yau (by omega),Yau d,show decide ((4:Nat)=4)=true from rfl,Bool.true_and]
   have hb:Yu (c4 s k)=[240+c4 s k / 262144,128+c4 s k / 4096 % 64,128+c4 s k / 64 % 64,128+c4 s k % 64]:=by unfold Yu; rw [Yau (by omega),Yau (by omega),Yau d]
   rw [hb,atB,atB,atB,atB,atB,Bool.and_true,Bool.eq_iff_iff]
   simp only [Ycu,You]
   have e:c4 s k=bat s k % 8*262144+bat s (k+1) % 64*4096+bat s (k+2) % 64*64+bat s (k+3) % 64:=rfl
   rw [show k+1+1+1=k+3 from rfl,show k+1+1=k+2 from rfl]
   omega
theorem Y0f (s:List UInt8) (k:Nat) (hs:s.length<=1073741824) (hk:k < s.length):YW6 (s,(k:Int),false)=some ((k:Int),((Yk s k).2.1,((Yk s k).1,(Yk s k).2.2))):=by
 rw [YWn,YEl]
 simp only
 generalize ((Ty.zero (.int .i64)),((Ty.zero (.int .i64)),((Ty.zero (.int .i32)),(Ty.zero .bool))))=b
 have s1:=Yr6 s k 1 b hs (by omega) (by omega) (by omega)
 rw [show ((1:Nat):Int)=1 from rfl] at s1
 rw [s1,YMt s k (by omega)]
 unfold Yk
 by_cases q1:ut1 s k=true
 ·rw [Ybu q1,Ybu q1]
  have:Ye1 s k 1=bat s k:=by
   have h0:=Yt s k
   have:=of_decide_eq_true q1
   show bat s k % 128=_
   omega
  rw [this]
 rw [Yau q1,Yau q1]
 by_cases l2:k+2<=s.length
 ·rw [Yr6 s k 2 b hs (by omega) (by omega) l2,YNt s k l2]
  by_cases q2:ut2 s k=true
  ·rw [Ybu q2,Ybu q2]; rfl
  rw [Yau q2,Yau q2]
  by_cases l3:k+3<=s.length
  ·rw [Yr6 s k 3 b hs (by omega) (by omega) l3,YOt s k l3]
   by_cases q3:ut3 s k=true
   ·rw [Ybu q3,Ybu q3]; rfl
   rw [Yau q3,Yau q3]
   by_cases l4:k+4<=s.length
   ·rw [Yr6 s k 4 b hs (by omega) (by omega) l4,YPt s k l4]
    by_cases q4:ut4 s k=true
    ·rw [Ybu q4,Ybu q4]; rfl
    rw [Yau q4,Yau q4,Yq6 s k 5 b hs (by omega) (.inr (by omega)) (by omega)]
   ·have q4:¬ut4 s k=true:=by unfold ut4; rw [Y6u (by omega),Bool.false_and]; simp
    rw [Yau q4,Yq6 s k 4 b hs (by omega) (.inl (by omega)) (by omega)]
  ·have q3:¬ut3 s k=true:=by unfold ut3; rw [Y6u (by omega),Bool.false_and]; simp
   have q4:¬ut4 s k=true:=by unfold ut4; rw [Y6u (by omega),Bool.false_and]; simp
   rw [Yau q3,Yau q4,Yq6 s k 3 b hs (by omega) (.inl (by omega)) (by omega)]
 ·have q2:¬ut2 s k=true:=by unfold ut2; rw [Y6u (by omega)]; simp
  have q3:¬ut3 s k=true:=by unfold ut3; rw [Y6u (by omega),Bool.false_and]; simp
  have q4:¬ut4 s k=true:=by unfold ut4; rw [Y6u (by omega),Bool.false_and]; simp
  rw [Yau q2,Yau q3,Yau q4,Yq6 s k 2 b hs (by omega) (.inl (by omega)) (by omega)]
end Go.Abs
namespace Go.Abs
theorem Y5t (s:List UInt8) (k:Nat) (hk:k < s.length):1<=(Yk s k).2.1/\(Yk s k).2.1<=4/\(k:Int)+(Yk s k).2.1<=s.length:=by
 unfold Yk
 by_cases q1:ut1 s k=true
 ·rw [Ybu q1]; simp only; omega
 rw [Yau q1]
 by_cases q2:ut2 s k=true
 ·rw [Ybu q2]; have:=of_decide_eq_true q2; simp only; omega
 rw [Yau q2]
 by_cases q3:ut3 s k=true
 ·rw [Ybu q3]
  unfold ut3 at q3
  rw [Ycu] at q3
  have:=of_decide_eq_true q3.1; simp only; omega
 rw [Yau q3]
 by_cases q4:ut4 s k=true
 ·rw [Ybu q4]
  unfold ut4 at q4
  rw [Ycu] at q4
  have:=of_decide_eq_true q4.1; simp only; omega
 rw [Yau q4]; simp only; omega
def wd (s:List UInt8) (k:Nat):Nat:=(Yk s k).2.1.toNat
theorem Ya2 (s:List UInt8) (k:Nat) (hk:k < s.length):1<=wd s k/\wd s k<=4/\k+wd s k<=s.length/\((wd s k:Nat):Int)=(Yk s k).2.1:=by
 have:=Y5t s k hk
 unfold wd; omega
theorem Ys3 (s:List UInt8) (k:Nat):(Yx s k).2=wd s k:=by
 have:=(Yx7 s k).2
 unfold wd; omega
theorem Yd4 (s:List UInt8) (k:Nat):(((Yx s k).1:Nat):Int)=(Yk s k).1:=(Yx7 s k).1
def pcs (s:List UInt8):Nat->Nat->List (Nat×(Int×(Int×Bool)))
 | 0,_=> []
 | n+1,k=> if k < s.length then (k,Yk s k)::pcs s n (k+wd s k) else []
def Y82 (s:List UInt8):List (Nat×(Int×(Int×Bool))):=pcs s s.length 0
def toD (x:Nat×(Int×(Int×Bool))):D181:=((x.1:Int),(x.2.2.1,(x.2.1,x.2.2.2)))
def Yq (s:List UInt8):List Int:=(Y82 s).map (·.2.1)
def Y32:List (Nat×(Int×(Int×Bool)))->Option Nat
 | []=> none
 | x::l=> if x.2.2.2=true then some x.1 else Y32 l
def YO1 (s:List UInt8):Bool×Int:=match Y32 (Y82 s) with
 | none=> (true,0)
 | some k=> (false,(k:Int))
theorem Yh8 (s:List UInt8):∀ (n k:Nat),(pcs s n k).length<=n
 | 0,_=> by simp [pcs]
 | n+1,k=> by
  unfold pcs
  split
  ·simp only [Yeu]; have:=Yh8 s n (k+wd s k); omega
  ·simp
theorem Ycc (s:List UInt8) (hs:s.length<=1073741824):∀ (n k:Nat) (r:List D181),s.length<=k+n->k<=s.length->r.length+n<=1073741824->Za2 s (k:Int) r=some (r++(pcs s n k).map toD)
 | 0,k,r,hn,hk,hr=> by
  rw [YMc,Yg,Y6u (by omega),Y8u,pcs]; simp
 | n+1,k,r,hn,hk,hr=> by
  rw [YMc,Yg]
  unfold pcs
  by_cases c:k < s.length
  ·have hw:=Ya2 s k c
   rw [Y5u c,Y7u,Ybu c,Y0f s k hs c,Y9u]
   simp only
   rw [show decide (r.length+[((k:Int),((Yk s k).2.1,((Yk s k).1,(Yk s k).2.2)))].length<=lim)=true from Y5u (by simp [lim]; omega),Y7u]
   rw [<-hw.2.2.2,w64 (by omega) (by omega),show (k:Int)+((wd s k:Nat):Int)=((k+wd s k:Nat):Int) from by omega]
   rw [Ycc s hs n (k+wd s k) _ (by omega) (by omega) (by simp; omega),hw.2.2.2]
   simp [toD]
  ·rw [Y6u c,Y8u,Yau c]; simp
theorem Y1f (s:List UInt8) (hs:s.length<=1073741824):YX6 s=some ((Y82 s).map toD):=by
 rw [YXn,Y2k]
 exact Ycc s hs s.length 0 [] (by omega) (by omega) (by simpa using hs)
theorem Yug {α β:Type} (f:α->β) (l:List α) (i:Nat) (d:β) (hi:i < l.length):List.getD (l.map f) i d=f l[i]:=by
 rw [Ymu,List.getElem?_map,Ynu hi]; rfl
theorem Ymc (s:List UInt8) (l:List (Nat×(Int×(Int×Bool)))) (hl:l.length<=1073741824):∀ (n i:Nat),i+n=l.length->Zx1 s (i:Int) (l.map toD)=some (match Y32 (l.drop i) with | none=> (true,0) | some k=> (false,(k:Int)))
 | 0,i,h=> by
  have:i=l.length:=by omega
  subst this
  rw [YOd,List.length_map,Yg,Y6u (Yxu _),Y8u,List.drop_length]; rfl
 | n+1,i,h=> by
  have hi:i < l.length:=by omega
  have hw:IntKind.i64.wrap ((i:Int)+1)=((i+1:Nat):Int):=by rw [w64 (by omega) (by omega)]; omega
  rw [YOd,List.length_map,Yg,Y5u hi,Y7u,Yj,Y5u hi,Y7u,Y7u,hw,Ydu,Yug toD l i _ hi,Yiu hi,Y32]
  show (bif l[i].2.2.2 then some (false,((l[i].1:Nat):Int)) else _)=_
  cases l[i].2.2.2 with
  | true=> rw [Y7u,Ybu rfl]
  | false=> rw [Y8u,Yau (by simp),Ymc s l hl n (i+1) (by omega)]
theorem Y2f (s:List UInt8) (hs:s.length<=1073741824):YZ6 s=some (YO1 s):=by
 rw [Y1o,YLl,Y1f s hs,Y9u]
 have:=Yh8 s s.length 0
 exact Ymc s (Y82 s) (by unfold Y82; omega) (Y82 s).length 0 (by omega)
theorem Yjc (s:List UInt8) (l:List (Nat×(Int×(Int×Bool)))) (hl:l.length<=1073741824):∀ (n i:Nat) (r:List Int),i+n=l.length->r.length=i->Zh2 s (i:Int) r (l.map toD)=some (r++(l.drop i).map (·.2.1))
 | 0,i,r,h,hr=> by
  have:i=l.length:=by omega
  subst this
  rw [Y6d,List.length_map,Yg,Y6u (Yxu _),Y8u,List.drop_length]; simp
 | n+1,i,r,h,hr=> by
  have hi:i < l.length:=by omega
  have hw:IntKind.i64.wrap ((i:Int)+1)=((i+1:Nat):Int):=by rw [w64 (by omega) (by omega)]; omega
  rw [Y6d,List.length_map,Yg,Y5u hi,Y7u,Yj,Y5u hi,Y7u,hw,Ydu,Yug toD l i _ hi]
  rw [show decide (r.length+[(toD l[i]).2.2.1].length<=lim)=true from Y5u (by simp [lim]; omega),Y7u,Yjc s l hl n (i+1) _ (by omega) (by simp [hr]),Yiu hi,Ysu,Ygu]
  rfl
theorem YG9 (s:List UInt8) (hs:s.length<=1073741824):YG5 s=some (Yq s):=by
 rw [YZn,Ywk,Y1f s hs,Y9u]
 have:=Yh8 s s.length 0
 exact Yjc s (Y82 s) (by unfold Y82; omega) (Y82 s).length 0 [] (by omega) rfl
theorem YH3 (s:List UInt8):(Yq s).length<=s.length:=by
 unfold Yq Y82
 rw [List.length_map]
 exact Yh8 s s.length 0
theorem YQi (s:List UInt8) (l:List Int) (hl:l.length<=1073741824):∀ (n i:Nat),i+n=l.length->Zl2 s (i:Int) l=some ((l.drop i).any fun x=> x==65533)
 | 0,i,h=> by
  have:i=l.length:=by omega
  subst this
  rw [Yhd,Yg,Y6u (Yxu _),Y8u,List.drop_length]; rfl
 | n+1,i,h=> by
  have hi:i < l.length:=by omega
  have hw:IntKind.i64.wrap ((i:Int)+1)=((i+1:Nat):Int):=by rw [w64 (by omega) (by omega)]; omega
  have hg:List.getD l (Int.toNat (i:Int)) (Ty.zero (.int .i32))=l[i]:=by
   rw [Ydu,Ymu,Ynu hi]; rfl
  rw [Yhd,Yg,Y5u hi,Y7u,Yj,Y5u hi,Y7u,hw,hg,Yiu hi,List.any_cons,YQi s l hl n (i+1) (by omega)]
  cases (l[i]==65533) <;> rfl
def has (s:List UInt8) (c:Int):Bool:=(Yq s).any fun x=> x==c
theorem Yrf (s:List UInt8) (hs:s.length<=1073741824):Yf7 s=some (has s 65533):=by
 rw [Y0p,YRk,YG9 s hs,Y9u]
 have:=YH3 s
 exact YQi s (Yq s) (by omega) (Yq s).length 0 (by omega)
theorem Yxg (s:List UInt8) (c:Int):∀ (n k:Nat),s.length<=k+n->k<=s.length->Z05 s c s k=some (((pcs s n k).map (·.2.1)).any fun x=> x==c)
 | 0,k,hn,hk=> by
  rw [Ypc,Y6u (by omega),Y8u]; rfl
 | n+1,k,hn,hk=> by
  rw [Ypc]
  unfold pcs
  by_cases h:k < s.length
  ·have hw:=Ya2 s k h
   rw [Y5u h,Y7u,Ybu h,Yd4,Ys3,Ysu,List.any_cons,Yxg s c n (k+wd s k) (by omega) (by omega)]
   cases ((Yk s k).1==c) <;> rfl
  ·rw [Y6u h,Y8u,Yau h]; rfl
theorem Yve (s:List UInt8) (c:Int):YD4 (s,c)=some (has s c):=by
 rw [YPm,YZl]
 exact Yxg s c s.length 0 (by omega) (by omega)
theorem Yge (s:List UInt8) (k i:Nat):bat (s.drop k) i=bat s (k+i):=by
 unfold bat; simp [Ymu]
theorem YT2 (s:List UInt8) (k:Nat):bat (s.drop k) 0=bat s k:=Yge s k 0
theorem YR1 (s:List UInt8) (k i:Nat):bat (s.drop k) (0+i)=bat s (k+i):=by rw [Nat.zero_add]; exact Yge s k i
theorem Yai (s:List UInt8) (k:Nat) (hk:k<=s.length):Yk (s.drop k) 0=Yk s k:=by
 have e2:c2 (s.drop k) 0=c2 s k:=by unfold c2; rw [YT2,YR1]
 have e3:c3 (s.drop k) 0=c3 s k:=by unfold c3; rw [YT2,YR1,YR1]
 have e4:c4 (s.drop k) 0=c4 s k:=by unfold c4; rw [YT2,YR1,YR1,YR1]
 have hl:(s.drop k).length=s.length - k:=Yqu ..
 have u1:ut1 (s.drop k) 0=ut1 s k:=by unfold ut1; rw [YT2]
 have u2:ut2 (s.drop k) 0=ut2 s k:=by
  unfold ut2; apply decide_eq_decide.2; rw [e2,YT2,YR1,hl]; omega
 have u3:ut3 (s.drop k) 0=ut3 s k:=by
  unfold ut3; rw [e3,YT2,YR1,YR1,hl,Bool.eq_iff_iff,Ycu,Ycu,You,You]; exact and_congr_left fun _=> by omega
 have u4:ut4 (s.drop k) 0=ut4 s k:=by
  unfold ut4; rw [e4,YT2,YR1,YR1,YR1,hl,Bool.eq_iff_iff,Ycu,Ycu,You,You]; exact and_congr_left fun _=> by omega
 unfold Yk
 rw [u1,u2,u3,u4,e2,e3,e4,YT2]
theorem YIf (s:List UInt8) (k:Nat) (hk:k < s.length):Ym7 (s,(k:Int))=some ((k:Int),((Yk s k).2.1,((Yk s k).1,(Yk s k).2.2))):=by
 rw [Yvp,YUl]
 simp only
 rw [Yd1 (by omega),Y7u,YS1,Yop,Yh5]
 have hne:(s.drop k).isEmpty=false:=by
  cases hd:s.drop k with
  | nil=> have:=List.drop_eq_nil_iff.1 hd; omega
  | cons=> rfl
 rw [hne,Y8u,Y9u]
 simp only
 rw [(Yx7 (s.drop k) 0).1,(Yx7 (s.drop k) 0).2,Yai s k (by omega)]
 have hb:(Yk s k).2.2=(((Yk s k).1==65533)&&((Yk s k).2.1==1)):=by
  unfold Yk
  by_cases q1:ut1 s k=true
  ·rw [Ybu q1]
   have:=of_decide_eq_true q1
   simp only
   rw [show (bat s k==65533)=false from Yhu.2 (by omega)]; rfl
  rw [Yau q1]
  by_cases q2:ut2 s k=true
  ·rw [Ybu q2]; simp
  rw [Yau q2]
  by_cases q3:ut3 s k=true
  ·rw [Ybu q3]; simp
  rw [Yau q3]
  by_cases q4:ut4 s k=true
  ·rw [Ybu q4]; simp
  rw [Yau q4]; rfl
 rw [hb]
 cases ((Yk s k).1==65533) <;> rfl
theorem YKi (s:List UInt8):∀ (n k:Nat),s.length<=k+n->k<=s.length->Zi4 s s k=some (match Y32 (pcs s n k) with | none=> (true,0) | some k=> (false,(k:Int)))
 | 0,k,hn,hk=> by
  rw [Y9d,Y6u (by omega),Y8u]; rfl
 | n+1,k,hn,hk=> by
  rw [Y9d]
  unfold pcs
  by_cases h:k < s.length
  ·have hw:=Ya2 s k h
   rw [Y5u h,Y7u,Ybu h,YIf s k h,Y9u,Ys3,Y32]
   simp only
   cases hb:(Yk s k).2.2 with
   | true=> rw [Y7u,Ybu rfl]
   | false=> rw [Y8u,Yau (by simp),YKi s n (k+wd s k) (by omega) (by omega)]
  ·rw [Y6u h,Y8u,Yau h]; rfl
theorem YGf (s:List UInt8):Yk7 s=some (YO1 s):=by
 rw [Yrp,YDk]
 exact YKi s s.length 0 (by omega) (by omega)
end Go.Abs
namespace Go.Abs
def secI (b:Int):Int×(Int×Int):=
 if b < 194 then (0,0,0) else if b<=223 then (128,191,2) else if b=224 then (160,191,3) else if b<=236 then (128,191,3) else if b=237 then (128,159,3) else if b<=239 then (128,191,3)
 else if b=240 then (144,191,4) else if b<=243 then (128,191,4) else if b=244 then (128,143,4) else (0,0,0)
theorem Yxp (b:Int):Yaa b=some (secI b):=by
 rw [Ywp,Yrl]
 unfold secI
 have hc:(b < 194)\/(194<=b/\b<=223)\/(b=224)\/(225<=b/\b<=236)\/(b=237)\/(238<=b/\b<=239)\/(b=240)\/(241<=b/\b<=243)\/(b=244)\/(244 < b):=by omega
 rcases hc with h | h | h | h | h | h | h | h | h | h
 ·simp only [show decide (b>=194)=false from Y6u (by omega),show decide (b>=225)=false from Y6u (by omega),show decide (b>=241)=false from Y6u (by omega),show decide (b<=223)=true from Y5u (by omega),show decide (b<=239)=true from Y5u (by omega),show decide (b<=243)=true from Y5u (by omega),show (b==224)=false from Yhu.2 (by omega),show (b==237)=false from Yhu.2 (by omega),show (b==240)=false from Yhu.2 (by omega),show (b==244)=false from Yhu.2 (by omega),Y7u,Y8u]
  rw [Ybu (show b < 194 by omega)]
 ·simp only [show decide (b>=194)=true from Y5u (by omega),show decide (b>=225)=false from Y6u (by omega),show decide (b>=241)=false from Y6u (by omega),show decide (b<=223)=true from Y5u (by omega),show decide (b<=239)=true from Y5u (by omega),show decide (b<=243)=true from Y5u (by omega),show (b==224)=false from Yhu.2 (by omega),show (b==237)=false from Yhu.2 (by omega),show (b==240)=false from Yhu.2 (by omega),show (b==244)=false from Yhu.2 (by omega),Y7u,Y8u]
  rw [Yau (show ¬(b < 194) by omega),Ybu (show b<=223 by omega)]
 ·simp only [show decide (b>=194)=true from Y5u (by omega),show decide (b>=225)=false from Y6u (by omega),show decide (b>=241)=false from Y6u (by omega),show decide (b<=223)=false from Y6u (by omega),show decide (b<=239)=true from Y5u (by omega),show decide (b<=243)=true from Y5u (by omega),show (b==224)=true from beq_iff_eq.2 (by omega),show (b==237)=false from Yhu.2 (by omega),show (b==240)=false from Yhu.2 (by omega),show (b==244)=false from Yhu.2 (by omega),Y7u,Y8u]
  rw [Yau (show ¬(b < 194) by omega),Yau (show ¬(b<=223) by omega),Ybu (show b=224 by omega)]
 ·simp only [show decide (b>=194)=true from Y5u (by omega),show decide (b>=225)=true from Y5u (by omega),show decide (b>=241)=false from Y6u (by omega),show decide (b<=223)=false from Y6u (by omega),show decide (b<=239)=true from Y5u (by omega),show decide (b<=243)=true from Y5u (by omega),show (b==224)=false from Yhu.2 (by omega),show (b==237)=false from Yhu.2 (by omega),show (b==240)=false from Yhu.2 (by omega),show (b==244)=false from Yhu.2 (by omega),Y7u,Y8u]
  rw [Yau (show ¬(b < 194) by omega),Yau (show ¬(b<=223) by omega),Yau (show ¬(b=224) by omega),Ybu (show b<=236 by omega)]
 ·simp only [show decide (b>=194)=true from Y5u (by omega),show decide (b>=225)=true from Y5u (by omega),show decide (b>=241)=false from Y6u (by omega),show decide (b<=223)=false from Y6u (by omega),show decide (b<=239)=true from Y5u (by omega),show decide (b<=243)=true from Y5u (by omega),show (b==224)=false from Yhu.2 (by omega),show (b==237)=true from beq_iff_eq.2 (by omega),show (b==240)=false from Yhu.2 (by omega),show (b==244)=false from Yhu.2 (by omega),Y7u,Y8u]
  rw [Yau (show ¬(b < 194) by omega),Yau (show ¬(b<=223) by omega),Yau (show ¬(b=224) by omega),Yau (show ¬(b<=236) by omega),Ybu (show b=237 by omega)]
 ·simp only [show decide (b>=194)=true from Y5u (by omega),show decide (b>=225)=true from Y5u (by omega),show decide (b>=241)=false from Y6u (by omega),show decide (b<=223)=false from Y6u (by omega),show decide (b<=239)=true from Y5u (by omega),show decide (b<=243)=true from Y5u (by omega),show (b==224)=false from Yhu.2 (by omega),show (b==237)=false from Yhu.2 (by omega),show (b==240)=false from Yhu.2 (by omega),show (b==244)=false from Yhu.2 (by omega),Y7u,Y8u]
  rw [Yau (show ¬(b < 194) by omega),Yau (show ¬(b<=223) by omega),Yau (show ¬(b=224) by omega),Yau (show ¬(b<=236) by omega),Yau (show ¬(b=237) by omega),Ybu (show b<=239 by omega)]
 ·simp only [show decide (b>=194)=true from Y5u (by omega),show decide (b>=225)=true from Y5u (by omega),show decide (b>=241)=false from Y6u (by omega),show decide (b<=223)=false from Y6u (by omega),show decide (b<=239)=false from Y6u (by omega),show decide (b<=243)=true from Y5u (by omega),show (b==224)=false from Yhu.2 (by omega),show (b==237)=false from Yhu.2 (by omega),show (b==240)=true from beq_iff_eq.2 (by omega),show (b==244)=false from Yhu.2 (by omega),Y7u,Y8u]
  rw [Yau (show ¬(b < 194) by omega),Yau (show ¬(b<=223) by omega),Yau (show ¬(b=224) by omega),Yau (show ¬(b<=236) by omega),Yau (show ¬(b=237) by omega),Yau (show ¬(b<=239) by omega),Ybu (show b=240 by omega)]
 ·simp only [show decide (b>=194)=true from Y5u (by omega),show decide (b>=225)=true from Y5u (by omega),show decide (b>=241)=true from Y5u (by omega),show decide (b<=223)=false from Y6u (by omega),show decide (b<=239)=false from Y6u (by omega),show decide (b<=243)=true from Y5u (by omega),show (b==224)=false from Yhu.2 (by omega),show (b==237)=false from Yhu.2 (by omega),show (b==240)=false from Yhu.2 (by omega),show (b==244)=false from Yhu.2 (by omega),Y7u,Y8u]
  rw [Yau (show ¬(b < 194) by omega),Yau (show ¬(b<=223) by omega),Yau (show ¬(b=224) by omega),Yau (show ¬(b<=236) by omega),Yau (show ¬(b=237) by omega),Yau (show ¬(b<=239) by omega),Yau (show ¬(b=240) by omega),Ybu (show b<=243 by omega)]
 ·simp only [show decide (b>=194)=true from Y5u (by omega),show decide (b>=225)=true from Y5u (by omega),show decide (b>=241)=true from Y5u (by omega),show decide (b<=223)=false from Y6u (by omega),show decide (b<=239)=false from Y6u (by omega),show decide (b<=243)=false from Y6u (by omega),show (b==224)=false from Yhu.2 (by omega),show (b==237)=false from Yhu.2 (by omega),show (b==240)=false from Yhu.2 (by omega),show (b==244)=true from beq_iff_eq.2 (by omega),Y7u,Y8u]
  rw [Yau (show ¬(b < 194) by omega),Yau (show ¬(b<=223) by omega),Yau (show ¬(b=224) by omega),Yau (show ¬(b<=236) by omega),Yau (show ¬(b=237) by omega),Yau (show ¬(b<=239) by omega),Yau (show ¬(b=240) by omega),Yau (show ¬(b<=243) by omega),Ybu (show b=244 by omega)]
 ·simp only [show decide (b>=194)=true from Y5u (by omega),show decide (b>=225)=true from Y5u (by omega),show decide (b>=241)=true from Y5u (by omega),show decide (b<=223)=false from Y6u (by omega),show decide (b<=239)=false from Y6u (by omega),show decide (b<=243)=false from Y6u (by omega),show (b==224)=false from Yhu.2 (by omega),show (b==237)=false from Yhu.2 (by omega),show (b==240)=false from Yhu.2 (by omega),show (b==244)=false from Yhu.2 (by omega),Y7u,Y8u]
  rw [Yau (show ¬(b < 194) by omega),Yau (show ¬(b<=223) by omega),Yau (show ¬(b=224) by omega),Yau (show ¬(b<=236) by omega),Yau (show ¬(b=237) by omega),Yau (show ¬(b<=239) by omega),Yau (show ¬(b=240) by omega),Yau (show ¬(b<=243) by omega),Yau (show ¬(b=244) by omega)]
end Go.Abs
namespace Go.Abs
def YN4 (b:Int):Bool:=decide (128<=b/\b<=191)
def webW (s:List UInt8) (k:Nat):Nat:=
 if k+1 < s.length/\3<=(secI (bat s k)).2.2/\(secI (bat s k)).1<=bat s (k+1)/\bat s (k+1)<=(secI (bat s k)).2.1 then
  (if k+2 < s.length/\(secI (bat s k)).2.2=4/\YN4 (bat s (k+2))=true then 3 else 2)
 else 1
theorem YZt (s:List UInt8) (k:Nat) (hk:k<=s.length):webW (s.drop k) 0=webW s k:=by
 unfold webW
 rw [YT2,YR1,YR1,Yqu]
 have e1:(0+1 < s.length - k)↔(k+1 < s.length):=by omega
 have e2:(0+2 < s.length - k)↔(k+2 < s.length):=by omega
 simp only [e1,e2]
theorem Ybt (b:Int):(secI b).2.2=0\/(secI b).2.2=2\/(secI b).2.2=3\/(secI b).2.2=4:=by
 unfold secI
 repeat' split
 all_goals simp
theorem YZb (t:List UInt8) (lo hi all:Int) (i:Nat) (ha:0<=all/\all<=4) (h:¬((i:Int) < all - 1/\i < t.length/\lo<=bat t i/\bat t i<=hi)):Ze6 t lo hi all (i:Int)=some (i:Int):=by
 rw [Y1d,w64 (by omega) (by omega),Yg]
 by_cases a:(i:Int) < all - 1
 ·rw [Y5u a,Y7u]
  by_cases b:i < t.length
  ·rw [Y5u b,Y7u,Yj,Y5u b,Y7u,Ydu,show (((t.getD i 0).toNat:Nat):Int)=bat t i from rfl]
   by_cases c:lo<=bat t i
   ·rw [show decide (bat t i>=lo)=true from Y5u c,Y7u,Y7u,show decide (bat t i<=hi)=false from Y6u (fun d=> h ⟨a,b,c,d⟩),Y8u]
   ·rw [show decide (bat t i>=lo)=false from Y6u c,Y8u]
  ·rw [Y6u b,Y8u]
 ·rw [Y6u a,Y8u]
theorem YMi (t:List UInt8) (lo hi all:Int) (i:Nat) (hi4:i<=4) (ha:0<=all/\all<=4) (h:(i:Int) < all - 1/\i < t.length/\lo<=bat t i/\bat t i<=hi):Ze6 t lo hi all (i:Int)=Ze6 t 128 191 all ((i+1:Nat):Int):=by
 have hw:IntKind.i64.wrap ((i:Int)+1)=((i+1:Nat):Int):=by rw [w64 (by omega) (by omega)]; omega
 rw [Y1d,w64 (x:=all - 1) (by omega) (by omega),Yg,Y5u h.1,Y7u,Y5u h.2.1,Y7u,Yj,Y5u h.2.1,Y7u,Ydu,show (((t.getD i 0).toNat:Nat):Int)=bat t i from rfl,
  show decide (bat t i>=lo)=true from Y5u h.2.2.1,Y7u,Y7u,show decide (bat t i<=hi)=true from Y5u h.2.2.2,Y7u,hw]
theorem YBp (t:List UInt8) (h0:0 < t.length):Yca t=some ((webW t 0:Nat):Int):=by
 rw [YAp,Ykk,show Ya (0:Int) t.length=true from by rw [show (0:Int)=((0:Nat):Int) from rfl,Yj]; exact Y5u h0,Y7u]
 rw [show (((t.getD (Int.toNat (0:Int)) 0).toNat:Nat):Int)=bat t 0 from rfl,Yxp,Y9u]
 have hall:=Ybt (bat t 0)
 unfold webW
 rw [show (0:Nat)+1=1 from rfl,show (0:Nat)+2=2 from rfl]
 by_cases a:1 < t.length/\3<=(secI (bat t 0)).2.2/\(secI (bat t 0)).1<=bat t 1/\bat t 1<=(secI (bat t 0)).2.1
 ·rw [Ybu a]
  have:=YMi t (secI (bat t 0)).1 (secI (bat t 0)).2.1 (secI (bat t 0)).2.2 1 (by omega) (by omega) ⟨by omega,a.1,a.2.2.1,a.2.2.2⟩
  rw [show ((1:Nat):Int)=1 from rfl] at this
  rw [this]
  by_cases b:2 < t.length/\(secI (bat t 0)).2.2=4/\YN4 (bat t 2)=true
  ·have hc:=of_decide_eq_true b.2.2
   rw [Ybu b,YMi t _ _ _ 2 (by omega) (by omega) ⟨by omega,b.1,hc.1,hc.2⟩,YZb t _ _ _ 3 (by omega) (by omega)]
  ·rw [Yau b,YZb t _ _ _ 2 (by omega)]
   rintro ⟨h1,h2,h3,h4⟩
   exact b ⟨h2,by omega,Y5u ⟨h3,h4⟩⟩
 ·rw [Yau a]
  have:=YZb t (secI (bat t 0)).1 (secI (bat t 0)).2.1 (secI (bat t 0)).2.2 1 (by omega) (by
   rintro ⟨h1,h2,h3,h4⟩
   exact a ⟨h2,by omega,h3,h4⟩)
  rw [show ((1:Nat):Int)=1 from rfl] at this
  exact this
def wwd (s:List UInt8) (k:Nat):Nat:=if (Yk s k).2.2=true then webW s k else wd s k
def wpcs (s:List UInt8):Nat->Nat->List (Nat×(Int×(Int×Bool)))
 | 0,_=> []
 | n+1,k=> if k < s.length then (k,((Yk s k).1,(((wwd s k:Nat):Int),(Yk s k).2.2)))::wpcs s n (k+wwd s k) else []
def Yl6 (s:List UInt8):List (Nat×(Int×(Int×Bool))):=wpcs s s.length 0
theorem YRi (s:List UInt8) (k:Nat) (hk:k < s.length):1<=wwd s k/\wwd s k<=4/\k+wwd s k<=s.length:=by
 have:=Ya2 s k hk
 unfold wwd
 split
 ·unfold webW
  split
  ·split <;> omega
  ·omega
 ·omega
theorem Y1c (s:List UInt8):∀ (n k:Nat),(wpcs s n k).length<=n
 | 0,_=> by simp [wpcs]
 | n+1,k=> by
  unfold wpcs
  split
  ·simp only [Yeu]; have:=Y1c s n (k+wwd s k); omega
  ·simp
theorem Ync (s:List UInt8) (hs:s.length<=1073741824):∀ (n k:Nat) (r:List D181),s.length<=k+n->k<=s.length->r.length+n<=1073741824->Zm5 s (k:Int) r=some (r++(wpcs s n k).map toD)
 | 0,k,r,hn,hk,hr=> by
  rw [Ykd,Yg,Y6u (by omega),Y8u,wpcs]; simp
 | n+1,k,r,hn,hk,hr=> by
  rw [Ykd,Yg]
  unfold wpcs
  by_cases c:k < s.length
  ·have hw:=YRi s k c
   have hwd:=Ya2 s k c
   have fin:∀ b:Bool,∀ d:D181,d=((k:Int),(((wwd s k:Nat):Int),((Yk s k).1,b)))->Zn5 s (k:Int) d r=some (r++(((k,((Yk s k).1,(((wwd s k:Nat):Int),b)))::wpcs s n (k+wwd s k)).map toD)):=by
    rintro b d rfl
    rw [Y6l,show decide (r.length+[((k:Int),(((wwd s k:Nat):Int),((Yk s k).1,b)))].length<=lim)=true from Y5u (by simp [lim]; omega),Y7u]
    simp only
    rw [w64 (by omega) (by omega),show (k:Int)+((wwd s k:Nat):Int)=((k+wwd s k:Nat):Int) from by omega]
    rw [Ync s hs n (k+wwd s k) _ (by omega) (by omega) (by simp; omega),Ysu,Ygu]
    simp [toD]
   rw [Y5u c,Y7u,Ybu c,YIf s k c,Y9u]
   simp only
   cases hb:(Yk s k).2.2 with
   | true=>
    rw [Y7u,Yd1 hk,Y7u,YS1,YBp (s.drop k) (by rw [Yqu]; omega),Y9u,YZt s k hk]
    have:wwd s k=webW s k:=by unfold wwd; rw [Ybu hb]
    refine fin true _ ?_
    rw [this]
   | false=>
    rw [Y8u]
    have:wwd s k=wd s k:=by unfold wwd; rw [Yau (by rw [hb]; simp)]
    refine fin false _ ?_
    rw [this,hwd.2.2.2]
  ·rw [Y6u c,Y8u,Yau c]; simp
theorem Yup (s:List UInt8) (hs:s.length<=1073741824):Y9a s=some ((Yl6 s).map toD):=by
 rw [Ytp,YWk]
 exact Ync s hs s.length 0 [] (by omega) (by omega) (by simpa using hs)
theorem YJ8 (x:Int):IntKind.u8.wrap x=x % 256:=by
 change (if (false&&decide (x % (256:Int)>=(128:Int)))=true then x % (256:Int) - (256:Int) else x % (256:Int))=_
 rw [Yau (by simp)]
theorem wu32 {x:Int} (h0:0<=x) (h1:x < 4294967296):IntKind.u32.wrap x=x:=by
 change (if (false&&decide (x % (4294967296:Int)>=(2147483648:Int)))=true then x % (4294967296:Int) - (4294967296:Int) else x % (4294967296:Int))=_
 rw [Yau (by simp)]; omega
theorem Y78 (m:Nat) (q:Nat) {y:Int} (h0:0<=y) (h1:y < ((2 ^ m:Nat):Int)) (hq:2 ^ m*q+2 ^ m<=256):bits Go.BinOp.or IntKind.u8 ((2 ^ m*q:Nat):Int) y=((2 ^ m*q:Nat):Int)+y:=by
 obtain ⟨n,rfl⟩:=Int.eq_ofNat_of_zero_le h0
 have hn:n < 2 ^ m:=by omega
 have e1:(BitVec.ofInt 8 (((2 ^ m*q:Nat):Nat):Int)).toNat=2 ^ m*q:=by
  rw [BitVec.toNat_ofInt]; omega
 have e2:(BitVec.ofInt 8 (n:Int)).toNat=n:=by
  rw [BitVec.toNat_ofInt]; omega
 have e:(BitVec.ofInt 8 (((2 ^ m*q:Nat):Nat):Int)|||BitVec.ofInt 8 (n:Int)).toNat=2 ^ m*q+n:=by
  rw [BitVec.toNat_or,e1,e2,<-Nat.two_pow_add_eq_or_of_lt hn]
 show IntKind.u8.wrap (((BitVec.ofInt 8 (((2 ^ m*q:Nat):Nat):Int)|||BitVec.ofInt 8 (n:Int)).toNat:Nat):Int)=_
 rw [e,w8 (by omega) (by omega)]
 omega
theorem YYr {y:Int} (h0:0<=y) (h1:y < 32):bits Go.BinOp.or IntKind.u8 192 y=192+y:=Y78 5 6 h0 (by simpa using h1) (by decide)
theorem Yd5 {y:Int} (h0:0<=y) (h1:y < 64):bits Go.BinOp.or IntKind.u8 128 y=128+y:=Y78 6 2 h0 (by simpa using h1) (by decide)
theorem YZr {y:Int} (h0:0<=y) (h1:y < 16):bits Go.BinOp.or IntKind.u8 224 y=224+y:=Y78 4 14 h0 (by simpa using h1) (by decide)
theorem Y0s {y:Int} (h0:0<=y) (h1:y < 8):bits Go.BinOp.or IntKind.u8 240 y=240+y:=Y78 3 30 h0 (by simpa using h1) (by decide)
theorem YFb (r:Int) (k:Nat) (hk:k<=32):shr IntKind.i32 r (k:Int)=r / 2 ^ k:=by
 show r.fdiv (2 ^ (min (Int.toNat (k:Int)) 32))=_
 rw [Ydu,Nat.min_eq_left hk,Int.fdiv_eq_ediv_of_nonneg _ (Int.le_of_lt (Int.pow_pos (by omega)))]
theorem sh6 (r:Int):shr IntKind.i32 r 6=r / 64:=YFb r 6 (by omega)
theorem sh12 (r:Int):shr IntKind.i32 r 12=r / 4096:=YFb r 12 (by omega)
theorem sh18 (r:Int):shr IntKind.i32 r 18=r / 262144:=YFb r 18 (by omega)
theorem Y6c (l:List Int) (r:Int) (hl:l.length<=4294967200) (hr:scal r=true):Yi7 (l,r)=some (l++Yu r):=by
 have hr:=of_decide_eq_true hr
 rw [Ymp,Yik]
 simp only
 rw [wu32 (by omega) (by omega)]
 unfold Yu
 by_cases a:r < 128
 ·rw [show decide (r<=127)=true from Y5u (by omega),Y7u,w8 (by omega) (by omega),show decide (l.length+[r].length<=lim)=true from Y5u (by simp [lim]; omega),Y7u,Ybu a]
 ·rw [show decide (r<=127)=false from Y6u (by omega),Y8u,Yau a,Yqp,Ygl]
  simp only
  have u6:=YJ8 r
  rw [wu32 (x:=r) (by omega) (by omega),sh6,u6,m63 (x:=r % 256) (by omega),show r % 256 % 64=r % 64 from by omega,Yd5 (y:=r % 64) (by omega) (by omega)]
  by_cases b:r < 2048
  ·rw [show decide (r<=2047)=true from Y5u (by omega),Y7u,w8 (x:=r / 64) (by omega) (by omega),YYr (by omega) (by omega),Ybu b]
   rw [show decide (l.length+[192+r / 64,128+r % 64].length<=lim)=true from Y5u (by simp [lim]; omega),Y7u]; rfl
  ·rw [show decide (r<=2047)=false from Y6u (by omega),Y8u,Yau b]
   by_cases c:r < 65536
   ·have key:Zq6 r r true l=some (l++[224+r / 4096,128+r / 64 % 64,128+r % 64]):=by
     rw [Yvd,Y7u,sh12,sh6,u6,m63 (x:=r % 256) (by omega),show r % 256 % 64=r % 64 from by omega,Yd5 (y:=r % 64) (by omega) (by omega),YJ8 (r / 64),m63 (x:=r / 64 % 256) (by omega),show r / 64 % 256 % 64=r / 64 % 64 from by omega,Yd5 (y:=r / 64 % 64) (by omega) (by omega),
      w8 (x:=r / 4096) (by omega) (by omega),YZr (by omega) (by omega),show decide (l.length+[224+r / 4096,128+r / 64 % 64,128+r % 64].length<=lim)=true from Y5u (by simp [lim]; omega),Y7u]
    rw [Ybu c]
    by_cases d:r < 55296
    ·rw [Y5u d,Y7u,key]; rfl
    ·rw [Y6u d,Y8u,show decide ((57343:Int) < r)=true from Y5u (by omega),Y7u,show decide (r<=65535)=true from Y5u (by omega),key]; rfl
   ·rw [Yau c,show decide (r < 55296)=false from Y6u (by omega),Y8u,show decide ((57343:Int) < r)=true from Y5u (by omega),Y7u,show decide (r<=65535)=false from Y6u (by omega),Yvd,Y8u,
     show decide (r > 65535)=true from Y5u (by omega),Y7u,show decide (r<=1114111)=true from Y5u (by omega),Y7u]
    rw [sh18,sh12,sh6,u6,m63 (x:=r % 256) (by omega),show r % 256 % 64=r % 64 from by omega,Yd5 (y:=r % 64) (by omega) (by omega),YJ8 (r / 64),m63 (x:=r / 64 % 256) (by omega),show r / 64 % 256 % 64=r / 64 % 64 from by omega,Yd5 (y:=r / 64 % 64) (by omega) (by omega),
     YJ8 (r / 4096),m63 (x:=r / 4096 % 256) (by omega),show r / 4096 % 256 % 64=r / 4096 % 64 from by omega,Yd5 (y:=r / 4096 % 64) (by omega) (by omega),w8 (x:=r / 262144) (by omega) (by omega),Y0s (by omega) (by omega)]
    rw [show decide (l.length+[240+r / 262144,128+r / 4096 % 64,128+r / 64 % 64,128+r % 64].length<=lim)=true from Y5u (by simp [lim]; omega),Y7u]; rfl
end Go.Abs
namespace Go.Abs
theorem YEb (s:List UInt8) (k:Nat):scal (Yk s k).1=true:=by
 have h0:=Yt s k
 have h1:=Yt s (k+1)
 unfold Yk
 by_cases q1:ut1 s k=true
 ·rw [Ybu q1]
  have:=of_decide_eq_true q1
  exact Y5u (by simp only; omega)
 rw [Yau q1]
 by_cases q2:ut2 s k=true
 ·rw [Ybu q2]
  have:0<=c2 s k/\c2 s k < 2048:=by unfold c2; omega
  exact Y5u (by simp only; omega)
 rw [Yau q2]
 by_cases q3:ut3 s k=true
 ·rw [Ybu q3]
  unfold ut3 at q3
  rw [Ycu] at q3
  exact q3.2
 rw [Yau q3]
 by_cases q4:ut4 s k=true
 ·rw [Ybu q4]
  unfold ut4 at q4
  rw [Ycu] at q4
  exact q4.2
 rw [Yau q4]; rfl
theorem YZ3 (r:Int):1<=(Yu r).length/\(Yu r).length<=4:=by
 rw [Ym3]; split
 ·omega
 ·split
  ·omega
  ·split <;> omega
def YN1 (l:List Int):List Int:=l.flatMap Yu
theorem Yci:∀ l:List Int,(YN1 l).length<=4*l.length
 | []=> by simp [YN1]
 | r::l=> by
  have:=Yci l
  have h:=YZ3 r
  simp only [YN1,List.flatMap_cons,Yfu,Yeu] at this ⊢
  omega
def Yb (l:List Int):List UInt8:=Ym (YN1 l)
theorem YEi (s l:List D181) (hl:l.length<=1000000000) (hr:∀ x∈l,scal x.2.2.1=true):∀ (n i:Nat) (r:List Int),i+n=l.length->r.length<=4*i->Zk5 s l (l.length:Int) (i:Int) r=some (Ym (r++YN1 ((l.drop i).map (·.2.2.1))))
 | 0,i,r,h,hrl=> by
  have:i=l.length:=by omega
  subst this
  rw [Yfd,Yg,Y6u (Yxu _),Y8u,List.drop_length]; simp [YN1]
 | n+1,i,r,h,hrl=> by
  have hi:i < l.length:=by omega
  have hw:IntKind.i64.wrap ((i:Int)+1)=((i+1:Nat):Int):=by rw [w64 (by omega) (by omega)]; omega
  have hg:List.getD l (Int.toNat (i:Int)) (Ty.zero T181)=l[i]:=by
   rw [Ydu,Ymu,Ynu hi]; rfl
  have hb:=YZ3 l[i].2.2.1
  rw [Yfd,Yg,Y5u hi,Y7u,Yj,Y5u hi,Y7u,hg,Y6c _ _ (by omega) (hr _ (List.getElem_mem hi)),Y9u,hw,
   YEi s l hl hr n (i+1) _ (by omega) (by simp only [Yfu]; omega),Yiu hi,Ysu]
  simp only [YN1,List.flatMap_cons,Ygu]
theorem Yzp (l:List D181) (hl:l.length<=1000000000) (hr:∀ x∈l,scal x.2.2.1=true):Yba l=some (Yb (l.map (·.2.2.1))):=by
 rw [Yyp,YKk,YOk]
 cases l with
 | nil=> rfl
 | cons x l=>
  have hb:=YZ3 x.2.2.1
  rw [show decide ((0:Int) < (((x::l).length:Nat):Int))=true from Y5u (by simp only [Yeu]; omega),Y7u,Y05,Y7u,show List.getD (x::l) (Int.toNat (0:Int)) (Ty.zero T181)=x from rfl,Y6c [] _ (by simp) (hr x (by simp)),Y9u]
  have:=YEi (x::l) (x::l) hl hr l.length 1 ([]++Yu x.2.2.1) (by simp only [Yeu]; omega) (by simp only [Yzu]; omega)
  rw [show IntKind.i64.wrap ((0:Int)+1)=((1:Nat):Int) from a1,this]
  simp [Yb,YN1]
theorem YAi:∀ l:List (Nat×(Int×(Int×Bool))),(l.map toD).map (fun x:D181=> x.2.2.1)=l.map (fun x=> x.2.1)
 | []=> rfl
 | x::l=> by simp only [Ysu,YAi l,toD]
def YS3 (s:List UInt8):List Int:=(Yl6 s).map (·.2.1)
def YF1 (s:List UInt8):List UInt8:=Yb (YS3 s)
theorem Y2c (s:List UInt8):∀ (n k:Nat),∀ x∈wpcs s n k,scal x.2.1=true
 | 0,_,x,h=> by cases h
 | n+1,k,x,h=> by
  unfold wpcs at h
  split at h
  ·rcases Ylu.1 h with rfl | h
   ·(dsimp only; exact YEb s k)
   ·exact Y2c s n _ x h
  ·cases h
theorem YHf (s:List UInt8) (hs:s.length<=1000000000):Yl7 s=some (YF1 s):=by
 rw [Ysp,YIl,Yup s (by omega),Y9u]
 have hl:=Y1c s s.length 0
 rw [Yzp _ (by rw [List.length_map]; unfold Yl6; omega) (by
  intro x hx
  obtain ⟨y,hy,rfl⟩:=List.mem_map.1 hx
  exact Y2c s s.length 0 y hy),Y9u]
 unfold YF1 YS3
 rw [YAi]
theorem YYb (s:List UInt8):(YF1 s).length<=4*s.length:=by
 have h1:=Yci (YS3 s)
 have h2:=Y1c s s.length 0
 unfold YF1 Yb Ym
 rw [List.length_map]
 have:(YS3 s).length<=s.length:=by unfold YS3 Yl6; rw [List.length_map]; exact h2
 omega
end Go.Abs
