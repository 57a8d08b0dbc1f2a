/- Part L3 of the proof: see the last text of the claim. No condition of its own. -/
import Derived.Test.YtddagflhafkbnaaGreatDoorL2
import Derived.Test.YtddagflhafkbnaaGreatDoorQ2
import Derived.Test.YtddagflhafkbnaaGreatDoorQ3
set_option linter.all false
set_option autoImplicit false
namespace Go.Abs
def bat (s:List UInt8) (k:Nat):Int:=Y9 (s.getD k 0)
theorem Yt (s:List UInt8) (k:Nat):0<=bat s k/\bat s k<=255:=YK2 _
def c2 (s:List UInt8) (k:Nat):Int:=bat s k % 32*64+bat s (k+1) % 64
def c3 (s:List UInt8) (k:Nat):Int:=bat s k % 16*4096+bat s (k+1) % 64*64+bat s (k+2) % 64
def c4 (s:List UInt8) (k:Nat):Int:=bat s k % 8*262144+bat s (k+1) % 64*4096+bat s (k+2) % 64*64+bat s (k+3) % 64
def scal (r:Int):Bool:=decide (0<=r/\r<=1114111/\¬(55296<=r/\r<=57343))
def ut1 (s:List UInt8) (k:Nat):Bool:=decide (bat s k < 128)
def ut2 (s:List UInt8) (k:Nat):Bool:=decide (k+1 < s.length/\bat s k / 32=6/\bat s (k+1) / 64=2/\128<=c2 s k)
def ut3 (s:List UInt8) (k:Nat):Bool:=decide (k+2 < s.length/\bat s k / 16=14/\bat s (k+1) / 64=2/\bat s (k+2) / 64=2/\2048<=c3 s k)&&scal (c3 s k)
def ut4 (s:List UInt8) (k:Nat):Bool:=decide (k+3 < s.length/\bat s k / 8=30/\bat s (k+1) / 64=2/\bat s (k+2) / 64=2/\bat s (k+3) / 64=2/\65536<=c4 s k)&&scal (c4 s k)
def Yk (s:List UInt8) (k:Nat):Int×(Int×Bool):=
 if ut1 s k=true then (bat s k,1,false) else if ut2 s k=true then (c2 s k,2,false) else if ut3 s k=true then (c3 s k,3,false) else if ut4 s k=true then (c4 s k,4,false) else (65533,1,true)
theorem YIp (a0 a1 a2 a3 C2 C3 C4 k n:Nat) (s3 s4:Bool) (b0 b1 b2 b3 D2 D3 D4:Int) (hb0:b0=(a0:Int)) (hb1:b1=(a1:Int)) (hb2:b2=(a2:Int)) (hb3:b3=(a3:Int)) (hD2:D2=(C2:Int)) (hD3:D3=(C3:Int)) (hD4:D4=(C4:Int)):
  Prod.map (fun x:Nat=> ((x:Nat):Int)) (fun x:Nat=> ((x:Nat):Int)) (if a0 < 128 then (a0,1) else if a0 / 32=6/\k+1 < n/\a1 / 64=2 then (if C2>=128 then (C2,2) else (65533,1))
   else if (a0 / 16=14/\k+1 < n/\a1 / 64=2)/\k+2 < n/\a2 / 64=2 then (if C3>=2048/\s3=true then (C3,3) else (65533,1))
   else if ((a0 / 8=30/\k+1 < n/\a1 / 64=2)/\k+2 < n/\a2 / 64=2)/\k+3 < n/\a3 / 64=2 then (if C4>=65536/\s4=true then (C4,4) else (65533,1)) else (65533,1))=
  (fun y:Int×(Int×Bool)=> (y.1,y.2.1)) (if b0 < 128 then (b0,1,false) else if k+1 < n/\b0 / 32=6/\b1 / 64=2/\128<=D2 then (D2,2,false)
   else if (k+2 < n/\b0 / 16=14/\b1 / 64=2/\b2 / 64=2/\2048<=D3)/\s3=true then (D3,3,false)
   else if (k+3 < n/\b0 / 8=30/\b1 / 64=2/\b2 / 64=2/\b3 / 64=2/\65536<=D4)/\s4=true then (D4,4,false) else (65533,1,true)):=by
 subst hb0 hb1 hb2 hb3 hD2 hD3 hD4
 by_cases q1:a0 < 128
 ·rw [Yku q1,Yku (show (a0:Int) < 128 by omega)]; rfl
 rw [Yju q1,Yju (show ¬((a0:Int) < 128) by omega)]
 by_cases q2:a0 / 32=6/\k+1 < n/\a1 / 64=2
 ·rw [Yku q2]
  by_cases q:C2>=128
  ·rw [Yku q,Yku (show k+1 < n/\(a0:Int) / 32=6/\(a1:Int) / 64=2/\128<=(C2:Int) by omega)]; rfl
  ·rw [Yju q,Yju (show ¬(k+1 < n/\(a0:Int) / 32=6/\(a1:Int) / 64=2/\128<=(C2:Int)) by omega),
    Yju (show ¬((k+2 < n/\(a0:Int) / 16=14/\(a1:Int) / 64=2/\(a2:Int) / 64=2/\2048<=(C3:Int))/\s3=true) from fun h=> by omega),
    Yju (show ¬((k+3 < n/\(a0:Int) / 8=30/\(a1:Int) / 64=2/\(a2:Int) / 64=2/\(a3:Int) / 64=2/\65536<=(C4:Int))/\s4=true) from fun h=> by omega)]
   rfl
 rw [Yju q2,Yju (show ¬(k+1 < n/\(a0:Int) / 32=6/\(a1:Int) / 64=2/\128<=(C2:Int)) by omega)]
 by_cases q3:(a0 / 16=14/\k+1 < n/\a1 / 64=2)/\k+2 < n/\a2 / 64=2
 ·rw [Yku q3]
  by_cases q:C3>=2048/\s3=true
  ·rw [Yku q,Yku (show (k+2 < n/\(a0:Int) / 16=14/\(a1:Int) / 64=2/\(a2:Int) / 64=2/\2048<=(C3:Int))/\s3=true from ⟨by omega,q.2⟩)]; rfl
  ·rw [Yju q,Yju (show ¬((k+2 < n/\(a0:Int) / 16=14/\(a1:Int) / 64=2/\(a2:Int) / 64=2/\2048<=(C3:Int))/\s3=true) from fun h=> q ⟨by omega,h.2⟩),
    Yju (show ¬((k+3 < n/\(a0:Int) / 8=30/\(a1:Int) / 64=2/\(a2:Int) / 64=2/\(a3:Int) / 64=2/\65536<=(C4:Int))/\s4=true) from fun h=> by omega)]
   rfl
 rw [Yju q3,Yju (show ¬((k+2 < n/\(a0:Int) / 16=14/\(a1:Int) / 64=2/\(a2:Int) / 64=2/\2048<=(C3:Int))/\s3=true) from fun h=> by omega)]
 by_cases q4:((a0 / 8=30/\k+1 < n/\a1 / 64=2)/\k+2 < n/\a2 / 64=2)/\k+3 < n/\a3 / 64=2
 ·rw [Yku q4]
  by_cases q:C4>=65536/\s4=true
  ·rw [Yku q,Yku (show (k+3 < n/\(a0:Int) / 8=30/\(a1:Int) / 64=2/\(a2:Int) / 64=2/\(a3:Int) / 64=2/\65536<=(C4:Int))/\s4=true from ⟨by omega,q.2⟩)]; rfl
  ·rw [Yju q,Yju (show ¬((k+3 < n/\(a0:Int) / 8=30/\(a1:Int) / 64=2/\(a2:Int) / 64=2/\(a3:Int) / 64=2/\65536<=(C4:Int))/\s4=true) from fun h=> q ⟨by omega,h.2⟩)]
   rfl
 rw [Yju q4,Yju (show ¬((k+3 < n/\(a0:Int) / 8=30/\(a1:Int) / 64=2/\(a2:Int) / 64=2/\(a3:Int) / 64=2/\65536<=(C4:Int))/\s4=true) from fun h=> by omega)]
 rfl
set_option maxRecDepth 20000 in
theorem YG7 (s:List UInt8) (k:Nat):(((Yx s k).1:Nat):Int)=(Yk s k).1/\(((Yx s k).2:Nat):Int)=(Yk s k).2.1:=by
 have hsz:(⟨s.toArray⟩:ByteArray).size=s.length:=by simp [ByteArray.size]
 have hv:∀ n:Int,Utf8.valid n=scal n:=by
  intro n
  unfold Utf8.valid scal
  rw [Bool.eq_iff_iff]
  simp only [Bool.or_eq_true,Ylu,Yxu]
  omega
 have hre:Utf8.runeError=65533:=rfl
 have e2:c2 s k=(((s.getD k 0).toNat % 32*64+(s.getD (k+1) 0).toNat % 64:Nat):Int):=by unfold c2 bat Y9; omega
 have e3:c3 s k=(((s.getD k 0).toNat % 16*4096+(s.getD (k+1) 0).toNat % 64*64+(s.getD (k+2) 0).toNat % 64:Nat):Int):=by unfold c3 bat Y9; omega
 have e4:c4 s k=(((s.getD k 0).toNat % 8*262144+(s.getD (k+1) 0).toNat % 64*4096+(s.getD (k+2) 0).toNat % 64*64+(s.getD (k+3) 0).toNat % 64:Nat):Int):=by unfold c4 bat Y9; omega
 have h:=YIp (s.getD k 0).toNat (s.getD (k+1) 0).toNat (s.getD (k+2) 0).toNat (s.getD (k+3) 0).toNat ((s.getD k 0).toNat % 32*64+(s.getD (k+1) 0).toNat % 64)
  ((s.getD k 0).toNat % 16*4096+(s.getD (k+1) 0).toNat % 64*64+(s.getD (k+2) 0).toNat % 64) ((s.getD k 0).toNat % 8*262144+(s.getD (k+1) 0).toNat % 64*4096+(s.getD (k+2) 0).toNat % 64*64+(s.getD (k+3) 0).toNat % 64) k s.length (scal (c3 s k)) (scal (c4 s k)) (bat s k) (bat s (k+1)) (bat s (k+2)) (bat s (k+3)) (c2 s k) (c3 s k) (c4 s k) rfl rfl rfl rfl e2 e3 e4
 have hl:Yx s k=(if (s.getD k 0).toNat < 128 then ((s.getD k 0).toNat,1) else if (s.getD k 0).toNat / 32=6/\k+1 < s.length/\(s.getD (k+1) 0).toNat / 64=2 then (if (s.getD k 0).toNat % 32*64+(s.getD (k+1) 0).toNat % 64>=128 then ((s.getD k 0).toNat % 32*64+(s.getD (k+1) 0).toNat % 64,2) else (65533,1))
   else if ((s.getD k 0).toNat / 16=14/\k+1 < s.length/\(s.getD (k+1) 0).toNat / 64=2)/\k+2 < s.length/\(s.getD (k+2) 0).toNat / 64=2 then (if (s.getD k 0).toNat % 16*4096+(s.getD (k+1) 0).toNat % 64*64+(s.getD (k+2) 0).toNat % 64>=2048/\scal (c3 s k)=true then ((s.getD k 0).toNat % 16*4096+(s.getD (k+1) 0).toNat % 64*64+(s.getD (k+2) 0).toNat % 64,3) else (65533,1))
   else if (((s.getD k 0).toNat / 8=30/\k+1 < s.length/\(s.getD (k+1) 0).toNat / 64=2)/\k+2 < s.length/\(s.getD (k+2) 0).toNat / 64=2)/\k+3 < s.length/\(s.getD (k+3) 0).toNat / 64=2 then (if (s.getD k 0).toNat % 8*262144+(s.getD (k+1) 0).toNat % 64*4096+(s.getD (k+2) 0).toNat % 64*64+(s.getD (k+3) 0).toNat % 64>=65536/\scal (c4 s k)=true then ((s.getD k 0).toNat % 8*262144+(s.getD (k+1) 0).toNat % 64*4096+(s.getD (k+2) 0).toNat % 64*64+(s.getD (k+3) 0).toNat % 64,4) else (65533,1)) else (65533,1)):=by
  unfold Yx Utf8.decode
  simp only [Nat.add_zero,hsz,YEa,hv,<-e3,<-e4,hre,Ylu,Y7v,Yxu]
 have hr2:Yk s k=(if bat s k < 128 then (bat s k,1,false) else if k+1 < s.length/\bat s k / 32=6/\bat s (k+1) / 64=2/\128<=c2 s k then (c2 s k,2,false)
   else if (k+2 < s.length/\bat s k / 16=14/\bat s (k+1) / 64=2/\bat s (k+2) / 64=2/\2048<=c3 s k)/\scal (c3 s k)=true then (c3 s k,3,false)
   else if (k+3 < s.length/\bat s k / 8=30/\bat s (k+1) / 64=2/\bat s (k+2) / 64=2/\bat s (k+3) / 64=2/\65536<=c4 s k)/\scal (c4 s k)=true then (c4 s k,4,false) else (65533,1,true)):=by
  unfold Yk ut1 ut2 ut3 ut4
  simp only [Ylu,Yxu]
 rw [<-hr2,<-hl] at h
 exact ⟨congrArg Prod.fst h,congrArg Prod.snd h⟩
end Go.Abs
namespace Go.Abs
theorem w32 {x:Int} (h1:-2147483648<=x) (h2:x<=2147483647):IntKind.i32.wrap x=x:=by
 change (if (true&&decide (x % (4294967296:Int)>=(2147483648:Int)))=true then x % (4294967296:Int) - (4294967296:Int) else x % (4294967296:Int))=x
 by_cases h:x % (4294967296:Int)>=(2147483648:Int)
 ·rw [Yku (by simp [h])]; omega
 ·rw [Yju (by simp [h])]; omega
def Yu (r:Int):List Int:=
 if r < 128 then [r] else if r < 2048 then [192+r / 64,128+r % 64] else if r < 65536 then [224+r / 4096,128+r / 64 % 64,128+r % 64] else [240+r / 262144,128+r / 4096 % 64,128+r / 64 % 64,128+r % 64]
theorem Yb7 (r:Int):YM4 r=some (scal r):=by
 rw [YRn,YRk]
 unfold scal
 by_cases a:0<=r
 ·rw [show decide (r>=0)=true from Yeu a,Ygu]
  by_cases b:r<=1114111
  ·rw [Yeu b,Ygu]
   by_cases c:r < 55296
   ·rw [Yeu c,Ygu,Yeu (by omega)]
   ·rw [Yfu c,Yhu]
    congr 1
    by_cases d:r > 57343
    ·rw [Yeu d,Yeu (by omega)]
    ·rw [Yfu d,Yfu (by omega)]
  ·rw [Yfu b,Yhu,Yfu (by omega)]
 ·rw [show decide (r>=0)=false from Yfu (by omega),Yhu,Yfu (by omega)]
theorem Y87 (r:Int) (h0:0<=r) (h1:r < 2097152):YM2 r=some (Yu r):=by
 rw [YNn,YVi]
 unfold Yu
 have td:∀ d:Int,0 < d->Int.tdiv r d=r / d:=fun d _=> YMu h0
 have tm:∀ x:Int,0<=x->Int.tmod x 64=x % 64:=fun x hx=> Int.tmod_eq_emod_of_nonneg hx
 by_cases a:r < 128
 ·rw [Yeu a,Ygu,Yku a,w8 h0 (by omega)]
 ·rw [Yfu a,Yhu,Yju a,td 64 (by omega),tm r h0,td 4096 (by omega),td 262144 (by omega)]
  rw [w32 (x:=r / 64) (by omega) (by omega),w32 (x:=128+r % 64) (by omega) (by omega),w32 (x:=r / 4096) (by omega) (by omega),w32 (x:=r / 262144) (by omega) (by omega),tm (r / 64) (by omega),tm (r / 4096) (by omega)]
  rw [w8 (x:=128+r % 64) (by omega) (by omega),w32 (x:=128+r / 64 % 64) (by omega) (by omega),w8 (x:=128+r / 64 % 64) (by omega) (by omega),w32 (x:=128+r / 4096 % 64) (by omega) (by omega),w8 (x:=128+r / 4096 % 64) (by omega) (by omega)]
  by_cases b:r < 2048
  ·rw [Yeu b,Ygu,Yku b,w32 (by omega) (by omega),w8 (by omega) (by omega)]
  ·rw [Yfu b,Yhu,Yju b]
   by_cases c:r < 65536
   ·rw [Yeu c,Ygu,Yku c,w32 (by omega) (by omega),w8 (by omega) (by omega)]
   ·rw [Yfu c,Yhu,Yju c,w32 (by omega) (by omega),w8 (by omega) (by omega)]
def atB (s:List UInt8) (k:Nat):List Int->Bool
 | []=> true
 | b::l=> decide (k < s.length/\bat s k=b)&&atB s (k+1) l
theorem Ybh (s:List UInt8) (k:Nat) (bs:List Int) (hs:s.length<=1073741824) (hb:bs.length<=4) (hk:k+bs.length<=s.length):∀ (m i:Nat),i+m=bs.length->Z27 s (k:Int) bs (i:Int)=some (atB s (k+i) (bs.drop i))
 | 0,i,h=> by
  have:i=bs.length:=by omega
  subst this
  rw [Yrc,Yg,Yfu (YGu _),Yhu,YUu]; rfl
 | m+1,i,h=> by
  have hi:i < bs.length:=by omega
  have hw:IntKind.i64.wrap ((k:Int)+(i:Int))=((k+i:Nat):Int):=by rw [w64 (by omega) (by omega)]; omega
  have hw1:IntKind.i64.wrap ((i:Int)+1)=((i+1:Nat):Int):=by rw [w64 (by omega) (by omega)]; omega
  have hg:List.getD bs (Int.toNat (i:Int)) (Ty.zero (.int .u8))=bs[i]:=by
   rw [Ymu,Yvu,Ywu hi]; rfl
  rw [Yrc,Yg,Yeu hi,Ygu,hw,hw1,Yj,Yeu (by omega),Ygu,Yj,Yeu hi,Ygu,hg,Ymu,Yru hi,atB]
  rw [show (((s.getD (k+i) 0).toNat:Nat):Int)=bat s (k+i) from rfl]
  by_cases e:bat s (k+i)=bs[i]
  ·rw [show (bat s (k+i) !=bs[i])=false from by simpa using e,Yhu,Ybh s k bs hs hb hk m (i+1) (by omega),Yeu ⟨by omega,e⟩,Y5v,Nat.add_assoc]
  ·rw [show (bat s (k+i) !=bs[i])=true from by simpa using e,Ygu,Yfu (fun h=> e h.2),Bool.false_and]
theorem YNe (s:List UInt8) (k:Nat) (bs:List Int) (hs:s.length<=1073741824) (hb:bs.length<=4) (hk:k<=s.length):YH5 (s,(k:Int),bs)=some (atB s k bs):=by
 rw [YXn,Y0j]
 simp only
 rw [w64 (by omega) (by omega)]
 by_cases h:k+bs.length<=s.length
 ·rw [show decide ((s.length:Int) - (k:Int) < (bs.length:Int))=false from Yfu (by omega),Yhu]
  exact Ybh s k bs hs hb h bs.length 0 (by omega)
 ·rw [show decide ((s.length:Int) - (k:Int) < (bs.length:Int))=true from Yeu (by omega),Ygu]
  have:∀ (l:List Int) (k:Nat),s.length < k+l.length->k<=s.length->atB s k l=false:=by
   intro l
   induction l with
   | nil=> intro k h1 h2; simp at h1; omega
   | cons b l ih=>
    intro k h1 h2
    rw [atB]
    by_cases c:k < s.length
    ·rw [ih (k+1) (by simp only [Ynu] at h1; omega) (by omega),Bool.and_false]
    ·rw [Yfu (fun h=> c h.1),Bool.false_and]
  rw [this bs k (by omega) hk]
theorem Yx5 {x:Int} (m:Nat) (h0:0<=x) (h1:x<=255) (hm:m<=8):bits Go.BinOp.and IntKind.u8 x ((2 ^ m - 1:Nat):Int)=x % ((2 ^ m:Nat):Int):=by
 obtain ⟨n,rfl⟩:=Y6v h0
 have hp:2 ^ m<=256:=by
  have:=Nat.pow_le_pow_right (n:=2) (by omega) hm
  simpa using this
 have hp0:0 < 2 ^ m:=Nat.pow_pos (by omega)
 have e1:(BitVec.ofInt 8 (n:Int)).toNat=n:=by
  rw [BitVec.toNat_ofInt]; omega
 have e2:(BitVec.ofInt 8 (((2 ^ m - 1:Nat):Nat):Int)).toNat=2 ^ m - 1:=by
  rw [BitVec.toNat_ofInt]; omega
 have e:(BitVec.ofInt 8 (n:Int)&&&BitVec.ofInt 8 (((2 ^ m - 1:Nat):Nat):Int)).toNat=n % 2 ^ m:=by
  rw [BitVec.toNat_and,e1,e2,Nat.and_two_pow_sub_one_eq_mod]
 show IntKind.u8.wrap (((BitVec.ofInt 8 (n:Int)&&&BitVec.ofInt 8 (((2 ^ m - 1:Nat):Nat):Int)).toNat:Nat):Int)=_
 have hlt:n % 2 ^ m < 2 ^ m:=Nat.mod_lt _ hp0
 rw [e,w8 (by omega) (by omega)]
 exact Int.natCast_emod _ _
theorem m127 {x:Int} (h:0<=x/\x<=255):bits Go.BinOp.and IntKind.u8 x 127=x % 128:=Yx5 7 h.1 h.2 (by omega)
theorem m31 {x:Int} (h:0<=x/\x<=255):bits Go.BinOp.and IntKind.u8 x 31=x % 32:=Yx5 5 h.1 h.2 (by omega)
theorem m15 {x:Int} (h:0<=x/\x<=255):bits Go.BinOp.and IntKind.u8 x 15=x % 16:=Yx5 4 h.1 h.2 (by omega)
theorem m7 {x:Int} (h:0<=x/\x<=255):bits Go.BinOp.and IntKind.u8 x 7=x % 8:=Yx5 3 h.1 h.2 (by omega)
theorem m63 {x:Int} (h:0<=x/\x<=255):bits Go.BinOp.and IntKind.u8 x 63=x % 64:=Yx5 6 h.1 h.2 (by omega)
theorem Y45 (s:List UInt8) (k w i:Nat) (r:Int) (hs:s.length<=1073741824) (hi:i < w) (hw4:w<=4) (hk:k+w<=s.length) (h0:0<=r) (h1:r < 32768):
  Zz6 s (k:Int) (w:Int) r (i:Int)=Zz6 s (k:Int) (w:Int) (r*64+bat s (k+i) % 64) ((i+1:Nat):Int):=by
 have hb:=Yt s (k+i)
 have hw:IntKind.i64.wrap ((k:Int)+(i:Int))=((k+i:Nat):Int):=by rw [w64 (by omega) (by omega)]; omega
 have hw1:IntKind.i64.wrap ((i:Int)+1)=((i+1:Nat):Int):=by rw [w64 (by omega) (by omega)]; omega
 rw [YNd,Yg,Yeu hi,Ygu,hw,hw1,Yj,Yeu (by omega),Ygu,Ymu]
 rw [show (((s.getD (k+i) 0).toNat:Nat):Int)=bat s (k+i) from rfl,m63 hb,w32 (x:=bat s (k+i) % 64) (by omega) (by omega),w32 (x:=r*64) (by omega) (by omega),w32 (by omega) (by omega)]
theorem YO7 (s:List UInt8) (k w:Nat) (r:Int):Zz6 s (k:Int) (w:Int) r (w:Int)=some r:=by
 rw [YNd,Yg,Yfu (YGu _),Yhu]
def Yf1 (s:List UInt8) (k w:Nat):Int:=match w with
 | 1=> bat s k % 128
 | 2=> c2 s k
 | 3=> c3 s k
 | _=> c4 s k
theorem YZn (s:List UInt8) (k w:Nat) (hs:s.length<=1073741824) (h1:1<=w) (h4:w<=4) (hk:k+w<=s.length):YL9 (s,(k:Int),(w:Int))=some (Yf1 s k w):=by
 have hb:=Yt s k
 rw [YYn,YNl]
 simp only
 rw [Yj,Yeu (by omega),Ygu,show Ya (w:Int) [(0:Int),127,31,15,7].length=true from by rw [Yj]; exact Yeu (by simp; omega),Ygu,Ymu,Ymu]
 rw [show (((s.getD k 0).toNat:Nat):Int)=bat s k from rfl]
 have e:w=1\/w=2\/w=3\/w=4:=by omega
 rcases e with rfl | rfl | rfl | rfl
 ·rw [show List.getD [(0:Int),127,31,15,7] 1 (Ty.zero (.int .u8))=127 from rfl,m127 hb,w32 (by omega) (by omega)]
  exact YO7 s k 1 _
 ·rw [show List.getD [(0:Int),127,31,15,7] 2 (Ty.zero (.int .u8))=31 from rfl,m31 hb,w32 (by omega) (by omega)]
  have:=Y45 s k 2 1 (bat s k % 32) hs (by omega) (by omega) hk (by omega) (by omega)
  rw [show ((1:Nat):Int)=1 from rfl] at this
  rw [this]
  exact YO7 s k 2 _
 ·rw [show List.getD [(0:Int),127,31,15,7] 3 (Ty.zero (.int .u8))=15 from rfl,m15 hb,w32 (by omega) (by omega)]
  have:=Y45 s k 3 1 (bat s k % 16) hs (by omega) (by omega) hk (by omega) (by omega)
  have b1:=Yt s (k+1)
  rw [show ((1:Nat):Int)=1 from rfl] at this
  rw [this,Y45 s k 3 2 _ hs (by omega) (by omega) hk (by omega) (by omega)]
  refine (YO7 s k 3 _).trans ?_
  show some _=some (c3 s k)
  unfold c3; congr 1; omega
 ·rw [show List.getD [(0:Int),127,31,15,7] 4 (Ty.zero (.int .u8))=7 from rfl,m7 hb,w32 (by omega) (by omega)]
  have:=Y45 s k 4 1 (bat s k % 8) hs (by omega) (by omega) hk (by omega) (by omega)
  have b1:=Yt s (k+1)
  have b2:=Yt s (k+2)
  rw [show ((1:Nat):Int)=1 from rfl] at this
  rw [this,Y45 s k 4 2 _ hs (by omega) (by omega) hk (by omega) (by omega),Y45 s k 4 3 _ hs (by omega) (by omega) hk (by omega) (by omega)]
  refine (YO7 s k 4 _).trans ?_
  show some _=some (c4 s k)
  unfold c4; congr 1; omega
end Go.Abs
namespace Go.Abs
def tryW (s:List UInt8) (k w:Nat):Bool:=scal (Yf1 s k w)&&(decide ((Yu (Yf1 s k w)).length=w)&&atB s k (Yu (Yf1 s k w)))
theorem YFq (s:List UInt8) (k w:Nat):0<=Yf1 s k w/\Yf1 s k w < 2097152:=by
 have h0:=Yt s k
 have h1:=Yt s (k+1)
 have h2:=Yt s (k+2)
 have h3:=Yt s (k+3)
 unfold Yf1 c2 c3 c4
 split <;> omega
theorem Yt3 (r:Int):(Yu r).length=if r < 128 then 1 else if r < 2048 then 2 else if r < 65536 then 3 else 4:=by
 unfold Yu
 split
 ·rfl
 ·split
  ·rfl
  ·split <;> rfl
theorem YD6 (s:List UInt8) (k w:Nat) (b:D181) (hs:s.length<=1073741824) (h1:1<=w) (h4:w<=4) (hk:k+w<=s.length):
  Zd6 s (k:Int) false (w:Int) b=if tryW s k w=true then some ((k:Int),((w:Int),(Yf1 s k w,false))) else Zd6 s (k:Int) false ((w+1:Nat):Int) b:=by
 have hw:IntKind.i64.wrap ((k:Int)+(w:Int))=((k+w:Nat):Int):=by rw [w64 (by omega) (by omega)]; omega
 have hw1:IntKind.i64.wrap ((w:Int)+1)=((w+1:Nat):Int):=by rw [w64 (by omega) (by omega)]; omega
 have hg:=YFq s k w
 rw [YXc,show decide ((w:Int)<=4)=true from Yeu (by omega),Ygu,hw,show decide (((k+w:Nat):Int)<=(s.length:Int))=true from Yeu (by omega),Ygu,hw1]
 rw [YZn s k w hs h1 h4 hk,Yiu,Yb7,Yiu,Y87 _ hg.1 hg.2,Yiu]
 unfold tryW
 have hbl:=Yt3 (Yf1 s k w)
 have hb4:(Yu (Yf1 s k w)).length<=4:=by rw [hbl]; split <;> (try split) <;> (try split) <;> omega
 cases scal (Yf1 s k w) with
 | false=> simp only [Yhu,Bool.false_and,YSu,if_false]
 | true=>
  rw [Ygu,Y5v]
  by_cases hl:(Yu (Yf1 s k w)).length=w
  ·rw [show (((Yu (Yf1 s k w)).length:Int)==(w:Int))=true from Y7v.2 (by omega),Ygu,Yiu,YNe s k _ hs hb4 (by omega),Yiu,Yeu hl,Y5v]
   cases atB s k (Yu (Yf1 s k w)) <;> rfl
  ·rw [show (((Yu (Yf1 s k w)).length:Int)==(w:Int))=false from Yqu.2 (by omega),Yhu,Yfu hl,Bool.false_and]; rfl
theorem YC6 (s:List UInt8) (k w:Nat) (b:D181) (hs:s.length<=1073741824) (hk1:k<=s.length) (hk:s.length < k+w\/4 < w) (h5:w<=5):
  Zd6 s (k:Int) false (w:Int) b=some ((k:Int),(1,(65533,true))):=by
 have hw:IntKind.i64.wrap ((k:Int)+(w:Int))=((k+w:Nat):Int):=by rw [w64 (by omega) (by omega)]; omega
 rw [YXc,hw]
 by_cases h:(w:Int)<=4
 ·rw [Yeu h,Ygu,show decide (((k+w:Nat):Int)<=(s.length:Int))=false from Yfu (by omega),Yhu]
 ·rw [Yfu h,Yhu]
theorem YRt (s:List UInt8) (k:Nat) (hk:k+1<=s.length):tryW s k 1=ut1 s k:=by
 have h0:=Yt s k
 unfold tryW ut1
 have hg:Yf1 s k 1=bat s k % 128:=rfl
 have hb:Yu (bat s k % 128)=[bat s k % 128]:=by unfold Yu; rw [Yku (by omega)]
 rw [hg,hb,show scal (bat s k % 128)=true from by unfold scal; exact Yeu (by omega),Y5v]
 rw [show decide ([bat s k % 128].length=1)=true from rfl,Y5v,atB,atB,Bool.and_true]
 by_cases c:bat s k < 128
 ·rw [Yeu c,Yeu ⟨by omega,by omega⟩]
 ·rw [Yfu c,Yfu (fun h=> c (by omega))]
theorem YSt (s:List UInt8) (k:Nat) (hk:k+2<=s.length):tryW s k 2=ut2 s k:=by
 have h0:=Yt s k
 have h1:=Yt s (k+1)
 unfold tryW ut2
 have hg:Yf1 s k 2=c2 s k:=rfl
 have hc:0<=c2 s k/\c2 s k < 2048:=by unfold c2; omega
 rw [hg,show scal (c2 s k)=true from by unfold scal; exact Yeu (by omega),Y5v,Yt3]
 by_cases c:c2 s k < 128
 ·rw [Yku c,show decide ((1:Nat)=2)=false from rfl,Bool.false_and,Yfu (by omega)]
 ·rw [Yju c,Yku hc.2,show decide ((2:Nat)=2)=true from rfl,Y5v]
  have hb:Yu (c2 s k)=[192+c2 s k / 64,128+c2 s k % 64]:=by unfold Yu; rw [Yju c,Yku hc.2]
  rw [hb,atB,atB,atB,Bool.and_true,Bool.eq_iff_iff]
  simp only [Ylu,Yxu]
  have e:c2 s k=bat s k % 32*64+bat s (k+1) % 64:=rfl
  omega
theorem YTt (s:List UInt8) (k:Nat) (hk:k+3<=s.length):tryW s k 3=ut3 s k:=by
 have h0:=Yt s k
 have h1:=Yt s (k+1)
 have h2:=Yt s (k+2)
 unfold tryW ut3
 have hg:Yf1 s k 3=c3 s k:=rfl
 have hc:0<=c3 s k/\c3 s k < 65536:=by unfold c3; omega
 rw [hg,Yt3]
 cases scal (c3 s k) with
 | false=> rw [Bool.false_and,Bool.and_false]
 | true=>
  rw [Y5v,Bool.and_true]
  by_cases c:c3 s k < 128
  ·rw [Yku c,show decide ((1:Nat)=3)=false from rfl,Bool.false_and,Yfu (by omega)]
  ·rw [Yju c]
   by_cases d:c3 s k < 2048
   ·rw [Yku d,show decide ((2:Nat)=3)=false from rfl,Bool.false_and,Yfu (by omega)]
   ·rw [Yju d,Yku hc.2,show decide ((3:Nat)=3)=true from rfl,Y5v]
    have hb:Yu (c3 s k)=[224+c3 s k / 4096,128+c3 s k / 64 % 64,128+c3 s k % 64]:=by unfold Yu; rw [Yju c,Yju d,Yku hc.2]
    rw [hb,atB,atB,atB,atB,Bool.and_true,Bool.eq_iff_iff]
    simp only [Ylu,Yxu]
    have e:c3 s k=bat s k % 16*4096+bat s (k+1) % 64*64+bat s (k+2) % 64:=rfl
    rw [show k+1+1=k+2 from rfl]
    omega
theorem YUt (s:List UInt8) (k:Nat) (hk:k+4<=s.length):tryW s k 4=ut4 s k:=by
 have h0:=Yt s k
 have h1:=Yt s (k+1)
 have h2:=Yt s (k+2)
 have h3:=Yt s (k+3)
 unfold tryW ut4
 have hg:Yf1 s k 4=c4 s k:=rfl
 have hc:0<=c4 s k/\c4 s k < 2097152:=by unfold c4; omega
 rw [hg,Yt3]
 cases scal (c4 s k) with
 | false=> rw [Bool.false_and,Bool.and_false]
 | true=>
  rw [Y5v,Bool.and_true]
  by_cases d:c4 s k < 65536
  ·have:decide ((if c4 s k < 128 then 1 else if c4 s k < 2048 then 2 else if c4 s k < 65536 then 3 else 4)=4)=false:=by
    apply Yfu
    split
    ·omega
    ·split
     ·omega
     ·first | omega | (rw [Yku d]; omega)
   rw [this,Bool.false_and,Yfu (by omega)]
  ·rw [Yju (by omega),Yju (by omega),Yju d,show decide ((4:Nat)=4)=true from rfl,Y5v]
   have hb:Yu (c4 s k)=[240+c4 s k / 262144,128+c4 s k / 4096 % 64,128+c4 s k / 64 % 64,128+c4 s k % 64]:=by unfold Yu; rw [Yju (by omega),Yju (by omega),Yju d]
   rw [hb,atB,atB,atB,atB,atB,Bool.and_true,Bool.eq_iff_iff]
   simp only [Ylu,Yxu]
   have e:c4 s k=bat s k % 8*262144+bat s (k+1) % 64*4096+bat s (k+2) % 64*64+bat s (k+3) % 64:=rfl
   rw [show k+1+1+1=k+3 from rfl,show k+1+1=k+2 from rfl]
   omega
theorem YIe (s:List UInt8) (k:Nat) (hs:s.length<=1073741824) (hk:k < s.length):Y97 (s,(k:Int),false)=some ((k:Int),((Yk s k).2.1,((Yk s k).1,(Yk s k).2.2))):=by
 rw [YPn,Y1k]
 simp only
 generalize ((Ty.zero (.int .i64)),((Ty.zero (.int .i64)),((Ty.zero (.int .i32)),(Ty.zero .bool))))=b
 have s1:=YD6 s k 1 b hs (by omega) (by omega) (by omega)
 rw [show ((1:Nat):Int)=1 from rfl] at s1
 rw [s1,YRt s k (by omega)]
 unfold Yk
 by_cases q1:ut1 s k=true
 ·rw [Yku q1,Yku q1]
  have:Yf1 s k 1=bat s k:=by
   have h0:=Yt s k
   have:=YQu q1
   show bat s k % 128=_
   omega
  rw [this]
 rw [Yju q1,Yju q1]
 by_cases l2:k+2<=s.length
 ·rw [YD6 s k 2 b hs (by omega) (by omega) l2,YSt s k l2]
  by_cases q2:ut2 s k=true
  ·rw [Yku q2,Yku q2]; rfl
  rw [Yju q2,Yju q2]
  by_cases l3:k+3<=s.length
  ·rw [YD6 s k 3 b hs (by omega) (by omega) l3,YTt s k l3]
   by_cases q3:ut3 s k=true
   ·rw [Yku q3,Yku q3]; rfl
   rw [Yju q3,Yju q3]
   by_cases l4:k+4<=s.length
   ·rw [YD6 s k 4 b hs (by omega) (by omega) l4,YUt s k l4]
    by_cases q4:ut4 s k=true
    ·rw [Yku q4,Yku q4]; rfl
    rw [Yju q4,Yju q4,YC6 s k 5 b hs (by omega) (.inr (by omega)) (by omega)]
   ·have q4:¬ut4 s k=true:=by unfold ut4; rw [Yfu (by omega),Bool.false_and]; simp
    rw [Yju q4,YC6 s k 4 b hs (by omega) (.inl (by omega)) (by omega)]
  ·have q3:¬ut3 s k=true:=by unfold ut3; rw [Yfu (by omega),Bool.false_and]; simp
   have q4:¬ut4 s k=true:=by unfold ut4; rw [Yfu (by omega),Bool.false_and]; simp
   rw [Yju q3,Yju q4,YC6 s k 3 b hs (by omega) (.inl (by omega)) (by omega)]
 ·have q2:¬ut2 s k=true:=by unfold ut2; rw [Yfu (by omega)]; simp
  have q3:¬ut3 s k=true:=by unfold ut3; rw [Yfu (by omega),Bool.false_and]; simp
  have q4:¬ut4 s k=true:=by unfold ut4; rw [Yfu (by omega),Bool.false_and]; simp
  rw [Yju q2,Yju q3,Yju q4,YC6 s k 2 b hs (by omega) (.inl (by omega)) (by omega)]
end Go.Abs
namespace Go.Abs
theorem Y8t (s:List UInt8) (k:Nat) (hk:k < s.length):1<=(Yk s k).2.1/\(Yk s k).2.1<=4/\(k:Int)+(Yk s k).2.1<=s.length:=by
 unfold Yk
 by_cases q1:ut1 s k=true
 ·rw [Yku q1]; simp only; omega
 rw [Yju q1]
 by_cases q2:ut2 s k=true
 ·rw [Yku q2]; have:=YQu q2; simp only; omega
 rw [Yju q2]
 by_cases q3:ut3 s k=true
 ·rw [Yku q3]
  unfold ut3 at q3
  rw [Ylu] at q3
  have:=YQu q3.1; simp only; omega
 rw [Yju q3]
 by_cases q4:ut4 s k=true
 ·rw [Yku q4]
  unfold ut4 at q4
  rw [Ylu] at q4
  have:=YQu q4.1; simp only; omega
 rw [Yju q4]; simp only; omega
def wd (s:List UInt8) (k:Nat):Nat:=(Yk s k).2.1.toNat
theorem Y92 (s:List UInt8) (k:Nat) (hk:k < s.length):1<=wd s k/\wd s k<=4/\k+wd s k<=s.length/\((wd s k:Nat):Int)=(Yk s k).2.1:=by
 have:=Y8t s k hk
 unfold wd; omega
theorem Yy3 (s:List UInt8) (k:Nat):(Yx s k).2=wd s k:=by
 have:=(YG7 s k).2
 unfold wd; omega
theorem Yi4 (s:List UInt8) (k:Nat):(((Yx s k).1:Nat):Int)=(Yk s k).1:=(YG7 s k).1
def pcs (s:List UInt8):Nat->Nat->List (Nat×(Int×(Int×Bool)))
 | 0,_=> []
 | n+1,k=> if k < s.length then (k,Yk s k)::pcs s n (k+wd s k) else []
def Y72 (s:List UInt8):List (Nat×(Int×(Int×Bool))):=pcs s s.length 0
def toD (x:Nat×(Int×(Int×Bool))):D181:=((x.1:Int),(x.2.2.1,(x.2.1,x.2.2.2)))
def Yq (s:List UInt8):List Int:=(Y72 s).map (·.2.1)
def Y32:List (Nat×(Int×(Int×Bool)))->Option Nat
 | []=> none
 | x::l=> if x.2.2.2=true then some x.1 else Y32 l
def YM1 (s:List UInt8):Bool×Int:=match Y32 (Y72 s) with
 | none=> (true,0)
 | some k=> (false,(k:Int))
theorem Yk8 (s:List UInt8):∀ (n k:Nat),(pcs s n k).length<=n
 | 0,_=> by simp [pcs]
 | n+1,k=> by
  unfold pcs
  split
  ·simp only [Ynu]; have:=Yk8 s n (k+wd s k); omega
  ·simp
theorem Ycc (s:List UInt8) (hs:s.length<=1073741824):∀ (n k:Nat) (r:List D181),s.length<=k+n->k<=s.length->r.length+n<=1073741824->Zs5 s (k:Int) r=some (r++(pcs s n k).map toD)
 | 0,k,r,hn,hk,hr=> by
  rw [Ywd,Yg,Yfu (by omega),Yhu,pcs]; simp
 | n+1,k,r,hn,hk,hr=> by
  rw [Ywd,Yg]
  unfold pcs
  by_cases c:k < s.length
  ·have hw:=Y92 s k c
   rw [Yeu c,Ygu,Yku c,YIe s k hs c,Yiu]
   simp only
   rw [show decide (r.length+[((k:Int),((Yk s k).2.1,((Yk s k).1,(Yk s k).2.2)))].length<=lim)=true from Yeu (by simp [lim]; omega),Ygu]
   rw [<-hw.2.2.2,w64 (by omega) (by omega),show (k:Int)+((wd s k:Nat):Int)=((k+wd s k:Nat):Int) from by omega]
   rw [Ycc s hs n (k+wd s k) _ (by omega) (by omega) (by simp; omega),hw.2.2.2]
   simp [toD]
  ·rw [Yfu c,Yhu,Yju c]; simp
theorem YJe (s:List UInt8) (hs:s.length<=1073741824):Ya7 s=some ((Y72 s).map toD):=by
 rw [YQn,Ydl]
 exact Ycc s hs s.length 0 [] (by omega) (by omega) (by simpa using hs)
theorem Ydg {α β:Type} (f:α->β) (l:List α) (i:Nat) (d:β) (hi:i < l.length):List.getD (l.map f) i d=f l[i]:=by
 rw [Yvu,List.getElem?_map,Ywu hi]; rfl
theorem Ylc (s:List UInt8) (l:List (Nat×(Int×(Int×Bool)))) (hl:l.length<=1073741824):∀ (n i:Nat),i+n=l.length->Zf5 s (i:Int) (l.map toD)=some (match Y32 (l.drop i) with | none=> (true,0) | some k=> (false,(k:Int)))
 | 0,i,h=> by
  have:i=l.length:=by omega
  subst this
  rw [Y4d,YVu,Yg,Yfu (YGu _),Yhu,YUu]; rfl
 | n+1,i,h=> by
  have hi:i < l.length:=by omega
  have hw:IntKind.i64.wrap ((i:Int)+1)=((i+1:Nat):Int):=by rw [w64 (by omega) (by omega)]; omega
  rw [Y4d,YVu,Yg,Yeu hi,Ygu,Yj,Yeu hi,Ygu,Ygu,hw,Ymu,Ydg toD l i _ hi,Yru hi,Y32]
  show (bif l[i].2.2.2 then some (false,((l[i].1:Nat):Int)) else _)=_
  cases l[i].2.2.2 with
  | true=> rw [Ygu,Yku rfl]
  | false=> rw [Yhu,Yju (by simp),Ylc s l hl n (i+1) (by omega)]
theorem YKe (s:List UInt8) (hs:s.length<=1073741824):Yc7 s=some (YM1 s):=by
 rw [YUn,Y5k,YJe s hs,Yiu]
 have:=Yk8 s s.length 0
 exact Ylc s (Y72 s) (by unfold Y72; omega) (Y72 s).length 0 (by omega)
theorem Yic (s:List UInt8) (l:List (Nat×(Int×(Int×Bool)))) (hl:l.length<=1073741824):∀ (n i:Nat) (r:List Int),i+n=l.length->r.length=i->Zz5 s (i:Int) r (l.map toD)=some (r++(l.drop i).map (·.2.1))
 | 0,i,r,h,hr=> by
  have:i=l.length:=by omega
  subst this
  rw [YMd,YVu,Yg,Yfu (YGu _),Yhu,YUu]; simp
 | n+1,i,r,h,hr=> by
  have hi:i < l.length:=by omega
  have hw:IntKind.i64.wrap ((i:Int)+1)=((i+1:Nat):Int):=by rw [w64 (by omega) (by omega)]; omega
  rw [YMd,YVu,Yg,Yeu hi,Ygu,Yj,Yeu hi,Ygu,hw,Ymu,Ydg toD l i _ hi]
  rw [show decide (r.length+[(toD l[i]).2.2.1].length<=lim)=true from Yeu (by simp [lim]; omega),Ygu,Yic s l hl n (i+1) _ (by omega) (by simp [hr]),Yru hi,YBu,Ypu]
  rfl
theorem YJ9 (s:List UInt8) (hs:s.length<=1073741824):YG5 s=some (Yq s):=by
 rw [YSn,YMl,YJe s hs,Yiu]
 have:=Yk8 s s.length 0
 exact Yic s (Y72 s) (by unfold Y72; omega) (Y72 s).length 0 [] (by omega) rfl
theorem YP3 (s:List UInt8):(Yq s).length<=s.length:=by
 unfold Yq Y72
 rw [YVu]
 exact Yk8 s s.length 0
theorem Yui (s:List UInt8) (l:List Int) (hl:l.length<=1073741824):∀ (n i:Nat),i+n=l.length->Z36 s (i:Int) l=some ((l.drop i).any fun x=> x==65533)
 | 0,i,h=> by
  have:i=l.length:=by omega
  subst this
  rw [Yvc,Yg,Yfu (YGu _),Yhu,YUu]; rfl
 | n+1,i,h=> by
  have hi:i < l.length:=by omega
  have hw:IntKind.i64.wrap ((i:Int)+1)=((i+1:Nat):Int):=by rw [w64 (by omega) (by omega)]; omega
  have hg:List.getD l (Int.toNat (i:Int)) (Ty.zero (.int .i32))=l[i]:=by
   rw [Ymu,Yvu,Ywu hi]; rfl
  rw [Yvc,Yg,Yeu hi,Ygu,Yj,Yeu hi,Ygu,hw,hg,Yru hi,List.any_cons,Yui s l hl n (i+1) (by omega)]
  cases (l[i]==65533) <;> rfl
def has (s:List UInt8) (c:Int):Bool:=(Yq s).any fun x=> x==c
theorem Y6f (s:List UInt8) (hs:s.length<=1073741824):Yq7 s=some (has s 65533):=by
 rw [YTo,Y7j,YJ9 s hs,Yiu]
 have:=YP3 s
 exact Yui s (Yq s) (by omega) (Yq s).length 0 (by omega)
theorem Yhg (s:List UInt8) (c:Int):∀ (n k:Nat),s.length<=k+n->k<=s.length->Zj2 s c s k=some (((pcs s n k).map (·.2.1)).any fun x=> x==c)
 | 0,k,hn,hk=> by
  rw [Yed,Yfu (by omega),Yhu]; rfl
 | n+1,k,hn,hk=> by
  rw [Yed]
  unfold pcs
  by_cases h:k < s.length
  ·have hw:=Y92 s k h
   rw [Yeu h,Ygu,Yku h,Yi4,Yy3,YBu,List.any_cons,Yhg s c n (k+wd s k) (by omega) (by omega)]
   cases ((Yk s k).1==c) <;> rfl
  ·rw [Yfu h,Yhu,Yju h]; rfl
theorem Yke (s:List UInt8) (c:Int):YJ4 (s,c)=some (has s c):=by
 rw [YOm,Yjk]
 exact Yhg s c s.length 0 (by omega) (by omega)
theorem Y7e (s:List UInt8) (k i:Nat):bat (s.drop k) i=bat s (k+i):=by
 unfold bat; simp [Yvu]
theorem YY2 (s:List UInt8) (k:Nat):bat (s.drop k) 0=bat s k:=Y7e s k 0
theorem YP1 (s:List UInt8) (k i:Nat):bat (s.drop k) (0+i)=bat s (k+i):=by rw [Y2v]; exact Y7e s k i
theorem YVh (s:List UInt8) (k:Nat) (hk:k<=s.length):Yk (s.drop k) 0=Yk s k:=by
 have e2:c2 (s.drop k) 0=c2 s k:=by unfold c2; rw [YY2,YP1]
 have e3:c3 (s.drop k) 0=c3 s k:=by unfold c3; rw [YY2,YP1,YP1]
 have e4:c4 (s.drop k) 0=c4 s k:=by unfold c4; rw [YY2,YP1,YP1,YP1]
 have hl:(s.drop k).length=s.length - k:=Yzu ..
 have u1:ut1 (s.drop k) 0=ut1 s k:=by unfold ut1; rw [YY2]
 have u2:ut2 (s.drop k) 0=ut2 s k:=by
  unfold ut2; apply decide_eq_decide.2; rw [e2,YY2,YP1,hl]; omega
 have u3:ut3 (s.drop k) 0=ut3 s k:=by
  unfold ut3; rw [e3,YY2,YP1,YP1,hl,Bool.eq_iff_iff,Ylu,Ylu,Yxu,Yxu]; exact and_congr_left fun _=> by omega
 have u4:ut4 (s.drop k) 0=ut4 s k:=by
  unfold ut4; rw [e4,YY2,YP1,YP1,YP1,hl,Bool.eq_iff_iff,Ylu,Ylu,Yxu,Yxu]; exact and_congr_left fun _=> by omega
 unfold Yk
 rw [u1,u2,u3,u4,e2,e3,e4,YY2]
theorem Ysf (s:List UInt8) (k:Nat) (hk:k < s.length):Yw7 (s,(k:Int))=some ((k:Int),((Yk s k).2.1,((Yk s k).1,(Yk s k).2.2))):=by
 rw [Yup,Yfk]
 simp only
 rw [Yi1 (by omega),Ygu,YR1,Ynp,Yk5]
 have hne:(s.drop k).isEmpty=false:=by
  cases hd:s.drop k with
  | nil=> have:=List.drop_eq_nil_iff.1 hd; omega
  | cons=> rfl
 rw [hne,Yhu,Yiu]
 simp only
 rw [(YG7 (s.drop k) 0).1,(YG7 (s.drop k) 0).2,YVh s k (by omega)]
 have hb:(Yk s k).2.2=(((Yk s k).1==65533)&&((Yk s k).2.1==1)):=by
  unfold Yk
  by_cases q1:ut1 s k=true
  ·rw [Yku q1]
   have:=YQu q1
   simp only
   rw [show (bat s k==65533)=false from Yqu.2 (by omega)]; rfl
  rw [Yju q1]
  by_cases q2:ut2 s k=true
  ·rw [Yku q2]; simp
  rw [Yju q2]
  by_cases q3:ut3 s k=true
  ·rw [Yku q3]; simp
  rw [Yju q3]
  by_cases q4:ut4 s k=true
  ·rw [Yku q4]; simp
  rw [Yju q4]; rfl
 rw [hb]
 cases ((Yk s k).1==65533) <;> rfl
theorem Ypi (s:List UInt8):∀ (n k:Nat),s.length<=k+n->k<=s.length->Z12 s s k=some (match Y32 (pcs s n k) with | none=> (true,0) | some k=> (false,(k:Int)))
 | 0,k,hn,hk=> by
  rw [Ypc,Yfu (by omega),Yhu]; rfl
 | n+1,k,hn,hk=> by
  rw [Ypc]
  unfold pcs
  by_cases h:k < s.length
  ·have hw:=Y92 s k h
   rw [Yeu h,Ygu,Yku h,Ysf s k h,Yiu,Yy3,Y32]
   simp only
   cases hb:(Yk s k).2.2 with
   | true=> rw [Ygu,Yku rfl]
   | false=> rw [Yhu,Yju (by simp),Ypi s n (k+wd s k) (by omega) (by omega)]
  ·rw [Yfu h,Yhu,Yju h]; rfl
theorem Yqf (s:List UInt8):Yu7 s=some (YM1 s):=by
 rw [Yqp,YRi]
 exact Ypi s s.length 0 (by omega) (by omega)
end Go.Abs
namespace Go.Abs
def secI (b:Int):Int×(Int×Int):=
 if b < 194 then (0,0,0) else if b<=223 then (128,191,2) else if b=224 then (160,191,3) else if b<=236 then (128,191,3) else if b=237 then (128,159,3) else if b<=239 then (128,191,3)
 else if b=240 then (144,191,4) else if b<=243 then (128,191,4) else if b=244 then (128,143,4) else (0,0,0)
theorem Ywp (b:Int):Yda b=some (secI b):=by
 rw [Yvp,YPj]
 unfold secI
 have hc:(b < 194)\/(194<=b/\b<=223)\/(b=224)\/(225<=b/\b<=236)\/(b=237)\/(238<=b/\b<=239)\/(b=240)\/(241<=b/\b<=243)\/(b=244)\/(244 < b):=by omega
 rcases hc with h | h | h | h | h | h | h | h | h | h
 ·simp only [show decide (b>=194)=false from Yfu (by omega),show decide (b>=225)=false from Yfu (by omega),show decide (b>=241)=false from Yfu (by omega),show decide (b<=223)=true from Yeu (by omega),show decide (b<=239)=true from Yeu (by omega),show decide (b<=243)=true from Yeu (by omega),show (b==224)=false from Yqu.2 (by omega),show (b==237)=false from Yqu.2 (by omega),show (b==240)=false from Yqu.2 (by omega),show (b==244)=false from Yqu.2 (by omega),Ygu,Yhu]
  rw [Yku (show b < 194 by omega)]
 ·simp only [show decide (b>=194)=true from Yeu (by omega),show decide (b>=225)=false from Yfu (by omega),show decide (b>=241)=false from Yfu (by omega),show decide (b<=223)=true from Yeu (by omega),show decide (b<=239)=true from Yeu (by omega),show decide (b<=243)=true from Yeu (by omega),show (b==224)=false from Yqu.2 (by omega),show (b==237)=false from Yqu.2 (by omega),show (b==240)=false from Yqu.2 (by omega),show (b==244)=false from Yqu.2 (by omega),Ygu,Yhu]
  rw [Yju (show ¬(b < 194) by omega),Yku (show b<=223 by omega)]
 ·simp only [show decide (b>=194)=true from Yeu (by omega),show decide (b>=225)=false from Yfu (by omega),show decide (b>=241)=false from Yfu (by omega),show decide (b<=223)=false from Yfu (by omega),show decide (b<=239)=true from Yeu (by omega),show decide (b<=243)=true from Yeu (by omega),show (b==224)=true from Y7v.2 (by omega),show (b==237)=false from Yqu.2 (by omega),show (b==240)=false from Yqu.2 (by omega),show (b==244)=false from Yqu.2 (by omega),Ygu,Yhu]
  rw [Yju (show ¬(b < 194) by omega),Yju (show ¬(b<=223) by omega),Yku (show b=224 by omega)]
 ·simp only [show decide (b>=194)=true from Yeu (by omega),show decide (b>=225)=true from Yeu (by omega),show decide (b>=241)=false from Yfu (by omega),show decide (b<=223)=false from Yfu (by omega),show decide (b<=239)=true from Yeu (by omega),show decide (b<=243)=true from Yeu (by omega),show (b==224)=false from Yqu.2 (by omega),show (b==237)=false from Yqu.2 (by omega),show (b==240)=false from Yqu.2 (by omega),show (b==244)=false from Yqu.2 (by omega),Ygu,Yhu]
  rw [Yju (show ¬(b < 194) by omega),Yju (show ¬(b<=223) by omega),Yju (show ¬(b=224) by omega),Yku (show b<=236 by omega)]
 ·simp only [show decide (b>=194)=true from Yeu (by omega),show decide (b>=225)=true from Yeu (by omega),show decide (b>=241)=false from Yfu (by omega),show decide (b<=223)=false from Yfu (by omega),show decide (b<=239)=true from Yeu (by omega),show decide (b<=243)=true from Yeu (by omega),show (b==224)=false from Yqu.2 (by omega),show (b==237)=true from Y7v.2 (by omega),show (b==240)=false from Yqu.2 (by omega),show (b==244)=false from Yqu.2 (by omega),Ygu,Yhu]
  rw [Yju (show ¬(b < 194) by omega),Yju (show ¬(b<=223) by omega),Yju (show ¬(b=224) by omega),Yju (show ¬(b<=236) by omega),Yku (show b=237 by omega)]
 ·simp only [show decide (b>=194)=true from Yeu (by omega),show decide (b>=225)=true from Yeu (by omega),show decide (b>=241)=false from Yfu (by omega),show decide (b<=223)=false from Yfu (by omega),show decide (b<=239)=true from Yeu (by omega),show decide (b<=243)=true from Yeu (by omega),show (b==224)=false from Yqu.2 (by omega),show (b==237)=false from Yqu.2 (by omega),show (b==240)=false from Yqu.2 (by omega),show (b==244)=false from Yqu.2 (by omega),Ygu,Yhu]
  rw [Yju (show ¬(b < 194) by omega),Yju (show ¬(b<=223) by omega),Yju (show ¬(b=224) by omega),Yju (show ¬(b<=236) by omega),Yju (show ¬(b=237) by omega),Yku (show b<=239 by omega)]
 ·simp only [show decide (b>=194)=true from Yeu (by omega),show decide (b>=225)=true from Yeu (by omega),show decide (b>=241)=false from Yfu (by omega),show decide (b<=223)=false from Yfu (by omega),show decide (b<=239)=false from Yfu (by omega),show decide (b<=243)=true from Yeu (by omega),show (b==224)=false from Yqu.2 (by omega),show (b==237)=false from Yqu.2 (by omega),show (b==240)=true from Y7v.2 (by omega),show (b==244)=false from Yqu.2 (by omega),Ygu,Yhu]
  rw [Yju (show ¬(b < 194) by omega),Yju (show ¬(b<=223) by omega),Yju (show ¬(b=224) by omega),Yju (show ¬(b<=236) by omega),Yju (show ¬(b=237) by omega),Yju (show ¬(b<=239) by omega),Yku (show b=240 by omega)]
 ·simp only [show decide (b>=194)=true from Yeu (by omega),show decide (b>=225)=true from Yeu (by omega),show decide (b>=241)=true from Yeu (by omega),show decide (b<=223)=false from Yfu (by omega),show decide (b<=239)=false from Yfu (by omega),show decide (b<=243)=true from Yeu (by omega),show (b==224)=false from Yqu.2 (by omega),show (b==237)=false from Yqu.2 (by omega),show (b==240)=false from Yqu.2 (by omega),show (b==244)=false from Yqu.2 (by omega),Ygu,Yhu]
  rw [Yju (show ¬(b < 194) by omega),Yju (show ¬(b<=223) by omega),Yju (show ¬(b=224) by omega),Yju (show ¬(b<=236) by omega),Yju (show ¬(b=237) by omega),Yju (show ¬(b<=239) by omega),Yju (show ¬(b=240) by omega),Yku (show b<=243 by omega)]
 ·simp only [show decide (b>=194)=true from Yeu (by omega),show decide (b>=225)=true from Yeu (by omega),show decide (b>=241)=true from Yeu (by omega),show decide (b<=223)=false from Yfu (by omega),show decide (b<=239)=false from Yfu (by omega),show decide (b<=243)=false from Yfu (by omega),show (b==224)=false from Yqu.2 (by omega),show (b==237)=false from Yqu.2 (by omega),show (b==240)=false from Yqu.2 (by omega),show (b==244)=true from Y7v.2 (by omega),Ygu,Yhu]
  rw [Yju (show ¬(b < 194) by omega),Yju (show ¬(b<=223) by omega),Yju (show ¬(b=224) by omega),Yju (show ¬(b<=236) by omega),Yju (show ¬(b=237) by omega),Yju (show ¬(b<=239) by omega),Yju (show ¬(b=240) by omega),Yju (show ¬(b<=243) by omega),Yku (show b=244 by omega)]
 ·simp only [show decide (b>=194)=true from Yeu (by omega),show decide (b>=225)=true from Yeu (by omega),show decide (b>=241)=true from Yeu (by omega),show decide (b<=223)=false from Yfu (by omega),show decide (b<=239)=false from Yfu (by omega),show decide (b<=243)=false from Yfu (by omega),show (b==224)=false from Yqu.2 (by omega),show (b==237)=false from Yqu.2 (by omega),show (b==240)=false from Yqu.2 (by omega),show (b==244)=false from Yqu.2 (by omega),Ygu,Yhu]
  rw [Yju (show ¬(b < 194) by omega),Yju (show ¬(b<=223) by omega),Yju (show ¬(b=224) by omega),Yju (show ¬(b<=236) by omega),Yju (show ¬(b=237) by omega),Yju (show ¬(b<=239) by omega),Yju (show ¬(b=240) by omega),Yju (show ¬(b<=243) by omega),Yju (show ¬(b=244) by omega)]
end Go.Abs
namespace Go.Abs
def YT4 (b:Int):Bool:=decide (128<=b/\b<=191)
def webW (s:List UInt8) (k:Nat):Nat:=
 if k+1 < s.length/\3<=(secI (bat s k)).2.2/\(secI (bat s k)).1<=bat s (k+1)/\bat s (k+1)<=(secI (bat s k)).2.1 then
  (if k+2 < s.length/\(secI (bat s k)).2.2=4/\YT4 (bat s (k+2))=true then 3 else 2)
 else 1
theorem Y7u (s:List UInt8) (k:Nat) (hk:k<=s.length):webW (s.drop k) 0=webW s k:=by
 unfold webW
 rw [YY2,YP1,YP1,Yzu]
 have e1:(0+1 < s.length - k)↔(k+1 < s.length):=by omega
 have e2:(0+2 < s.length - k)↔(k+2 < s.length):=by omega
 simp only [e1,e2]
theorem Ydt (b:Int):(secI b).2.2=0\/(secI b).2.2=2\/(secI b).2.2=3\/(secI b).2.2=4:=by
 unfold secI
 repeat' split
 all_goals simp
theorem YYb (t:List UInt8) (lo hi all:Int) (i:Nat) (ha:0<=all/\all<=4) (h:¬((i:Int) < all - 1/\i < t.length/\lo<=bat t i/\bat t i<=hi)):Zx3 t lo hi all (i:Int)=some (i:Int):=by
 rw [YId,w64 (by omega) (by omega),Yg]
 by_cases a:(i:Int) < all - 1
 ·rw [Yeu a,Ygu]
  by_cases b:i < t.length
  ·rw [Yeu b,Ygu,Yj,Yeu b,Ygu,Ymu,show (((t.getD i 0).toNat:Nat):Int)=bat t i from rfl]
   by_cases c:lo<=bat t i
   ·rw [show decide (bat t i>=lo)=true from Yeu c,Ygu,Ygu,show decide (bat t i<=hi)=false from Yfu (fun d=> h ⟨a,b,c,d⟩),Yhu]
   ·rw [show decide (bat t i>=lo)=false from Yfu c,Yhu]
  ·rw [Yfu b,Yhu]
 ·rw [Yfu a,Yhu]
theorem Yri (t:List UInt8) (lo hi all:Int) (i:Nat) (hi4:i<=4) (ha:0<=all/\all<=4) (h:(i:Int) < all - 1/\i < t.length/\lo<=bat t i/\bat t i<=hi):Zx3 t lo hi all (i:Int)=Zx3 t 128 191 all ((i+1:Nat):Int):=by
 have hw:IntKind.i64.wrap ((i:Int)+1)=((i+1:Nat):Int):=by rw [w64 (by omega) (by omega)]; omega
 rw [YId,w64 (x:=all - 1) (by omega) (by omega),Yg,Yeu h.1,Ygu,Yeu h.2.1,Ygu,Yj,Yeu h.2.1,Ygu,Ymu,show (((t.getD i 0).toNat:Nat):Int)=bat t i from rfl,
  show decide (bat t i>=lo)=true from Yeu h.2.2.1,Ygu,Ygu,show decide (bat t i<=hi)=true from Yeu h.2.2.2,Ygu,hw]
theorem YAp (t:List UInt8) (h0:0 < t.length):Yfa t=some ((webW t 0:Nat):Int):=by
 rw [Yzp,Yzl,show Ya (0:Int) t.length=true from by rw [show (0:Int)=((0:Nat):Int) from rfl,Yj]; exact Yeu h0,Ygu]
 rw [show (((t.getD (Int.toNat (0:Int)) 0).toNat:Nat):Int)=bat t 0 from rfl,Ywp,Yiu]
 have hall:=Ydt (bat t 0)
 unfold webW
 rw [show (0:Nat)+1=1 from rfl,show (0:Nat)+2=2 from rfl]
 by_cases a:1 < t.length/\3<=(secI (bat t 0)).2.2/\(secI (bat t 0)).1<=bat t 1/\bat t 1<=(secI (bat t 0)).2.1
 ·rw [Yku a]
  have:=Yri t (secI (bat t 0)).1 (secI (bat t 0)).2.1 (secI (bat t 0)).2.2 1 (by omega) (by omega) ⟨by omega,a.1,a.2.2.1,a.2.2.2⟩
  rw [show ((1:Nat):Int)=1 from rfl] at this
  rw [this]
  by_cases b:2 < t.length/\(secI (bat t 0)).2.2=4/\YT4 (bat t 2)=true
  ·have hc:=YQu b.2.2
   rw [Yku b,Yri t _ _ _ 2 (by omega) (by omega) ⟨by omega,b.1,hc.1,hc.2⟩,YYb t _ _ _ 3 (by omega) (by omega)]
  ·rw [Yju b,YYb t _ _ _ 2 (by omega)]
   rintro ⟨h1,h2,h3,h4⟩
   exact b ⟨h2,by omega,Yeu ⟨h3,h4⟩⟩
 ·rw [Yju a]
  have:=YYb t (secI (bat t 0)).1 (secI (bat t 0)).2.1 (secI (bat t 0)).2.2 1 (by omega) (by
   rintro ⟨h1,h2,h3,h4⟩
   exact a ⟨h2,by omega,h3,h4⟩)
  rw [show ((1:Nat):Int)=1 from rfl] at this
  exact this
def wwd (s:List UInt8) (k:Nat):Nat:=if (Yk s k).2.2=true then webW s k else wd s k
def wpcs (s:List UInt8):Nat->Nat->List (Nat×(Int×(Int×Bool)))
 | 0,_=> []
 | n+1,k=> if k < s.length then (k,((Yk s k).1,(((wwd s k:Nat):Int),(Yk s k).2.2)))::wpcs s n (k+wwd s k) else []
def Yw6 (s:List UInt8):List (Nat×(Int×(Int×Bool))):=wpcs s s.length 0
theorem Yvi (s:List UInt8) (k:Nat) (hk:k < s.length):1<=wwd s k/\wwd s k<=4/\k+wwd s k<=s.length:=by
 have:=Y92 s k hk
 unfold wwd
 split
 ·unfold webW
  split
  ·split <;> omega
  ·omega
 ·omega
theorem Y1c (s:List UInt8):∀ (n k:Nat),(wpcs s n k).length<=n
 | 0,_=> by simp [wpcs]
 | n+1,k=> by
  unfold wpcs
  split
  ·simp only [Ynu]; have:=Y1c s n (k+wwd s k); omega
  ·simp
theorem Ymc (s:List UInt8) (hs:s.length<=1073741824):∀ (n k:Nat) (r:List D181),s.length<=k+n->k<=s.length->r.length+n<=1073741824->Z53 s (k:Int) r=some (r++(wpcs s n k).map toD)
 | 0,k,r,hn,hk,hr=> by
  rw [Yzc,Yg,Yfu (by omega),Yhu,wpcs]; simp
 | n+1,k,r,hn,hk,hr=> by
  rw [Yzc,Yg]
  unfold wpcs
  by_cases c:k < s.length
  ·have hw:=Yvi s k c
   have hwd:=Y92 s k c
   have fin:∀ b:Bool,∀ d:D181,d=((k:Int),(((wwd s k:Nat):Int),((Yk s k).1,b)))->Z63 s (k:Int) d r=some (r++(((k,((Yk s k).1,(((wwd s k:Nat):Int),b)))::wpcs s n (k+wwd s k)).map toD)):=by
    rintro b d rfl
    rw [Yoj,show decide (r.length+[((k:Int),(((wwd s k:Nat):Int),((Yk s k).1,b)))].length<=lim)=true from Yeu (by simp [lim]; omega),Ygu]
    simp only
    rw [w64 (by omega) (by omega),show (k:Int)+((wwd s k:Nat):Int)=((k+wwd s k:Nat):Int) from by omega]
    rw [Ymc s hs n (k+wwd s k) _ (by omega) (by omega) (by simp; omega),YBu,Ypu]
    simp [toD]
   rw [Yeu c,Ygu,Yku c,Ysf s k c,Yiu]
   simp only
   cases hb:(Yk s k).2.2 with
   | true=>
    rw [Ygu,Yi1 hk,Ygu,YR1,YAp (s.drop k) (by rw [Yzu]; omega),Yiu,Y7u s k hk]
    have:wwd s k=webW s k:=by unfold wwd; rw [Yku hb]
    refine fin true _ ?_
    rw [this]
   | false=>
    rw [Yhu]
    have:wwd s k=wd s k:=by unfold wwd; rw [Yju (by rw [hb]; simp)]
    refine fin false _ ?_
    rw [this,hwd.2.2.2]
  ·rw [Yfu c,Yhu,Yju c]; simp
theorem Ytp (s:List UInt8) (hs:s.length<=1073741824):Yca s=some ((Yw6 s).map toD):=by
 rw [Ysp,Yej]
 exact Ymc s hs s.length 0 [] (by omega) (by omega) (by simpa using hs)
theorem YI8 (x:Int):IntKind.u8.wrap x=x % 256:=by
 change (if (false&&decide (x % (256:Int)>=(128:Int)))=true then x % (256:Int) - (256:Int) else x % (256:Int))=_
 rw [Yju (by simp)]
theorem wu32 {x:Int} (h0:0<=x) (h1:x < 4294967296):IntKind.u32.wrap x=x:=by
 change (if (false&&decide (x % (4294967296:Int)>=(2147483648:Int)))=true then x % (4294967296:Int) - (4294967296:Int) else x % (4294967296:Int))=_
 rw [Yju (by simp)]; omega
theorem Yb8 (m:Nat) (q:Nat) {y:Int} (h0:0<=y) (h1:y < ((2 ^ m:Nat):Int)) (hq:2 ^ m*q+2 ^ m<=256):bits Go.BinOp.or IntKind.u8 ((2 ^ m*q:Nat):Int) y=((2 ^ m*q:Nat):Int)+y:=by
 obtain ⟨n,rfl⟩:=Y6v h0
 have hn:n < 2 ^ m:=by omega
 have e1:(BitVec.ofInt 8 (((2 ^ m*q:Nat):Nat):Int)).toNat=2 ^ m*q:=by
  rw [BitVec.toNat_ofInt]; omega
 have e2:(BitVec.ofInt 8 (n:Int)).toNat=n:=by
  rw [BitVec.toNat_ofInt]; omega
 have e:(BitVec.ofInt 8 (((2 ^ m*q:Nat):Nat):Int)|||BitVec.ofInt 8 (n:Int)).toNat=2 ^ m*q+n:=by
  rw [BitVec.toNat_or,e1,e2,<-Nat.two_pow_add_eq_or_of_lt hn]
 show IntKind.u8.wrap (((BitVec.ofInt 8 (((2 ^ m*q:Nat):Nat):Int)|||BitVec.ofInt 8 (n:Int)).toNat:Nat):Int)=_
 rw [e,w8 (by omega) (by omega)]
 omega
theorem YYr {y:Int} (h0:0<=y) (h1:y < 32):bits Go.BinOp.or IntKind.u8 192 y=192+y:=Yb8 5 6 h0 (by simpa using h1) (by decide)
theorem Yg5 {y:Int} (h0:0<=y) (h1:y < 64):bits Go.BinOp.or IntKind.u8 128 y=128+y:=Yb8 6 2 h0 (by simpa using h1) (by decide)
theorem YZr {y:Int} (h0:0<=y) (h1:y < 16):bits Go.BinOp.or IntKind.u8 224 y=224+y:=Yb8 4 14 h0 (by simpa using h1) (by decide)
theorem Y0s {y:Int} (h0:0<=y) (h1:y < 8):bits Go.BinOp.or IntKind.u8 240 y=240+y:=Yb8 3 30 h0 (by simpa using h1) (by decide)
theorem YFb (r:Int) (k:Nat) (hk:k<=32):shr IntKind.i32 r (k:Int)=r / 2 ^ k:=by
 show r.fdiv (2 ^ (min (Int.toNat (k:Int)) 32))=_
 rw [Ymu,Nat.min_eq_left hk,Int.fdiv_eq_ediv_of_nonneg _ (Int.le_of_lt (Int.pow_pos (by omega)))]
theorem sh6 (r:Int):shr IntKind.i32 r 6=r / 64:=YFb r 6 (by omega)
theorem sh12 (r:Int):shr IntKind.i32 r 12=r / 4096:=YFb r 12 (by omega)
theorem sh18 (r:Int):shr IntKind.i32 r 18=r / 262144:=YFb r 18 (by omega)
theorem Y6c (l:List Int) (r:Int) (hl:l.length<=4294967200) (hr:scal r=true):Ys7 (l,r)=some (l++Yu r):=by
 have hr:=YQu hr
 rw [Ylp,Ywl]
 simp only
 rw [wu32 (by omega) (by omega)]
 unfold Yu
 by_cases a:r < 128
 ·rw [show decide (r<=127)=true from Yeu (by omega),Ygu,w8 (by omega) (by omega),show decide (l.length+[r].length<=lim)=true from Yeu (by simp [lim]; omega),Ygu,Yku a]
 ·rw [show decide (r<=127)=false from Yfu (by omega),Yhu,Yju a,Ypp,YCj]
  simp only
  have u6:=YI8 r
  rw [wu32 (x:=r) (by omega) (by omega),sh6,u6,m63 (x:=r % 256) (by omega),show r % 256 % 64=r % 64 from by omega,Yg5 (y:=r % 64) (by omega) (by omega)]
  by_cases b:r < 2048
  ·rw [show decide (r<=2047)=true from Yeu (by omega),Ygu,w8 (x:=r / 64) (by omega) (by omega),YYr (by omega) (by omega),Yku b]
   rw [show decide (l.length+[192+r / 64,128+r % 64].length<=lim)=true from Yeu (by simp [lim]; omega),Ygu]; rfl
  ·rw [show decide (r<=2047)=false from Yfu (by omega),Yhu,Yju b]
   by_cases c:r < 65536
   ·have key:Z94 r r true l=some (l++[224+r / 4096,128+r / 64 % 64,128+r % 64]):=by
     rw [YJc,Ygu,sh12,sh6,u6,m63 (x:=r % 256) (by omega),show r % 256 % 64=r % 64 from by omega,Yg5 (y:=r % 64) (by omega) (by omega),YI8 (r / 64),m63 (x:=r / 64 % 256) (by omega),show r / 64 % 256 % 64=r / 64 % 64 from by omega,Yg5 (y:=r / 64 % 64) (by omega) (by omega),
      w8 (x:=r / 4096) (by omega) (by omega),YZr (by omega) (by omega),show decide (l.length+[224+r / 4096,128+r / 64 % 64,128+r % 64].length<=lim)=true from Yeu (by simp [lim]; omega),Ygu]
    rw [Yku c]
    by_cases d:r < 55296
    ·rw [Yeu d,Ygu,key]; rfl
    ·rw [Yfu d,Yhu,show decide ((57343:Int) < r)=true from Yeu (by omega),Ygu,show decide (r<=65535)=true from Yeu (by omega),key]; rfl
   ·rw [Yju c,show decide (r < 55296)=false from Yfu (by omega),Yhu,show decide ((57343:Int) < r)=true from Yeu (by omega),Ygu,show decide (r<=65535)=false from Yfu (by omega),YJc,Yhu,
     show decide (r > 65535)=true from Yeu (by omega),Ygu,show decide (r<=1114111)=true from Yeu (by omega),Ygu]
    rw [sh18,sh12,sh6,u6,m63 (x:=r % 256) (by omega),show r % 256 % 64=r % 64 from by omega,Yg5 (y:=r % 64) (by omega) (by omega),YI8 (r / 64),m63 (x:=r / 64 % 256) (by omega),show r / 64 % 256 % 64=r / 64 % 64 from by omega,Yg5 (y:=r / 64 % 64) (by omega) (by omega),
     YI8 (r / 4096),m63 (x:=r / 4096 % 256) (by omega),show r / 4096 % 256 % 64=r / 4096 % 64 from by omega,Yg5 (y:=r / 4096 % 64) (by omega) (by omega),w8 (x:=r / 262144) (by omega) (by omega),Y0s (by omega) (by omega)]
    rw [show decide (l.length+[240+r / 262144,128+r / 4096 % 64,128+r / 64 % 64,128+r % 64].length<=lim)=true from Yeu (by simp [lim]; omega),Ygu]; rfl
end Go.Abs
namespace Go.Abs
theorem YEb (s:List UInt8) (k:Nat):scal (Yk s k).1=true:=by
 have h0:=Yt s k
 have h1:=Yt s (k+1)
 unfold Yk
 by_cases q1:ut1 s k=true
 ·rw [Yku q1]
  have:=YQu q1
  exact Yeu (by simp only; omega)
 rw [Yju q1]
 by_cases q2:ut2 s k=true
 ·rw [Yku q2]
  have:0<=c2 s k/\c2 s k < 2048:=by unfold c2; omega
  exact Yeu (by simp only; omega)
 rw [Yju q2]
 by_cases q3:ut3 s k=true
 ·rw [Yku q3]
  unfold ut3 at q3
  rw [Ylu] at q3
  exact q3.2
 rw [Yju q3]
 by_cases q4:ut4 s k=true
 ·rw [Yku q4]
  unfold ut4 at q4
  rw [Ylu] at q4
  exact q4.2
 rw [Yju q4]; rfl
theorem Y54 (r:Int):1<=(Yu r).length/\(Yu r).length<=4:=by
 rw [Yt3]; split
 ·omega
 ·split
  ·omega
  ·split <;> omega
def YL1 (l:List Int):List Int:=l.flatMap Yu
theorem YXh:∀ l:List Int,(YL1 l).length<=4*l.length
 | []=> by simp [YL1]
 | r::l=> by
  have:=YXh l
  have h:=Y54 r
  simp only [YL1,List.flatMap_cons,You,Ynu] at this ⊢
  omega
def Yb (l:List Int):List UInt8:=Yn (YL1 l)
theorem Yki (s l:List D181) (hl:l.length<=1000000000) (hr:∀ x∈l,scal x.2.2.1=true):∀ (n i:Nat) (r:List Int),i+n=l.length->r.length<=4*i->Z33 s l (l.length:Int) (i:Int) r=some (Yn (r++YL1 ((l.drop i).map (·.2.2.1))))
 | 0,i,r,h,hrl=> by
  have:i=l.length:=by omega
  subst this
  rw [Ysc,Yg,Yfu (YGu _),Yhu,YUu]; simp [YL1]
 | n+1,i,r,h,hrl=> by
  have hi:i < l.length:=by omega
  have hw:IntKind.i64.wrap ((i:Int)+1)=((i+1:Nat):Int):=by rw [w64 (by omega) (by omega)]; omega
  have hg:List.getD l (Int.toNat (i:Int)) (Ty.zero T181)=l[i]:=by
   rw [Ymu,Yvu,Ywu hi]; rfl
  have hb:=Y54 l[i].2.2.1
  rw [Ysc,Yg,Yeu hi,Ygu,Yj,Yeu hi,Ygu,hg,Y6c _ _ (by omega) (hr _ (List.getElem_mem hi)),Yiu,hw,
   Yki s l hl hr n (i+1) _ (by omega) (by simp only [You]; omega),Yru hi,YBu]
  simp only [YL1,List.flatMap_cons,Ypu]
theorem Yyp (l:List D181) (hl:l.length<=1000000000) (hr:∀ x∈l,scal x.2.2.1=true):Yea l=some (Yb (l.map (·.2.2.1))):=by
 rw [Yxp,YXi,Y4j]
 cases l with
 | nil=> rfl
 | cons x l=>
  have hb:=Y54 x.2.2.1
  rw [show decide ((0:Int) < (((x::l).length:Nat):Int))=true from Yeu (by simp only [Ynu]; omega),Ygu,Y65,Ygu,show List.getD (x::l) (Int.toNat (0:Int)) (Ty.zero T181)=x from rfl,Y6c [] _ (by simp) (hr x (by simp)),Yiu]
  have:=Yki (x::l) (x::l) hl hr l.length 1 ([]++Yu x.2.2.1) (by simp only [Ynu]; omega) (by simp only [YIu]; omega)
  rw [show IntKind.i64.wrap ((0:Int)+1)=((1:Nat):Int) from a1,this]
  simp [Yb,YL1]
theorem Yhi:∀ l:List (Nat×(Int×(Int×Bool))),(l.map toD).map (fun x:D181=> x.2.2.1)=l.map (fun x=> x.2.1)
 | []=> rfl
 | x::l=> by simp only [YBu,Yhi l,toD]
def YZ3 (s:List UInt8):List Int:=(Yw6 s).map (·.2.1)
def YG1 (s:List UInt8):List UInt8:=Yb (YZ3 s)
theorem Y2c (s:List UInt8):∀ (n k:Nat),∀ x∈wpcs s n k,scal x.2.1=true
 | 0,_,x,h=> by cases h
 | n+1,k,x,h=> by
  unfold wpcs at h
  split at h
  ·rcases Yuu.1 h with rfl | h
   ·(dsimp only; exact YEb s k)
   ·exact Y2c s n _ x h
  ·cases h
theorem Yrf (s:List UInt8) (hs:s.length<=1000000000):Yv7 s=some (YG1 s):=by
 rw [Yrp,Y3k,Ytp s (by omega),Yiu]
 have hl:=Y1c s s.length 0
 rw [Yyp _ (by rw [YVu]; unfold Yw6; omega) (by
  intro x hx
  obtain ⟨y,hy,rfl⟩:=List.mem_map.1 hx
  exact Y2c s s.length 0 y hy),Yiu]
 unfold YG1 YZ3
 rw [Yhi]
theorem YXb (s:List UInt8):(YG1 s).length<=4*s.length:=by
 have h1:=YXh (YZ3 s)
 have h2:=Y1c s s.length 0
 unfold YG1 Yb Yn
 rw [YVu]
 have:(YZ3 s).length<=s.length:=by unfold YZ3 Yw6; rw [YVu]; exact h2
 omega
end Go.Abs
