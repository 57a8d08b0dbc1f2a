/- Part L3 of the proof: see the last text of the claim. No condition of its own. -/
import Derived.Test.YtddagflhafkbnaaGreatDoorL2
import Derived.Test.YtddagflhafkbnaaGreatDoorQ2
import Derived.Test.YtddagflhafkbnaaGreatDoorQ3
set_option linter.all false
set_option autoImplicit false
namespace Go.Abs
def bat (s:List UInt8) (k:Nat):Int:=Y9 (s.getD k 0)
theorem Yj2 (s:List UInt8) (k:Nat):0<=bat s k/\bat s k<=255:=Ym7 _
def c2 (s:List UInt8) (k:Nat):Int:=bat s k % 32*64+bat s (k+1) % 64
def c3 (s:List UInt8) (k:Nat):Int:=bat s k % 16*4096+bat s (k+1) % 64*64+bat s (k+2) % 64
def c4 (s:List UInt8) (k:Nat):Int:=bat s k % 8*262144+bat s (k+1) % 64*4096+bat s (k+2) % 64*64+bat s (k+3) % 64
def scal (r:Int):Bool:=decide (0<=r/\r<=1114111/\¬(55296<=r/\r<=57343))
def ut1 (s:List UInt8) (k:Nat):Bool:=decide (bat s k < 128)
def ut2 (s:List UInt8) (k:Nat):Bool:=decide (k+1 < s.length/\bat s k / 32=6/\bat s (k+1) / 64=2/\128<=c2 s k)
def ut3 (s:List UInt8) (k:Nat):Bool:=decide (k+2 < s.length/\bat s k / 16=14/\bat s (k+1) / 64=2/\bat s (k+2) / 64=2/\2048<=c3 s k)&&scal (c3 s k)
def ut4 (s:List UInt8) (k:Nat):Bool:=decide (k+3 < s.length/\bat s k / 8=30/\bat s (k+1) / 64=2/\bat s (k+2) / 64=2/\bat s (k+3) / 64=2/\65536<=c4 s k)&&scal (c4 s k)
def Yj (s:List UInt8) (k:Nat):Int×(Int×Bool):=
 if ut1 s k=true then (bat s k,1,false) else if ut2 s k=true then (c2 s k,2,false) else if ut3 s k=true then (c3 s k,3,false) else if ut4 s k=true then (c4 s k,4,false) else (65533,1,true)
theorem YNi (a0 a1 a2 a3 C2 C3 C4 k n:Nat) (s3 s4:Bool) (b0 b1 b2 b3 D2 D3 D4:Int) (hb0:b0=(a0:Int)) (hb1:b1=(a1:Int)) (hb2:b2=(a2:Int)) (hb3:b3=(a3:Int)) (hD2:D2=(C2:Int)) (hD3:D3=(C3:Int)) (hD4:D4=(C4:Int)):
  Prod.map (fun x:Nat=> ((x:Nat):Int)) (fun x:Nat=> ((x:Nat):Int)) (if a0 < 128 then (a0,1) else if a0 / 32=6/\k+1 < n/\a1 / 64=2 then (if C2>=128 then (C2,2) else (65533,1))
   else if (a0 / 16=14/\k+1 < n/\a1 / 64=2)/\k+2 < n/\a2 / 64=2 then (if C3>=2048/\s3=true then (C3,3) else (65533,1))
   else if ((a0 / 8=30/\k+1 < n/\a1 / 64=2)/\k+2 < n/\a2 / 64=2)/\k+3 < n/\a3 / 64=2 then (if C4>=65536/\s4=true then (C4,4) else (65533,1)) else (65533,1))=
  (fun y:Int×(Int×Bool)=> (y.1,y.2.1)) (if b0 < 128 then (b0,1,false) else if k+1 < n/\b0 / 32=6/\b1 / 64=2/\128<=D2 then (D2,2,false)
   else if (k+2 < n/\b0 / 16=14/\b1 / 64=2/\b2 / 64=2/\2048<=D3)/\s3=true then (D3,3,false)
   else if (k+3 < n/\b0 / 8=30/\b1 / 64=2/\b2 / 64=2/\b3 / 64=2/\65536<=D4)/\s4=true then (D4,4,false) else (65533,1,true)):=by
 subst hb0 hb1 hb2 hb3 hD2 hD3 hD4
 by_cases q1:a0 < 128
 ·rw [YQm q1,YQm (show (a0:Int) < 128 by omega)]; rfl
 rw [YPm q1,YPm (show ¬((a0:Int) < 128) by omega)]
 by_cases q2:a0 / 32=6/\k+1 < n/\a1 / 64=2
 ·rw [YQm q2]
  by_cases q:C2>=128
  ·rw [YQm q,YQm (show k+1 < n/\(a0:Int) / 32=6/\(a1:Int) / 64=2/\128<=(C2:Int) by omega)]; rfl
  ·rw [YPm q,YPm (show ¬(k+1 < n/\(a0:Int) / 32=6/\(a1:Int) / 64=2/\128<=(C2:Int)) by omega),
    YPm (show ¬((k+2 < n/\(a0:Int) / 16=14/\(a1:Int) / 64=2/\(a2:Int) / 64=2/\2048<=(C3:Int))/\s3=true) from fun h=> by omega),
    YPm (show ¬((k+3 < n/\(a0:Int) / 8=30/\(a1:Int) / 64=2/\(a2:Int) / 64=2/\(a3:Int) / 64=2/\65536<=(C4:Int))/\s4=true) from fun h=> by omega)]
   rfl
 rw [YPm q2,YPm (show ¬(k+1 < n/\(a0:Int) / 32=6/\(a1:Int) / 64=2/\128<=(C2:Int)) by omega)]
 by_cases q3:(a0 / 16=14/\k+1 < n/\a1 / 64=2)/\k+2 < n/\a2 / 64=2
 ·rw [YQm q3]
  by_cases q:C3>=2048/\s3=true
  ·rw [YQm q,YQm (show (k+2 < n/\(a0:Int) / 16=14/\(a1:Int) / 64=2/\(a2:Int) / 64=2/\2048<=(C3:Int))/\s3=true from ⟨by omega,q.2⟩)]; rfl
  ·rw [YPm q,YPm (show ¬((k+2 < n/\(a0:Int) / 16=14/\(a1:Int) / 64=2/\(a2:Int) / 64=2/\2048<=(C3:Int))/\s3=true) from fun h=> q ⟨by omega,h.2⟩),
    YPm (show ¬((k+3 < n/\(a0:Int) / 8=30/\(a1:Int) / 64=2/\(a2:Int) / 64=2/\(a3:Int) / 64=2/\65536<=(C4:Int))/\s4=true) from fun h=> by omega)]
   rfl
 rw [YPm q3,YPm (show ¬((k+2 < n/\(a0:Int) / 16=14/\(a1:Int) / 64=2/\(a2:Int) / 64=2/\2048<=(C3:Int))/\s3=true) from fun h=> by omega)]
 by_cases q4:((a0 / 8=30/\k+1 < n/\a1 / 64=2)/\k+2 < n/\a2 / 64=2)/\k+3 < n/\a3 / 64=2
 ·rw [YQm q4]
  by_cases q:C4>=65536/\s4=true
  ·rw [YQm q,YQm (show (k+3 < n/\(a0:Int) / 8=30/\(a1:Int) / 64=2/\(a2:Int) / 64=2/\(a3:Int) / 64=2/\65536<=(C4:Int))/\s4=true from ⟨by omega,q.2⟩)]; rfl
  ·rw [YPm q,YPm (show ¬((k+3 < n/\(a0:Int) / 8=30/\(a1:Int) / 64=2/\(a2:Int) / 64=2/\(a3:Int) / 64=2/\65536<=(C4:Int))/\s4=true) from fun h=> q ⟨by omega,h.2⟩)]
   rfl
 rw [YPm q4,YPm (show ¬((k+3 < n/\(a0:Int) / 8=30/\(a1:Int) / 64=2/\(a2:Int) / 64=2/\(a3:Int) / 64=2/\65536<=(C4:Int))/\s4=true) from fun h=> by omega)]
 rfl
set_option maxRecDepth 20000 in
theorem Y26 (s:List UInt8) (k:Nat):(((Yp s k).1:Nat):Int)=(Yj s k).1/\(((Yp s k).2:Nat):Int)=(Yj s k).2.1:=by
 have hsz:(⟨s.toArray⟩:ByteArray).size=s.length:=by simp [ByteArray.size]
 have hv:∀ n:Int,Utf8.valid n=scal n:=by
  intro n
  unfold Utf8.valid scal
  rw [Bool.eq_iff_iff]
  simp only [Bool.or_eq_true,YRm,Y3n]
  omega
 have hre:Utf8.runeError=65533:=rfl
 have e2:c2 s k=(((s.getD k 0).toNat % 32*64+(s.getD (k+1) 0).toNat % 64:Nat):Int):=by unfold c2 bat Y9; omega
 have e3:c3 s k=(((s.getD k 0).toNat % 16*4096+(s.getD (k+1) 0).toNat % 64*64+(s.getD (k+2) 0).toNat % 64:Nat):Int):=by unfold c3 bat Y9; omega
 have e4:c4 s k=(((s.getD k 0).toNat % 8*262144+(s.getD (k+1) 0).toNat % 64*4096+(s.getD (k+2) 0).toNat % 64*64+(s.getD (k+3) 0).toNat % 64:Nat):Int):=by unfold c4 bat Y9; omega
 have h:=YNi (s.getD k 0).toNat (s.getD (k+1) 0).toNat (s.getD (k+2) 0).toNat (s.getD (k+3) 0).toNat ((s.getD k 0).toNat % 32*64+(s.getD (k+1) 0).toNat % 64)
  ((s.getD k 0).toNat % 16*4096+(s.getD (k+1) 0).toNat % 64*64+(s.getD (k+2) 0).toNat % 64) ((s.getD k 0).toNat % 8*262144+(s.getD (k+1) 0).toNat % 64*4096+(s.getD (k+2) 0).toNat % 64*64+(s.getD (k+3) 0).toNat % 64) k s.length (scal (c3 s k)) (scal (c4 s k)) (bat s k) (bat s (k+1)) (bat s (k+2)) (bat s (k+3)) (c2 s k) (c3 s k) (c4 s k) rfl rfl rfl rfl e2 e3 e4
 have hl:Yp s k=(if (s.getD k 0).toNat < 128 then ((s.getD k 0).toNat,1) else if (s.getD k 0).toNat / 32=6/\k+1 < s.length/\(s.getD (k+1) 0).toNat / 64=2 then (if (s.getD k 0).toNat % 32*64+(s.getD (k+1) 0).toNat % 64>=128 then ((s.getD k 0).toNat % 32*64+(s.getD (k+1) 0).toNat % 64,2) else (65533,1))
   else if ((s.getD k 0).toNat / 16=14/\k+1 < s.length/\(s.getD (k+1) 0).toNat / 64=2)/\k+2 < s.length/\(s.getD (k+2) 0).toNat / 64=2 then (if (s.getD k 0).toNat % 16*4096+(s.getD (k+1) 0).toNat % 64*64+(s.getD (k+2) 0).toNat % 64>=2048/\scal (c3 s k)=true then ((s.getD k 0).toNat % 16*4096+(s.getD (k+1) 0).toNat % 64*64+(s.getD (k+2) 0).toNat % 64,3) else (65533,1))
   else if (((s.getD k 0).toNat / 8=30/\k+1 < s.length/\(s.getD (k+1) 0).toNat / 64=2)/\k+2 < s.length/\(s.getD (k+2) 0).toNat / 64=2)/\k+3 < s.length/\(s.getD (k+3) 0).toNat / 64=2 then (if (s.getD k 0).toNat % 8*262144+(s.getD (k+1) 0).toNat % 64*4096+(s.getD (k+2) 0).toNat % 64*64+(s.getD (k+3) 0).toNat % 64>=65536/\scal (c4 s k)=true then ((s.getD k 0).toNat % 8*262144+(s.getD (k+1) 0).toNat % 64*4096+(s.getD (k+2) 0).toNat % 64*64+(s.getD (k+3) 0).toNat % 64,4) else (65533,1)) else (65533,1)):=by
  unfold Yp Utf8.decode
  simp only [Nat.add_zero,hsz,Yo8,hv,<-e3,<-e4,hre,YRm,beq_iff_eq,Y3n]
 have hr2:Yj s k=(if bat s k < 128 then (bat s k,1,false) else if k+1 < s.length/\bat s k / 32=6/\bat s (k+1) / 64=2/\128<=c2 s k then (c2 s k,2,false)
   else if (k+2 < s.length/\bat s k / 16=14/\bat s (k+1) / 64=2/\bat s (k+2) / 64=2/\2048<=c3 s k)/\scal (c3 s k)=true then (c3 s k,3,false)
   else if (k+3 < s.length/\bat s k / 8=30/\bat s (k+1) / 64=2/\bat s (k+2) / 64=2/\bat s (k+3) / 64=2/\65536<=c4 s k)/\scal (c4 s k)=true then (c4 s k,4,false) else (65533,1,true)):=by
  unfold Yj ut1 ut2 ut3 ut4
  simp only [YRm,Y3n]
 rw [<-hr2,<-hl] at h
 exact ⟨congrArg Prod.fst h,congrArg Prod.snd h⟩
end Go.Abs
namespace Go.Abs
theorem w32 {x:Int} (h1:-2147483648<=x) (h2:x<=2147483647):IntKind.i32.wrap x=x:=by
 change (if (true&&decide (x % (4294967296:Int)>=(2147483648:Int)))=true then x % (4294967296:Int) - (4294967296:Int) else x % (4294967296:Int))=x
 by_cases h:x % (4294967296:Int)>=(2147483648:Int)
 ·rw [YQm (by simp [h])]; omega
 ·rw [YPm (by simp [h])]; omega
def Ym1 (r:Int):List Int:=
 if r < 128 then [r] else if r < 2048 then [192+r / 64,128+r % 64] else if r < 65536 then [224+r / 4096,128+r / 64 % 64,128+r % 64] else [240+r / 262144,128+r / 4096 % 64,128+r / 64 % 64,128+r % 64]
theorem Yog {x:Int} (m:Nat) (h0:0<=x) (h1:x<=255) (hm:m<=8):bits Go.BinOp.and IntKind.u8 x ((2 ^ m - 1:Nat):Int)=x % ((2 ^ m:Nat):Int):=by
 obtain ⟨n,rfl⟩:=Int.eq_ofNat_of_zero_le h0
 have hp:2 ^ m<=256:=by
  have:=Nat.pow_le_pow_right (n:=2) (by omega) hm
  simpa using this
 have hp0:0 < 2 ^ m:=Nat.pow_pos (by omega)
 have e1:(BitVec.ofInt 8 (n:Int)).toNat=n:=by
  rw [BitVec.toNat_ofInt]; omega
 have e2:(BitVec.ofInt 8 (((2 ^ m - 1:Nat):Nat):Int)).toNat=2 ^ m - 1:=by
  rw [BitVec.toNat_ofInt]; omega
 have e:(BitVec.ofInt 8 (n:Int)&&&BitVec.ofInt 8 (((2 ^ m - 1:Nat):Nat):Int)).toNat=n % 2 ^ m:=by
  rw [BitVec.toNat_and,e1,e2,Nat.and_two_pow_sub_one_eq_mod]
 show IntKind.u8.wrap (((BitVec.ofInt 8 (n:Int)&&&BitVec.ofInt 8 (((2 ^ m - 1:Nat):Nat):Int)).toNat:Nat):Int)=_
 have hlt:n % 2 ^ m < 2 ^ m:=Nat.mod_lt _ hp0
 rw [e,w8 (by omega) (by omega)]
 exact Int.natCast_emod _ _
theorem m63 {x:Int} (h:0<=x/\x<=255):bits Go.BinOp.and IntKind.u8 x 63=x % 64:=Yog 6 h.1 h.2 (by omega)
end Go.Abs
namespace Go.Abs
theorem YAg (r:Int):(Ym1 r).length=if r < 128 then 1 else if r < 2048 then 2 else if r < 65536 then 3 else 4:=by
 unfold Ym1
 split
 ·rfl
 ·split
  ·rfl
  ·split <;> rfl
end Go.Abs
namespace Go.Abs
theorem YSl (s:List UInt8) (k:Nat) (hk:k < s.length):1<=(Yj s k).2.1/\(Yj s k).2.1<=4/\(k:Int)+(Yj s k).2.1<=s.length:=by
 unfold Yj
 by_cases q1:ut1 s k=true
 ·rw [YQm q1]; simp only; omega
 rw [YPm q1]
 by_cases q2:ut2 s k=true
 ·rw [YQm q2]; have:=of_decide_eq_true q2; simp only; omega
 rw [YPm q2]
 by_cases q3:ut3 s k=true
 ·rw [YQm q3]
  unfold ut3 at q3
  rw [YRm] at q3
  have:=of_decide_eq_true q3.1; simp only; omega
 rw [YPm q3]
 by_cases q4:ut4 s k=true
 ·rw [YQm q4]
  unfold ut4 at q4
  rw [YRm] at q4
  have:=of_decide_eq_true q4.1; simp only; omega
 rw [YPm q4]; simp only; omega
def wd (s:List UInt8) (k:Nat):Nat:=(Yj s k).2.1.toNat
theorem Y12 (s:List UInt8) (k:Nat) (hk:k < s.length):1<=wd s k/\wd s k<=4/\k+wd s k<=s.length/\((wd s k:Nat):Int)=(Yj s k).2.1:=by
 have:=YSl s k hk
 unfold wd; omega
theorem YM2 (s:List UInt8) (k:Nat):(Yp s k).2=wd s k:=by
 have:=(Y26 s k).2
 unfold wd; omega
theorem Yp3 (s:List UInt8) (k:Nat):(((Yp s k).1:Nat):Int)=(Yj s k).1:=(Y26 s k).1
def pcs (s:List UInt8):Nat->Nat->List (Nat×(Int×(Int×Bool)))
 | 0,_=> []
 | n+1,k=> if k < s.length then (k,Yj s k)::pcs s n (k+wd s k) else []
def Y95 (s:List UInt8):List (Nat×(Int×(Int×Bool))):=pcs s s.length 0
def toD (x:Nat×(Int×(Int×Bool))):D181:=((x.1:Int),(x.2.2.1,(x.2.1,x.2.2.2)))
def YF (s:List UInt8):List Int:=(Y95 s).map (·.2.1)
def Yc2:List (Nat×(Int×(Int×Bool)))->Option Nat
 | []=> none
 | x::l=> if x.2.2.2=true then some x.1 else Yc2 l
def Y93 (s:List UInt8):Bool×Int:=match Yc2 (Y95 s) with
 | none=> (true,0)
 | some k=> (false,(k:Int))
theorem Ykd (s:List UInt8):∀ (n k:Nat),(pcs s n k).length<=n
 | 0,_=> by simp [pcs]
 | n+1,k=> by
  unfold pcs
  split
  ·simp only [YTm]; have:=Ykd s n (k+wd s k); omega
  ·simp
theorem YL6 (s:List UInt8):(YF s).length<=s.length:=by
 unfold YF Y95
 rw [List.length_map]
 exact Ykd s s.length 0
def has (s:List UInt8) (c:Int):Bool:=(YF s).any fun x=> x==c
theorem Yrc (s:List UInt8) (c:Int):∀ (n k:Nat),s.length<=k+n->k<=s.length->Zr1 s c s k=some (((pcs s n k).map (·.2.1)).any fun x=> x==c)
 | 0,k,hn,hk=> by
  rw [Yna,YLm (by omega),YNm]; rfl
 | n+1,k,hn,hk=> by
  rw [Yna]
  unfold pcs
  by_cases h:k < s.length
  ·have hw:=Y12 s k h
   rw [YKm h,YMm,YQm h,Yp3,YM2,Y7n,List.any_cons,Yrc s c n (k+wd s k) (by omega) (by omega)]
   cases ((Yj s k).1==c) <;> rfl
  ·rw [YLm h,YNm,YPm h]; rfl
theorem Y0b (s:List UInt8) (c:Int):YU3 (s,c)=some (has s c):=by
 rw [Yah,YSf]
 exact Yrc s c s.length 0 (by omega) (by omega)
theorem YPa (s:List UInt8) (k i:Nat):bat (s.drop k) i=bat s (k+i):=by
 unfold bat; simp [Y1n]
theorem Yi2 (s:List UInt8) (k:Nat):bat (s.drop k) 0=bat s k:=YPa s k 0
theorem Yl1 (s:List UInt8) (k i:Nat):bat (s.drop k) (0+i)=bat s (k+i):=by rw [Nat.zero_add]; exact YPa s k i
theorem YEd (s:List UInt8) (k:Nat) (hk:k<=s.length):Yj (s.drop k) 0=Yj s k:=by
 have e2:c2 (s.drop k) 0=c2 s k:=by unfold c2; rw [Yi2,Yl1]
 have e3:c3 (s.drop k) 0=c3 s k:=by unfold c3; rw [Yi2,Yl1,Yl1]
 have e4:c4 (s.drop k) 0=c4 s k:=by unfold c4; rw [Yi2,Yl1,Yl1,Yl1]
 have hl:(s.drop k).length=s.length - k:=Y5n ..
 have u1:ut1 (s.drop k) 0=ut1 s k:=by unfold ut1; rw [Yi2]
 have u2:ut2 (s.drop k) 0=ut2 s k:=by
  unfold ut2; apply decide_eq_decide.2; rw [e2,Yi2,Yl1,hl]; omega
 have u3:ut3 (s.drop k) 0=ut3 s k:=by
  unfold ut3; rw [e3,Yi2,Yl1,Yl1,hl,Bool.eq_iff_iff,YRm,YRm,Y3n,Y3n]; exact and_congr_left fun _=> by omega
 have u4:ut4 (s.drop k) 0=ut4 s k:=by
  unfold ut4; rw [e4,Yi2,Yl1,Yl1,Yl1,hl,Bool.eq_iff_iff,YRm,YRm,Y3n,Y3n]; exact and_congr_left fun _=> by omega
 unfold Yj
 rw [u1,u2,u3,u4,e2,e3,e4,Yi2]
theorem YFb (s:List UInt8) (k:Nat) (hk:k < s.length):YR5 (s,(k:Int))=some ((k:Int),((Yj s k).2.1,((Yj s k).1,(Yj s k).2.2))):=by
 rw [Yzi,YPf]
 simp only
 rw [Yo1 (by omega),YMm,YF1,Ysi,Yo4]
 have hne:(s.drop k).isEmpty=false:=by
  cases hd:s.drop k with
  | nil=> have:=List.drop_eq_nil_iff.1 hd; omega
  | cons=> rfl
 rw [hne,YNm,YOm]
 simp only
 rw [(Y26 (s.drop k) 0).1,(Y26 (s.drop k) 0).2,YEd s k (by omega)]
 have hb:(Yj s k).2.2=(((Yj s k).1==65533)&&((Yj s k).2.1==1)):=by
  unfold Yj
  by_cases q1:ut1 s k=true
  ·rw [YQm q1]
   have:=of_decide_eq_true q1
   simp only
   rw [show (bat s k==65533)=false from YWm.2 (by omega)]; rfl
  rw [YPm q1]
  by_cases q2:ut2 s k=true
  ·rw [YQm q2]; simp
  rw [YPm q2]
  by_cases q3:ut3 s k=true
  ·rw [YQm q3]; simp
  rw [YPm q3]
  by_cases q4:ut4 s k=true
  ·rw [YQm q4]; simp
  rw [YPm q4]; rfl
 rw [hb]
 cases ((Yj s k).1==65533) <;> rfl
theorem Yae (s:List UInt8):∀ (n k:Nat),s.length<=k+n->k<=s.length->Z91 s s k=some (match Yc2 (pcs s n k) with | none=> (true,0) | some k=> (false,(k:Int)))
 | 0,k,hn,hk=> by
  rw [YX9,YLm (by omega),YNm]; rfl
 | n+1,k,hn,hk=> by
  rw [YX9]
  unfold pcs
  by_cases h:k < s.length
  ·have hw:=Y12 s k h
   rw [YKm h,YMm,YQm h,YFb s k h,YOm,YM2,Yc2]
   simp only
   cases hb:(Yj s k).2.2 with
   | true=> rw [YMm,YQm rfl]
   | false=> rw [YNm,YPm (by simp),Yae s n (k+wd s k) (by omega) (by omega)]
  ·rw [YLm h,YNm,YPm h]; rfl
theorem YDb (s:List UInt8):YP5 s=some (Y93 s):=by
 rw [Yvi,YVe]
 exact Yae s s.length 0 (by omega) (by omega)
end Go.Abs
namespace Go.Abs
def secI (b:Int):Int×(Int×Int):=
 if b < 194 then (0,0,0) else if b<=223 then (128,191,2) else if b=224 then (160,191,3) else if b<=236 then (128,191,3) else if b=237 then (128,159,3) else if b<=239 then (128,191,3)
 else if b=240 then (144,191,4) else if b<=243 then (128,191,4) else if b=244 then (128,143,4) else (0,0,0)
theorem YBi (b:Int):YX7 b=some (secI b):=by
 rw [YAi,Yuf]
 unfold secI
 have hc:(b < 194)\/(194<=b/\b<=223)\/(b=224)\/(225<=b/\b<=236)\/(b=237)\/(238<=b/\b<=239)\/(b=240)\/(241<=b/\b<=243)\/(b=244)\/(244 < b):=by omega
 rcases hc with h | h | h | h | h | h | h | h | h | h
 ·simp only [show decide (b>=194)=false from YLm (by omega),show decide (b>=225)=false from YLm (by omega),show decide (b>=241)=false from YLm (by omega),show decide (b<=223)=true from YKm (by omega),show decide (b<=239)=true from YKm (by omega),show decide (b<=243)=true from YKm (by omega),show (b==224)=false from YWm.2 (by omega),show (b==237)=false from YWm.2 (by omega),show (b==240)=false from YWm.2 (by omega),show (b==244)=false from YWm.2 (by omega),YMm,YNm]
  rw [YQm (show b < 194 by omega)]
 ·simp only [show decide (b>=194)=true from YKm (by omega),show decide (b>=225)=false from YLm (by omega),show decide (b>=241)=false from YLm (by omega),show decide (b<=223)=true from YKm (by omega),show decide (b<=239)=true from YKm (by omega),show decide (b<=243)=true from YKm (by omega),show (b==224)=false from YWm.2 (by omega),show (b==237)=false from YWm.2 (by omega),show (b==240)=false from YWm.2 (by omega),show (b==244)=false from YWm.2 (by omega),YMm,YNm]
  rw [YPm (show ¬(b < 194) by omega),YQm (show b<=223 by omega)]
 ·simp only [show decide (b>=194)=true from YKm (by omega),show decide (b>=225)=false from YLm (by omega),show decide (b>=241)=false from YLm (by omega),show decide (b<=223)=false from YLm (by omega),show decide (b<=239)=true from YKm (by omega),show decide (b<=243)=true from YKm (by omega),show (b==224)=true from beq_iff_eq.2 (by omega),show (b==237)=false from YWm.2 (by omega),show (b==240)=false from YWm.2 (by omega),show (b==244)=false from YWm.2 (by omega),YMm,YNm]
  rw [YPm (show ¬(b < 194) by omega),YPm (show ¬(b<=223) by omega),YQm (show b=224 by omega)]
 ·simp only [show decide (b>=194)=true from YKm (by omega),show decide (b>=225)=true from YKm (by omega),show decide (b>=241)=false from YLm (by omega),show decide (b<=223)=false from YLm (by omega),show decide (b<=239)=true from YKm (by omega),show decide (b<=243)=true from YKm (by omega),show (b==224)=false from YWm.2 (by omega),show (b==237)=false from YWm.2 (by omega),show (b==240)=false from YWm.2 (by omega),show (b==244)=false from YWm.2 (by omega),YMm,YNm]
  rw [YPm (show ¬(b < 194) by omega),YPm (show ¬(b<=223) by omega),YPm (show ¬(b=224) by omega),YQm (show b<=236 by omega)]
 ·simp only [show decide (b>=194)=true from YKm (by omega),show decide (b>=225)=true from YKm (by omega),show decide (b>=241)=false from YLm (by omega),show decide (b<=223)=false from YLm (by omega),show decide (b<=239)=true from YKm (by omega),show decide (b<=243)=true from YKm (by omega),show (b==224)=false from YWm.2 (by omega),show (b==237)=true from beq_iff_eq.2 (by omega),show (b==240)=false from YWm.2 (by omega),show (b==244)=false from YWm.2 (by omega),YMm,YNm]
  rw [YPm (show ¬(b < 194) by omega),YPm (show ¬(b<=223) by omega),YPm (show ¬(b=224) by omega),YPm (show ¬(b<=236) by omega),YQm (show b=237 by omega)]
 ·simp only [show decide (b>=194)=true from YKm (by omega),show decide (b>=225)=true from YKm (by omega),show decide (b>=241)=false from YLm (by omega),show decide (b<=223)=false from YLm (by omega),show decide (b<=239)=true from YKm (by omega),show decide (b<=243)=true from YKm (by omega),show (b==224)=false from YWm.2 (by omega),show (b==237)=false from YWm.2 (by omega),show (b==240)=false from YWm.2 (by omega),show (b==244)=false from YWm.2 (by omega),YMm,YNm]
  rw [YPm (show ¬(b < 194) by omega),YPm (show ¬(b<=223) by omega),YPm (show ¬(b=224) by omega),YPm (show ¬(b<=236) by omega),YPm (show ¬(b=237) by omega),YQm (show b<=239 by omega)]
 ·simp only [show decide (b>=194)=true from YKm (by omega),show decide (b>=225)=true from YKm (by omega),show decide (b>=241)=false from YLm (by omega),show decide (b<=223)=false from YLm (by omega),show decide (b<=239)=false from YLm (by omega),show decide (b<=243)=true from YKm (by omega),show (b==224)=false from YWm.2 (by omega),show (b==237)=false from YWm.2 (by omega),show (b==240)=true from beq_iff_eq.2 (by omega),show (b==244)=false from YWm.2 (by omega),YMm,YNm]
  rw [YPm (show ¬(b < 194) by omega),YPm (show ¬(b<=223) by omega),YPm (show ¬(b=224) by omega),YPm (show ¬(b<=236) by omega),YPm (show ¬(b=237) by omega),YPm (show ¬(b<=239) by omega),YQm (show b=240 by omega)]
 ·simp only [show decide (b>=194)=true from YKm (by omega),show decide (b>=225)=true from YKm (by omega),show decide (b>=241)=true from YKm (by omega),show decide (b<=223)=false from YLm (by omega),show decide (b<=239)=false from YLm (by omega),show decide (b<=243)=true from YKm (by omega),show (b==224)=false from YWm.2 (by omega),show (b==237)=false from YWm.2 (by omega),show (b==240)=false from YWm.2 (by omega),show (b==244)=false from YWm.2 (by omega),YMm,YNm]
  rw [YPm (show ¬(b < 194) by omega),YPm (show ¬(b<=223) by omega),YPm (show ¬(b=224) by omega),YPm (show ¬(b<=236) by omega),YPm (show ¬(b=237) by omega),YPm (show ¬(b<=239) by omega),YPm (show ¬(b=240) by omega),YQm (show b<=243 by omega)]
 ·simp only [show decide (b>=194)=true from YKm (by omega),show decide (b>=225)=true from YKm (by omega),show decide (b>=241)=true from YKm (by omega),show decide (b<=223)=false from YLm (by omega),show decide (b<=239)=false from YLm (by omega),show decide (b<=243)=false from YLm (by omega),show (b==224)=false from YWm.2 (by omega),show (b==237)=false from YWm.2 (by omega),show (b==240)=false from YWm.2 (by omega),show (b==244)=true from beq_iff_eq.2 (by omega),YMm,YNm]
  rw [YPm (show ¬(b < 194) by omega),YPm (show ¬(b<=223) by omega),YPm (show ¬(b=224) by omega),YPm (show ¬(b<=236) by omega),YPm (show ¬(b=237) by omega),YPm (show ¬(b<=239) by omega),YPm (show ¬(b=240) by omega),YPm (show ¬(b<=243) by omega),YQm (show b=244 by omega)]
 ·simp only [show decide (b>=194)=true from YKm (by omega),show decide (b>=225)=true from YKm (by omega),show decide (b>=241)=true from YKm (by omega),show decide (b<=223)=false from YLm (by omega),show decide (b<=239)=false from YLm (by omega),show decide (b<=243)=false from YLm (by omega),show (b==224)=false from YWm.2 (by omega),show (b==237)=false from YWm.2 (by omega),show (b==240)=false from YWm.2 (by omega),show (b==244)=false from YWm.2 (by omega),YMm,YNm]
  rw [YPm (show ¬(b < 194) by omega),YPm (show ¬(b<=223) by omega),YPm (show ¬(b=224) by omega),YPm (show ¬(b<=236) by omega),YPm (show ¬(b=237) by omega),YPm (show ¬(b<=239) by omega),YPm (show ¬(b=240) by omega),YPm (show ¬(b<=243) by omega),YPm (show ¬(b=244) by omega)]
end Go.Abs
namespace Go.Abs
def YOb (b:Int):Bool:=decide (128<=b/\b<=191)
def webW (s:List UInt8) (k:Nat):Nat:=
 if k+1 < s.length/\3<=(secI (bat s k)).2.2/\(secI (bat s k)).1<=bat s (k+1)/\bat s (k+1)<=(secI (bat s k)).2.1 then
  (if k+2 < s.length/\(secI (bat s k)).2.2=4/\YOb (bat s (k+2))=true then 3 else 2)
 else 1
theorem YEm (s:List UInt8) (k:Nat) (hk:k<=s.length):webW (s.drop k) 0=webW s k:=by
 unfold webW
 rw [Yi2,Yl1,Yl1,Y5n]
 have e1:(0+1 < s.length - k)↔(k+1 < s.length):=by omega
 have e2:(0+2 < s.length - k)↔(k+2 < s.length):=by omega
 simp only [e1,e2]
theorem YYl (b:Int):(secI b).2.2=0\/(secI b).2.2=2\/(secI b).2.2=3\/(secI b).2.2=4:=by
 unfold secI
 repeat' split
 all_goals simp
theorem Yv9 (t:List UInt8) (lo hi all:Int) (i:Nat) (ha:0<=all/\all<=4) (h:¬((i:Int) < all - 1/\i < t.length/\lo<=bat t i/\bat t i<=hi)):Z53 t lo hi all (i:Int)=some (i:Int):=by
 rw [YS9,w64 (by omega) (by omega),Yl]
 by_cases a:(i:Int) < all - 1
 ·rw [YKm a,YMm]
  by_cases b:i < t.length
  ·rw [YKm b,YMm,Ym,YKm b,YMm,YSm,show (((t.getD i 0).toNat:Nat):Int)=bat t i from rfl]
   by_cases c:lo<=bat t i
   ·rw [show decide (bat t i>=lo)=true from YKm c,YMm,YMm,show decide (bat t i<=hi)=false from YLm (fun d=> h ⟨a,b,c,d⟩),YNm]
   ·rw [show decide (bat t i>=lo)=false from YLm c,YNm]
  ·rw [YLm b,YNm]
 ·rw [YLm a,YNm]
theorem Yde (t:List UInt8) (lo hi all:Int) (i:Nat) (hi4:i<=4) (ha:0<=all/\all<=4) (h:(i:Int) < all - 1/\i < t.length/\lo<=bat t i/\bat t i<=hi):Z53 t lo hi all (i:Int)=Z53 t 128 191 all ((i+1:Nat):Int):=by
 have hw:IntKind.i64.wrap ((i:Int)+1)=((i+1:Nat):Int):=by rw [w64 (by omega) (by omega)]; omega
 rw [YS9,w64 (x:=all - 1) (by omega) (by omega),Yl,YKm h.1,YMm,YKm h.2.1,YMm,Ym,YKm h.2.1,YMm,YSm,show (((t.getD i 0).toNat:Nat):Int)=bat t i from rfl,
  show decide (bat t i>=lo)=true from YKm h.2.2.1,YMm,YMm,show decide (bat t i<=hi)=true from YKm h.2.2.2,YMm,hw]
theorem YFi (t:List UInt8) (h0:0 < t.length):YZ7 t=some ((webW t 0:Nat):Int):=by
 rw [YEi,YHe,show Yb (0:Int) t.length=true from by rw [show (0:Int)=((0:Nat):Int) from rfl,Ym]; exact YKm h0,YMm]
 rw [show (((t.getD (Int.toNat (0:Int)) 0).toNat:Nat):Int)=bat t 0 from rfl,YBi,YOm]
 have hall:=YYl (bat t 0)
 unfold webW
 rw [show (0:Nat)+1=1 from rfl,show (0:Nat)+2=2 from rfl]
 by_cases a:1 < t.length/\3<=(secI (bat t 0)).2.2/\(secI (bat t 0)).1<=bat t 1/\bat t 1<=(secI (bat t 0)).2.1
 ·rw [YQm a]
  have:=Yde t (secI (bat t 0)).1 (secI (bat t 0)).2.1 (secI (bat t 0)).2.2 1 (by omega) (by omega) ⟨by omega,a.1,a.2.2.1,a.2.2.2⟩
  rw [show ((1:Nat):Int)=1 from rfl] at this
  rw [this]
  by_cases b:2 < t.length/\(secI (bat t 0)).2.2=4/\YOb (bat t 2)=true
  ·have hc:=of_decide_eq_true b.2.2
   rw [YQm b,Yde t _ _ _ 2 (by omega) (by omega) ⟨by omega,b.1,hc.1,hc.2⟩,Yv9 t _ _ _ 3 (by omega) (by omega)]
  ·rw [YPm b,Yv9 t _ _ _ 2 (by omega)]
   rintro ⟨h1,h2,h3,h4⟩
   exact b ⟨h2,by omega,YKm ⟨h3,h4⟩⟩
 ·rw [YPm a]
  have:=Yv9 t (secI (bat t 0)).1 (secI (bat t 0)).2.1 (secI (bat t 0)).2.2 1 (by omega) (by
   rintro ⟨h1,h2,h3,h4⟩
   exact a ⟨h2,by omega,h3,h4⟩)
  rw [show ((1:Nat):Int)=1 from rfl] at this
  exact this
def wwd (s:List UInt8) (k:Nat):Nat:=if (Yj s k).2.2=true then webW s k else wd s k
def wpcs (s:List UInt8):Nat->Nat->List (Nat×(Int×(Int×Bool)))
 | 0,_=> []
 | n+1,k=> if k < s.length then (k,((Yj s k).1,(((wwd s k:Nat):Int),(Yj s k).2.2)))::wpcs s n (k+wwd s k) else []
def YY6 (s:List UInt8):List (Nat×(Int×(Int×Bool))):=wpcs s s.length 0
theorem YHm (s:List UInt8) (k:Nat) (hk:k < s.length):1<=wwd s k/\wwd s k<=4/\k+wwd s k<=s.length:=by
 have:=Y12 s k hk
 unfold wwd
 split
 ·unfold webW
  split
  ·split <;> omega
  ·omega
 ·omega
theorem Yy9 (s:List UInt8):∀ (n k:Nat),(wpcs s n k).length<=n
 | 0,_=> by simp [wpcs]
 | n+1,k=> by
  unfold wpcs
  split
  ·simp only [YTm]; have:=Yy9 s n (k+wwd s k); omega
  ·simp
theorem YL9 (s:List UInt8) (hs:s.length<=1073741824):∀ (n k:Nat) (r:List D181),s.length<=k+n->k<=s.length->r.length+n<=1073741824->Zd2 s (k:Int) r=some (r++(wpcs s n k).map toD)
 | 0,k,r,hn,hk,hr=> by
  rw [Y3a,Yl,YLm (by omega),YNm,wpcs]; simp
 | n+1,k,r,hn,hk,hr=> by
  rw [Y3a,Yl]
  unfold wpcs
  by_cases c:k < s.length
  ·have hw:=YHm s k c
   have hwd:=Y12 s k c
   have fin:∀ b:Bool,∀ d:D181,d=((k:Int),(((wwd s k:Nat):Int),((Yj s k).1,b)))->Ze2 s (k:Int) d r=some (r++(((k,((Yj s k).1,(((wwd s k:Nat):Int),b)))::wpcs s n (k+wwd s k)).map toD)):=by
    rintro b d rfl
    rw [Yff,show decide (r.length+[((k:Int),(((wwd s k:Nat):Int),((Yj s k).1,b)))].length<=lim)=true from YKm (by simp [lim]; omega),YMm]
    simp only
    rw [w64 (by omega) (by omega),show (k:Int)+((wwd s k:Nat):Int)=((k+wwd s k:Nat):Int) from by omega]
    rw [YL9 s hs n (k+wwd s k) _ (by omega) (by omega) (by simp; omega),Y7n,YVm]
    simp [toD]
   rw [YKm c,YMm,YQm c,YFb s k c,YOm]
   simp only
   cases hb:(Yj s k).2.2 with
   | true=>
    rw [YMm,Yo1 hk,YMm,YF1,YFi (s.drop k) (by rw [Y5n]; omega),YOm,YEm s k hk]
    have:wwd s k=webW s k:=by unfold wwd; rw [YQm hb]
    refine fin true _ ?_
    rw [this]
   | false=>
    rw [YNm]
    have:wwd s k=wd s k:=by unfold wwd; rw [YPm (by rw [hb]; simp)]
    refine fin false _ ?_
    rw [this,hwd.2.2.2]
  ·rw [YLm c,YNm,YPm c]; simp
theorem Yyi (s:List UInt8) (hs:s.length<=1073741824):YW7 s=some ((YY6 s).map toD):=by
 rw [Yxi,Y8f]
 exact YL9 s hs s.length 0 [] (by omega) (by omega) (by simpa using hs)
theorem Y17 (x:Int):IntKind.u8.wrap x=x % 256:=by
 change (if (false&&decide (x % (256:Int)>=(128:Int)))=true then x % (256:Int) - (256:Int) else x % (256:Int))=_
 rw [YPm (by simp)]
theorem wu32 {x:Int} (h0:0<=x) (h1:x < 4294967296):IntKind.u32.wrap x=x:=by
 change (if (false&&decide (x % (4294967296:Int)>=(2147483648:Int)))=true then x % (4294967296:Int) - (4294967296:Int) else x % (4294967296:Int))=_
 rw [YPm (by simp)]; omega
theorem Yx6 (m:Nat) (q:Nat) {y:Int} (h0:0<=y) (h1:y < ((2 ^ m:Nat):Int)) (hq:2 ^ m*q+2 ^ m<=256):bits Go.BinOp.or IntKind.u8 ((2 ^ m*q:Nat):Int) y=((2 ^ m*q:Nat):Int)+y:=by
 obtain ⟨n,rfl⟩:=Int.eq_ofNat_of_zero_le h0
 have hn:n < 2 ^ m:=by omega
 have e1:(BitVec.ofInt 8 (((2 ^ m*q:Nat):Nat):Int)).toNat=2 ^ m*q:=by
  rw [BitVec.toNat_ofInt]; omega
 have e2:(BitVec.ofInt 8 (n:Int)).toNat=n:=by
  rw [BitVec.toNat_ofInt]; omega
 have e:(BitVec.ofInt 8 (((2 ^ m*q:Nat):Nat):Int)|||BitVec.ofInt 8 (n:Int)).toNat=2 ^ m*q+n:=by
  rw [BitVec.toNat_or,e1,e2,<-Nat.two_pow_add_eq_or_of_lt hn]
 show IntKind.u8.wrap (((BitVec.ofInt 8 (((2 ^ m*q:Nat):Nat):Int)|||BitVec.ofInt 8 (n:Int)).toNat:Nat):Int)=_
 rw [e,w8 (by omega) (by omega)]
 omega
theorem YZk {y:Int} (h0:0<=y) (h1:y < 32):bits Go.BinOp.or IntKind.u8 192 y=192+y:=Yx6 5 6 h0 (by simpa using h1) (by decide)
theorem Yj4 {y:Int} (h0:0<=y) (h1:y < 64):bits Go.BinOp.or IntKind.u8 128 y=128+y:=Yx6 6 2 h0 (by simpa using h1) (by decide)
theorem Y0l {y:Int} (h0:0<=y) (h1:y < 16):bits Go.BinOp.or IntKind.u8 224 y=224+y:=Yx6 4 14 h0 (by simpa using h1) (by decide)
theorem Y1l {y:Int} (h0:0<=y) (h1:y < 8):bits Go.BinOp.or IntKind.u8 240 y=240+y:=Yx6 3 30 h0 (by simpa using h1) (by decide)
theorem Yl9 (r:Int) (k:Nat) (hk:k<=32):shr IntKind.i32 r (k:Int)=r / 2 ^ k:=by
 show r.fdiv (2 ^ (min (Int.toNat (k:Int)) 32))=_
 rw [YSm,Nat.min_eq_left hk,Int.fdiv_eq_ediv_of_nonneg _ (Int.le_of_lt (Int.pow_pos (by omega)))]
theorem sh6 (r:Int):shr IntKind.i32 r 6=r / 64:=Yl9 r 6 (by omega)
theorem sh12 (r:Int):shr IntKind.i32 r 12=r / 4096:=Yl9 r 12 (by omega)
theorem sh18 (r:Int):shr IntKind.i32 r 18=r / 262144:=Yl9 r 18 (by omega)
theorem YC9 (l:List Int) (r:Int) (hl:l.length<=4294967200) (hr:scal r=true):YN5 (l,r)=some (l++Ym1 r):=by
 have hr:=of_decide_eq_true hr
 rw [Yqi,YEe]
 simp only
 rw [wu32 (by omega) (by omega)]
 unfold Ym1
 by_cases a:r < 128
 ·rw [show decide (r<=127)=true from YKm (by omega),YMm,w8 (by omega) (by omega),show decide (l.length+[r].length<=lim)=true from YKm (by simp [lim]; omega),YMm,YQm a]
 ·rw [show decide (r<=127)=false from YLm (by omega),YNm,YPm a,Yui,Ynf]
  simp only
  have u6:=Y17 r
  rw [wu32 (x:=r) (by omega) (by omega),sh6,u6,m63 (x:=r % 256) (by omega),show r % 256 % 64=r % 64 from by omega,Yj4 (y:=r % 64) (by omega) (by omega)]
  by_cases b:r < 2048
  ·rw [show decide (r<=2047)=true from YKm (by omega),YMm,w8 (x:=r / 64) (by omega) (by omega),YZk (by omega) (by omega),YQm b]
   rw [show decide (l.length+[192+r / 64,128+r % 64].length<=lim)=true from YKm (by simp [lim]; omega),YMm]; rfl
  ·rw [show decide (r<=2047)=false from YLm (by omega),YNm,YPm b]
   by_cases c:r < 65536
   ·have key:Zh3 r r true l=some (l++[224+r / 4096,128+r / 64 % 64,128+r % 64]):=by
     rw [Y7a,YMm,sh12,sh6,u6,m63 (x:=r % 256) (by omega),show r % 256 % 64=r % 64 from by omega,Yj4 (y:=r % 64) (by omega) (by omega),Y17 (r / 64),m63 (x:=r / 64 % 256) (by omega),show r / 64 % 256 % 64=r / 64 % 64 from by omega,Yj4 (y:=r / 64 % 64) (by omega) (by omega),
      w8 (x:=r / 4096) (by omega) (by omega),Y0l (by omega) (by omega),show decide (l.length+[224+r / 4096,128+r / 64 % 64,128+r % 64].length<=lim)=true from YKm (by simp [lim]; omega),YMm]
    rw [YQm c]
    by_cases d:r < 55296
    ·rw [YKm d,YMm,key]; rfl
    ·rw [YLm d,YNm,show decide ((57343:Int) < r)=true from YKm (by omega),YMm,show decide (r<=65535)=true from YKm (by omega),key]; rfl
   ·rw [YPm c,show decide (r < 55296)=false from YLm (by omega),YNm,show decide ((57343:Int) < r)=true from YKm (by omega),YMm,show decide (r<=65535)=false from YLm (by omega),Y7a,YNm,
     show decide (r > 65535)=true from YKm (by omega),YMm,show decide (r<=1114111)=true from YKm (by omega),YMm]
    rw [sh18,sh12,sh6,u6,m63 (x:=r % 256) (by omega),show r % 256 % 64=r % 64 from by omega,Yj4 (y:=r % 64) (by omega) (by omega),Y17 (r / 64),m63 (x:=r / 64 % 256) (by omega),show r / 64 % 256 % 64=r / 64 % 64 from by omega,Yj4 (y:=r / 64 % 64) (by omega) (by omega),
     Y17 (r / 4096),m63 (x:=r / 4096 % 256) (by omega),show r / 4096 % 256 % 64=r / 4096 % 64 from by omega,Yj4 (y:=r / 4096 % 64) (by omega) (by omega),w8 (x:=r / 262144) (by omega) (by omega),Y1l (by omega) (by omega)]
    rw [show decide (l.length+[240+r / 262144,128+r / 4096 % 64,128+r / 64 % 64,128+r % 64].length<=lim)=true from YKm (by simp [lim]; omega),YMm]; rfl
end Go.Abs
namespace Go.Abs
theorem Yj9 (s:List UInt8) (k:Nat):scal (Yj s k).1=true:=by
 have h0:=Yj2 s k
 have h1:=Yj2 s (k+1)
 unfold Yj
 by_cases q1:ut1 s k=true
 ·rw [YQm q1]
  have:=of_decide_eq_true q1
  exact YKm (by simp only; omega)
 rw [YPm q1]
 by_cases q2:ut2 s k=true
 ·rw [YQm q2]
  have:0<=c2 s k/\c2 s k < 2048:=by unfold c2; omega
  exact YKm (by simp only; omega)
 rw [YPm q2]
 by_cases q3:ut3 s k=true
 ·rw [YQm q3]
  unfold ut3 at q3
  rw [YRm] at q3
  exact q3.2
 rw [YPm q3]
 by_cases q4:ut4 s k=true
 ·rw [YQm q4]
  unfold ut4 at q4
  rw [YRm] at q4
  exact q4.2
 rw [YPm q4]; rfl
theorem Yv5 (r:Int):1<=(Ym1 r).length/\(Ym1 r).length<=4:=by
 rw [YAg]; split
 ·omega
 ·split
  ·omega
  ·split <;> omega
def Yu2 (l:List Int):List Int:=l.flatMap Ym1
theorem YFd:∀ l:List Int,(Yu2 l).length<=4*l.length
 | []=> by simp [Yu2]
 | r::l=> by
  have:=YFd l
  have h:=Yv5 r
  simp only [Yu2,List.flatMap_cons,YUm,YTm] at this ⊢
  omega
def Yk (l:List Int):List UInt8:=Yx (Yu2 l)
theorem Y6e (s l:List D181) (hl:l.length<=1000000000) (hr:∀ x∈l,scal x.2.2.1=true):∀ (n i:Nat) (r:List Int),i+n=l.length->r.length<=4*i->Zb2 s l (l.length:Int) (i:Int) r=some (Yx (r++Yu2 ((l.drop i).map (·.2.2.1))))
 | 0,i,r,h,hrl=> by
  have:i=l.length:=by omega
  subst this
  rw [YY9,Yl,YLm (Ycn _),YNm,List.drop_length]; simp [Yu2]
 | n+1,i,r,h,hrl=> by
  have hi:i < l.length:=by omega
  have hw:IntKind.i64.wrap ((i:Int)+1)=((i+1:Nat):Int):=by rw [w64 (by omega) (by omega)]; omega
  have hg:List.getD l (Int.toNat (i:Int)) (Ty.zero T181)=l[i]:=by
   rw [YSm,Y1n,Y2n hi]; rfl
  have hb:=Yv5 l[i].2.2.1
  rw [YY9,Yl,YKm hi,YMm,Ym,YKm hi,YMm,hg,YC9 _ _ (by omega) (hr _ (List.getElem_mem hi)),YOm,hw,
   Y6e s l hl hr n (i+1) _ (by omega) (by simp only [YUm]; omega),YXm hi,Y7n]
  simp only [Yu2,List.flatMap_cons,YVm]
theorem YDi (l:List D181) (hl:l.length<=1000000000) (hr:∀ x∈l,scal x.2.2.1=true):YY7 l=some (Yk (l.map (·.2.2.1))):=by
 rw [YCi,YYe,Y3f]
 cases l with
 | nil=> rfl
 | cons x l=>
  have hb:=Yv5 x.2.2.1
  rw [show decide ((0:Int) < (((x::l).length:Nat):Int))=true from YKm (by simp only [YTm]; omega),YMm,Ys8,YMm,show List.getD (x::l) (Int.toNat (0:Int)) (Ty.zero T181)=x from rfl,YC9 [] _ (by simp) (hr x (by simp)),YOm]
  have:=Y6e (x::l) (x::l) hl hr l.length 1 ([]++Ym1 x.2.2.1) (by simp only [YTm]; omega) (by simp only [Yen]; omega)
  rw [show IntKind.i64.wrap ((0:Int)+1)=((1:Nat):Int) from a1,this]
  simp [Yk,Yu2]
theorem Y3e:∀ l:List (Nat×(Int×(Int×Bool))),(l.map toD).map (fun x:D181=> x.2.2.1)=l.map (fun x=> x.2.1)
 | []=> rfl
 | x::l=> by simp only [Y7n,Y3e l,toD]
def Ym5 (s:List UInt8):List Int:=(YY6 s).map (·.2.1)
def Y22 (s:List UInt8):List UInt8:=Yk (Ym5 s)
theorem Yfe (s:List UInt8):∀ (n k:Nat),∀ x∈wpcs s n k,scal x.2.1=true
 | 0,_,x,h=> by cases h
 | n+1,k,x,h=> by
  unfold wpcs at h
  split at h
  ·rcases Y0n.1 h with rfl | h
   ·(dsimp only; exact Yj9 s k)
   ·exact Yfe s n _ x h
  ·cases h
theorem YEb (s:List UInt8) (hs:s.length<=1000000000):YQ5 s=some (Y22 s):=by
 rw [Ywi,YFf,Yyi s (by omega),YOm]
 have hl:=Yy9 s s.length 0
 rw [YDi _ (by rw [List.length_map]; unfold YY6; omega) (by
  intro x hx
  obtain ⟨y,hy,rfl⟩:=List.mem_map.1 hx
  exact Yfe s s.length 0 y hy),YOm]
 unfold Y22 Ym5
 rw [Y3e]
theorem YDm (s:List UInt8):(Y22 s).length<=4*s.length:=by
 have h1:=YFd (Ym5 s)
 have h2:=Yy9 s s.length 0
 unfold Y22 Yk Yx
 rw [List.length_map]
 have:(Ym5 s).length<=s.length:=by unfold Ym5 YY6; rw [List.length_map]; exact h2
 omega
end Go.Abs
