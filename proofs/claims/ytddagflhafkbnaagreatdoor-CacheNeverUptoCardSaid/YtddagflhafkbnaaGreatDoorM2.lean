/- Part M2 of the proof: see the last text of the claim. No condition of its own. -/
import Derived.Test.YtddagflhafkbnaaGreatDoorM1
import Derived.Test.YtddagflhafkbnaaGreatDoorL6
set_option linter.all false
set_option autoImplicit false
namespace Go.Abs
def Yy (s:List UInt8) (k n width:Nat) (v:Int):Bool:=scal v&&(decide ((Yu v).length=width)&&atB s k ((Yu v).take n))
def YO (width:Nat):Int:=if width=3 then 2048 else 65536
theorem YMb (s:List UInt8) (k n width:Nat) (r v i:Int) (l:List Int) (hs:s.length<=1073741824) (hk:k<=s.length) (hn:n<=width) (X:Option Bool) (hX:Zn7 s (k:Int) (n:Int) (width:Int) r (IntKind.i64.wrap (i+1)) l=X) (hv:v < 2097152):
  Zo7 s (k:Int) (n:Int) (width:Int) r i v l=if Yy s k n width v=true then some true else X:=by
 rw [YVk,hX,Yb7,Yiu]
 unfold Yy
 cases hsc:scal v with
 | false=> rw [Yhu,Bool.false_and,Yju (by simp)]
 | true=>
  have hr:=YE2 hsc
  rw [Ygu,Y87 v hr.1 hv,Yiu,Y5v]
  by_cases a:(Yu v).length=width
  ·have hb:=Y54 v
   rw [show (((Yu v).length:Int)==(width:Int))=true from Y7v.2 (by omega),Ygu,Yiu,show Yi none (some (n:Int)) (Yu v).length=true from by simp [Yi]; omega,Ygu,
    show List.drop (Option.getD (Option.map Int.toNat none) 0) (List.take (Option.getD (Option.map Int.toNat (some (n:Int))) (Yu v).length) (Yu v))=(Yu v).take n from by
     show List.drop 0 (List.take (Int.toNat (n:Int)) (Yu v))=_
     rw [YZu,Ymu],
    YNe s k _ hs (by rw [Yyu]; omega) hk,Yiu,Yeu a,Y5v]
   cases atB s k ((Yu v).take n) with
   | true=> rw [Ygu,Yku rfl]
   | false=> rw [Yhu,Yju (by simp)]
  ·rw [show (((Yu v).length:Int)==(width:Int))=false from Yqu.2 (by omega),Yhu,Yfu a,Bool.false_and,Yju (by simp)]
theorem YPe (s:List UInt8) (k n width:Nat) (r:Int) (hs:s.length<=1073741824) (hk:k<=s.length) (hw:width=3\/width=4) (hn:n<=width) (hr:r < 2097152):
  Yf7 (s,(k:Int),(n:Int),(width:Int),r)=some (Yy s k n width r||(if r < YO width then Yy s k n width (YO width) else Yy s k n width r)):=by
 rw [Y0o]
 dsimp only
 rw [YLk,Y39,show decide ((0:Int) < 2)=true from rfl,Ygu,show ((0:Int)==1)=false from rfl,Yhu]
 have hl:([(0:Int),(0:Int),(128:Int),(2048:Int),(65536:Int)]:List Int).length=5:=rfl
 have hg:List.getD ([(0:Int),(0:Int),(128:Int),(2048:Int),(65536:Int)]:List Int) (Int.toNat (width:Int)) (Ty.zero (.int .i32))=YO width:=by
  rcases hw with rfl | rfl <;> rfl
 have hlw:YO width < 2097152:=by unfold YO; split <;> omega
 have two:Zn7 s (k:Int) (n:Int) (width:Int) r (IntKind.i64.wrap ((1:Int)+1)) ([(0:Int),(0:Int),(128:Int),(2048:Int),(65536:Int)]:List Int)=some false:=by
  rw [show IntKind.i64.wrap ((1:Int)+1)=2 from a2,Y39,show decide ((2:Int) < 2)=false from rfl,Yhu]
 have one:Zn7 s (k:Int) (n:Int) (width:Int) r (IntKind.i64.wrap ((0:Int)+1)) ([(0:Int),(0:Int),(128:Int),(2048:Int),(65536:Int)]:List Int)=some (if r < YO width then Yy s k n width (YO width) else Yy s k n width r):=by
  rw [show IntKind.i64.wrap ((0:Int)+1)=1 from a1,Y39,show decide ((1:Int) < 2)=true from rfl,Ygu,show ((1:Int)==1)=true from rfl,Ygu,hl,Yj,Yeu (by omega),Ygu,hg,Ygu]
  by_cases c:r < YO width
  ·rw [Yeu c,Ygu,YMb s k n width r _ 1 _ hs hk hn _ two hlw,Yku c]
   cases Yy s k n width (YO width) <;> rfl
  ·rw [Yfu c,Yhu,YMb s k n width r _ 1 _ hs hk hn _ two hr,Yju c]
   cases Yy s k n width r <;> rfl
 rw [YMb s k n width r r 0 _ hs hk hn _ one hr]
 cases Yy s k n width r with
 | true=> rw [Yku rfl,YDu]
 | false=> rw [Yju (by simp),YCu]
theorem Yee {v:Int} (h0:2048<=v) (h1:v < 65536):Yu v=[224+v / 4096,128+v / 64 % 64,128+v % 64]:=by
 unfold Yu; rw [Yju (by omega),Yju (by omega),Yku h1]
theorem YQ6 {v:Int} (h0:65536<=v):Yu v=[240+v / 262144,128+v / 4096 % 64,128+v / 64 % 64,128+v % 64]:=by
 unfold Yu; rw [Yju (by omega),Yju (by omega),Yju (by omega)]
theorem YJb (s:List UInt8) (k:Nat) (v:Int) (hk:k+1 < s.length):Yy s k 2 3 v=true↔(2048<=v/\v < 65536/\¬(55296<=v/\v<=57343)/\bat s k=224+v / 4096/\bat s (k+1)=128+v / 64 % 64):=by
 unfold Yy
 rw [Ylu,Ylu,Yxu,Yt3]
 constructor
 ·rintro ⟨h1,h2,h3⟩
  have h1:=YQu h1
  have hv:2048<=v/\v < 65536:=by
   split at h2
   ·omega
   ·split at h2
    ·omega
    ·split at h2
     ·omega
     ·omega
  rw [Yee hv.1 hv.2] at h3
  simp only [List.take_succ_cons,List.take_zero,atB,Bool.and_true,Ylu,Yxu] at h3
  exact ⟨hv.1,hv.2,h1.2.2,h3.1.2,h3.2.2⟩
 ·rintro ⟨h1,h2,h3,h4,h5⟩
  refine ⟨Yeu (by omega),by rw [Yju (by omega),Yju (by omega),Yku h2],?_⟩
  rw [Yee h1 h2]
  simp only [List.take_succ_cons,List.take_zero,atB,Bool.and_true,Ylu,Yxu]
  exact ⟨⟨by omega,h4⟩,by omega,h5⟩
theorem YKb (s:List UInt8) (k:Nat) (v:Int) (hk:k+1 < s.length):Yy s k 2 4 v=true↔(65536<=v/\v<=1114111/\bat s k=240+v / 262144/\bat s (k+1)=128+v / 4096 % 64):=by
 unfold Yy
 rw [Ylu,Ylu,Yxu,Yt3]
 constructor
 ·rintro ⟨h1,h2,h3⟩
  have h1:=YQu h1
  have hv:65536<=v:=by
   split at h2
   ·omega
   ·split at h2
    ·omega
    ·split at h2
     ·omega
     ·omega
  rw [YQ6 hv] at h3
  simp only [List.take_succ_cons,List.take_zero,atB,Bool.and_true,Ylu,Yxu] at h3
  exact ⟨hv,h1.2.1,h3.1.2,h3.2.2⟩
 ·rintro ⟨h1,h2,h4,h5⟩
  refine ⟨Yeu (by omega),by rw [Yju (by omega),Yju (by omega),Yju (by omega)],?_⟩
  rw [YQ6 h1]
  simp only [List.take_succ_cons,List.take_zero,atB,Bool.and_true,Ylu,Yxu]
  exact ⟨⟨by omega,h4⟩,by omega,h5⟩
theorem YLb (s:List UInt8) (k:Nat) (v:Int) (hk:k+2 < s.length):Yy s k 3 4 v=true↔(65536<=v/\v<=1114111/\bat s k=240+v / 262144/\bat s (k+1)=128+v / 4096 % 64/\bat s (k+2)=128+v / 64 % 64):=by
 unfold Yy
 rw [Ylu,Ylu,Yxu,Yt3]
 constructor
 ·rintro ⟨h1,h2,h3⟩
  have h1:=YQu h1
  have hv:65536<=v:=by
   split at h2
   ·omega
   ·split at h2
    ·omega
    ·split at h2
     ·omega
     ·omega
  rw [YQ6 hv] at h3
  simp only [List.take_succ_cons,List.take_zero,atB,Bool.and_true,Ylu,Yxu] at h3
  exact ⟨hv,h1.2.1,h3.1.2,h3.2.1.2,h3.2.2.2⟩
 ·rintro ⟨h1,h2,h4,h5,h6⟩
  refine ⟨Yeu (by omega),by rw [Yju (by omega),Yju (by omega),Yju (by omega)],?_⟩
  rw [YQ6 h1]
  simp only [List.take_succ_cons,List.take_zero,atB,Bool.and_true,Ylu,Yxu]
  exact ⟨⟨by omega,h4⟩,⟨by omega,h5⟩,by omega,h6⟩
def Yq2 (s:List UInt8) (k:Nat):Prop:=k+1 < s.length/\3<=(secI (bat s k)).2.2/\(secI (bat s k)).1<=bat s (k+1)/\bat s (k+1)<=(secI (bat s k)).2.1
theorem Ybt (b:Int) (c:Int) (hb:0<=b/\b<=255):(3<=(secI b).2.2/\(secI b).1<=c/\c<=(secI b).2.1)↔((b / 16=14/\c / 64=2/\(b=224->160<=c)/\(b=237->c<=159))\/(240<=b/\b<=244/\c / 64=2/\(b=240->144<=c)/\(b=244->c<=143))):=by
 unfold secI
 repeat' split
 all_goals (dsimp only; omega)
theorem Yct (b:Int) (c:Int) (hb:0<=b/\b<=255):((secI b).2.2=4/\(secI b).1<=c/\c<=(secI b).2.1)↔(240<=b/\b<=244/\c / 64=2/\(b=240->144<=c)/\(b=244->c<=143)):=by
 unfold secI
 repeat' split
 all_goals (dsimp only; omega)
theorem or4 {a b c d:Bool}:(a||b||(c||d))=true↔(a=true\/b=true\/c=true\/d=true):=by
 cases a <;> cases b <;> cases c <;> cases d <;> simp
theorem low3 (s:List UInt8) (k:Nat) (hk:k+1 < s.length):((Yy s k 2 3 (bat s k % 16*4096+bat s (k+1) % 64*64)||(if bat s k % 16*4096+bat s (k+1) % 64*64 < YO 3 then Yy s k 2 3 (YO 3) else Yy s k 2 3 (bat s k % 16*4096+bat s (k+1) % 64*64)))||
  (Yy s k 2 3 (bat s k % 16*4096+bat s (k+1) % 64*64+63)||(if bat s k % 16*4096+bat s (k+1) % 64*64+63 < YO 3 then Yy s k 2 3 (YO 3) else Yy s k 2 3 (bat s k % 16*4096+bat s (k+1) % 64*64+63))))=
  decide (bat s k / 16=14/\bat s (k+1) / 64=2/\(bat s k=224->160<=bat s (k+1))/\(bat s k=237->bat s (k+1)<=159)):=by
 have hb0:=Yt s k
 have hb1:=Yt s (k+1)
 have hl:YO 3=2048:=rfl
 rw [hl,Bool.eq_iff_iff,or4,Yxu]
 have t1:=YJb s k (bat s k % 16*4096+bat s (k+1) % 64*64) hk
 have t2:=YJb s k (bat s k % 16*4096+bat s (k+1) % 64*64+63) hk
 have t3:=YJb s k 2048 hk
 constructor
 ·rintro (h | h | h | h)
  ·have:=t1.1 h; omega
  ·split at h
   ·have:=t3.1 h; omega
   ·have:=t1.1 h; omega
  ·have:=t2.1 h; omega
  ·split at h
   ·have:=t3.1 h; omega
   ·have:=t2.1 h; omega
 ·intro h
  exact .inl (t1.2 (by omega))
theorem low4 (s:List UInt8) (k:Nat) (hk:k+1 < s.length):((Yy s k 2 4 (bat s k % 8*262144+bat s (k+1) % 64*4096)||(if bat s k % 8*262144+bat s (k+1) % 64*4096 < YO 4 then Yy s k 2 4 (YO 4) else Yy s k 2 4 (bat s k % 8*262144+bat s (k+1) % 64*4096)))||
  (Yy s k 2 4 (bat s k % 8*262144+bat s (k+1) % 64*4096+4095)||(if bat s k % 8*262144+bat s (k+1) % 64*4096+4095 < YO 4 then Yy s k 2 4 (YO 4) else Yy s k 2 4 (bat s k % 8*262144+bat s (k+1) % 64*4096+4095))))=
  decide (240<=bat s k/\bat s k<=244/\bat s (k+1) / 64=2/\(bat s k=240->144<=bat s (k+1))/\(bat s k=244->bat s (k+1)<=143)):=by
 have hb0:=Yt s k
 have hb1:=Yt s (k+1)
 have hl:YO 4=65536:=rfl
 rw [hl,Bool.eq_iff_iff,or4,Yxu]
 have t1:=YKb s k (bat s k % 8*262144+bat s (k+1) % 64*4096) hk
 have t2:=YKb s k (bat s k % 8*262144+bat s (k+1) % 64*4096+4095) hk
 have t3:=YKb s k 65536 hk
 constructor
 ·rintro (h | h | h | h)
  ·have:=t1.1 h; omega
  ·split at h
   ·have:=t3.1 h; omega
   ·have:=t1.1 h; omega
  ·have:=t2.1 h; omega
  ·split at h
   ·have:=t3.1 h; omega
   ·have:=t2.1 h; omega
 ·intro h
  exact .inl (t1.2 (by omega))
theorem Ytr (s:List UInt8) (k:Nat) (hk:k+2 < s.length):((Yy s k 3 4 (bat s k % 8*262144+bat s (k+1) % 64*4096+bat s (k+2) % 64*64)||(if bat s k % 8*262144+bat s (k+1) % 64*4096+bat s (k+2) % 64*64 < YO 4 then Yy s k 3 4 (YO 4) else Yy s k 3 4 (bat s k % 8*262144+bat s (k+1) % 64*4096+bat s (k+2) % 64*64)))||
  (Yy s k 3 4 (bat s k % 8*262144+bat s (k+1) % 64*4096+bat s (k+2) % 64*64+63)||(if bat s k % 8*262144+bat s (k+1) % 64*4096+bat s (k+2) % 64*64+63 < YO 4 then Yy s k 3 4 (YO 4) else Yy s k 3 4 (bat s k % 8*262144+bat s (k+1) % 64*4096+bat s (k+2) % 64*64+63))))=
  decide ((240<=bat s k/\bat s k<=244/\bat s (k+1) / 64=2/\(bat s k=240->144<=bat s (k+1))/\(bat s k=244->bat s (k+1)<=143))/\bat s (k+2) / 64=2):=by
 have hb0:=Yt s k
 have hb1:=Yt s (k+1)
 have hb2:=Yt s (k+2)
 have hl:YO 4=65536:=rfl
 rw [hl,Bool.eq_iff_iff,or4,Yxu]
 have t1:=YLb s k (bat s k % 8*262144+bat s (k+1) % 64*4096+bat s (k+2) % 64*64) hk
 have t2:=YLb s k (bat s k % 8*262144+bat s (k+1) % 64*4096+bat s (k+2) % 64*64+63) hk
 have t3:=YLb s k 65536 hk
 constructor
 ·rintro (h | h | h | h)
  ·have:=t1.1 h; omega
  ·split at h
   ·have:=t3.1 h; omega
   ·have:=t1.1 h; omega
  ·have:=t2.1 h; omega
  ·split at h
   ·have:=t3.1 h; omega
   ·have:=t2.1 h; omega
 ·intro h
  exact .inl (t1.2 (by omega))
end Go.Abs
namespace Go.Abs
theorem YN6 (s:List UInt8) (k n w i:Nat) (lo hi:Int) (hs:s.length<=1073741824) (hk:k+i < s.length) (hiw:i < w) (hin:i < n) (hi4:i<=4) (l0:0<=lo/\lo < 32768) (h0:0<=hi/\hi < 32768):
  Z57 s (k:Int) (n:Int) (w:Int) lo hi (i:Int)=Z57 s (k:Int) (n:Int) (w:Int) (lo*64+bat s (k+i) % 64) (hi*64+bat s (k+i) % 64) ((i+1:Nat):Int):=by
 have hb:=Yt s (k+i)
 have hw:IntKind.i64.wrap ((k:Int)+(i:Int))=((k+i:Nat):Int):=by rw [w64 (by omega) (by omega)]; omega
 have hw1:IntKind.i64.wrap ((i:Int)+1)=((i+1:Nat):Int):=by rw [w64 (by omega) (by omega)]; omega
 rw [YZ8,Yg,Yeu hiw,Ygu,Yg,Yeu hin,Ygu,hw,hw1,Yj,Yeu hk,Ygu,Ygu,Ymu,show (((s.getD (k+i) 0).toNat:Nat):Int)=bat s (k+i) from rfl,m63 hb,
  w32 (x:=bat s (k+i) % 64) (by omega) (by omega),w32 (x:=lo*64) (by omega) (by omega),w32 (x:=hi*64) (by omega) (by omega),w32 (x:=lo*64+bat s (k+i) % 64) (by omega) (by omega),w32 (x:=hi*64+bat s (k+i) % 64) (by omega) (by omega)]
theorem YO6 (s:List UInt8) (k n w i:Nat) (lo hi:Int) (hiw:i < w) (hin:¬i < n) (hi4:i<=4) (l0:0<=lo/\lo < 32768) (h0:0<=hi/\hi < 32768):
  Z57 s (k:Int) (n:Int) (w:Int) lo hi (i:Int)=Z57 s (k:Int) (n:Int) (w:Int) (lo*64) (hi*64+63) ((i+1:Nat):Int):=by
 have hw1:IntKind.i64.wrap ((i:Int)+1)=((i+1:Nat):Int):=by rw [w64 (by omega) (by omega)]; omega
 rw [YZ8,Yg,Yeu hiw,Ygu,Yg,Yfu hin,Yhu,hw1,w32 (x:=lo*64) (by omega) (by omega),w32 (x:=hi*64) (by omega) (by omega),w32 (x:=hi*64+63) (by omega) (by omega)]
theorem bend (s:List UInt8) (k n w:Nat) (lo hi:Int) (hs:s.length<=1073741824) (hk:k<=s.length) (hw:w=3\/w=4) (hn:n<=w) (hl:lo < 2097152) (hh:hi < 2097152) (x:Bool) (hX:Z47 s (k:Int) (n:Int) ((w+1:Nat):Int)=some x):
  Z57 s (k:Int) (n:Int) (w:Int) lo hi (w:Int)=some (((Yy s k n w lo||(if lo < YO w then Yy s k n w (YO w) else Yy s k n w lo))||(Yy s k n w hi||(if hi < YO w then Yy s k n w (YO w) else Yy s k n w hi)))||x):=by
 have hw1:IntKind.i64.wrap ((w:Int)+1)=((w+1:Nat):Int):=by rw [w64 (by omega) (by omega)]; omega
 rw [YZ8,Yg,Yfu (YGu _),Yhu,YPe s k n w lo hs hk hw hn hl,Yiu,YPe s k n w hi hs hk hw hn hh,Yiu,hw1,hX]
 generalize (Yy s k n w lo||(if lo < YO w then Yy s k n w (YO w) else Yy s k n w lo))=A
 generalize (Yy s k n w hi||(if hi < YO w then Yy s k n w (YO w) else Yy s k n w hi))=B
 cases A <;> cases B <;> rfl
theorem Ybm (s:List UInt8) (k n:Nat) (hk:k < s.length):Z47 s (k:Int) (n:Int) ((3:Nat):Int)=Z57 s (k:Int) (n:Int) ((3:Nat):Int) (bat s k % 16) (bat s k % 16) ((1:Nat):Int):=by
 have hb:=Yt s k
 rw [YY8,show decide (((3:Nat):Int)<=4)=true from rfl,Ygu,Yj,Yeu hk,Ygu,show Ya ((3:Nat):Int) ([(0:Int),(127:Int),(31:Int),(15:Int),(7:Int)]:List Int).length=true from rfl,Ygu,Ymu,show (((s.getD k 0).toNat:Nat):Int)=bat s k from rfl,
  show List.getD ([(0:Int),(127:Int),(31:Int),(15:Int),(7:Int)]:List Int) (Int.toNat ((3:Nat):Int)) (Ty.zero (.int .u8))=15 from rfl,m15 hb,w32 (by omega) (by omega)]
 rfl
theorem Yae (s:List UInt8) (k n:Nat) (hk:k < s.length):Z47 s (k:Int) (n:Int) ((4:Nat):Int)=Z57 s (k:Int) (n:Int) ((4:Nat):Int) (bat s k % 8) (bat s k % 8) ((1:Nat):Int):=by
 have hb:=Yt s k
 rw [YY8,show decide (((4:Nat):Int)<=4)=true from rfl,Ygu,Yj,Yeu hk,Ygu,show Ya ((4:Nat):Int) ([(0:Int),(127:Int),(31:Int),(15:Int),(7:Int)]:List Int).length=true from rfl,Ygu,Ymu,show (((s.getD k 0).toNat:Nat):Int)=bat s k from rfl,
  show List.getD ([(0:Int),(127:Int),(31:Int),(15:Int),(7:Int)]:List Int) (Int.toNat ((4:Nat):Int)) (Ty.zero (.int .u8))=7 from rfl,m7 hb,w32 (by omega) (by omega)]
 rfl
theorem Ybe (s:List UInt8) (k n:Nat):Z47 s (k:Int) (n:Int) ((5:Nat):Int)=some false:=by
 rw [YY8,show decide (((5:Nat):Int)<=4)=false from rfl,Yhu]
instance (s:List UInt8) (k:Nat):Decidable (Yq2 s k):=by unfold Yq2; infer_instance
theorem Yau {s:List UInt8} {k:Nat} (h:(Yk s k).2.2=true):(Yk s k).2.1=1:=by
 by_cases q1:ut1 s k=true
 ·have e:Yk s k=(bat s k,(1,false)):=by unfold Yk; rw [Yku q1]
  rw [e]
 by_cases q2:ut2 s k=true
 ·have e:Yk s k=(c2 s k,(2,false)):=by unfold Yk; rw [Yju q1,Yku q2]
  rw [e] at h; cases h
 by_cases q3:ut3 s k=true
 ·have e:Yk s k=(c3 s k,(3,false)):=by unfold Yk; rw [Yju q1,Yju q2,Yku q3]
  rw [e] at h; cases h
 by_cases q4:ut4 s k=true
 ·have e:Yk s k=(c4 s k,(4,false)):=by unfold Yk; rw [Yju q1,Yju q2,Yju q3,Yku q4]
  rw [e] at h; cases h
 ·have e:Yk s k=(65533,(1,true)):=by unfold Yk; rw [Yju q1,Yju q2,Yju q3,Yju q4]
  rw [e]
theorem Y8m (s:List UInt8) (k:Nat) (hs:s.length<=1073741824) (hk:k < s.length):∃ b,Ye7 (s,(k:Int),2)=some b/\(b=true↔Yq2 s k):=by
 rw [YOe]
 dsimp only
 rw [Ywc,w64 (by omega) (by omega)]
 by_cases c:k+1 < s.length
 ·have hb0:=Yt s k
  have hb1:=Yt s (k+1)
  have s4:Z47 s (k:Int) ((2:Nat):Int) ((4:Nat):Int)=Z57 s (k:Int) ((2:Nat):Int) ((4:Nat):Int) (bat s k % 8*262144+bat s (k+1) % 64*4096) (bat s k % 8*262144+bat s (k+1) % 64*4096+4095) ((4:Nat):Int):=by
   rw [Yae s k 2 hk,YN6 s k 2 4 1 _ _ hs (by omega) (by omega) (by omega) (by omega) (by omega) (by omega),YO6 s k 2 4 2 _ _ (by omega) (by omega) (by omega) (by omega) (by omega),YO6 s k 2 4 3 _ _ (by omega) (by omega) (by omega) (by omega) (by omega),
    show (bat s k % 8*64+bat s (k+1) % 64)*64*64=bat s k % 8*262144+bat s (k+1) % 64*4096 from by omega,show ((bat s k % 8*64+bat s (k+1) % 64)*64+63)*64+63=bat s k % 8*262144+bat s (k+1) % 64*4096+4095 from by omega]
  have e4:=s4.trans (bend s k 2 4 _ _ hs (by omega) (.inr rfl) (by omega) (by omega) (by omega) false (Ybe s k 2))
  have s3:Z47 s (k:Int) ((2:Nat):Int) ((3:Nat):Int)=Z57 s (k:Int) ((2:Nat):Int) ((3:Nat):Int) (bat s k % 16*4096+bat s (k+1) % 64*64) (bat s k % 16*4096+bat s (k+1) % 64*64+63) ((3:Nat):Int):=by
   rw [Ybm s k 2 hk,YN6 s k 2 3 1 _ _ hs (by omega) (by omega) (by omega) (by omega) (by omega) (by omega),YO6 s k 2 3 2 _ _ (by omega) (by omega) (by omega) (by omega) (by omega),
    show (bat s k % 16*64+bat s (k+1) % 64)*64=bat s k % 16*4096+bat s (k+1) % 64*64 from by omega]
  have e3:=s3.trans (bend s k 2 3 _ _ hs (by omega) (.inl rfl) (by omega) (by omega) (by omega) _ e4)
  rw [low3 s k c,low4 s k c] at e3
  rw [show decide ((k:Int)+2 > (s.length:Int))=false from Yfu (by omega),Yhu,show IntKind.i64.wrap ((2:Int)+1)=((3:Nat):Int) from a3]
  refine ⟨_,e3,?_⟩
  unfold Yq2
  rw [Bool.or_false,Bool.or_eq_true,Yxu,Yxu,<-Ybt (bat s k) (bat s (k+1)) hb0]
  exact ⟨fun h=> ⟨c,h⟩,fun h=> h.2⟩
 ·rw [show decide ((k:Int)+2 > (s.length:Int))=true from Yeu (by omega),Ygu]
  refine ⟨false,rfl,?_⟩
  unfold Yq2
  constructor
  ·intro h; cases h
  ·intro h; exact absurd h.1 c
theorem Y9m (s:List UInt8) (k:Nat) (hs:s.length<=1073741824) (hk:k < s.length):∃ b,Ye7 (s,(k:Int),3)=some b/\(b=true↔(Yq2 s k/\k+2 < s.length/\(secI (bat s k)).2.2=4/\YT4 (bat s (k+2))=true)):=by
 rw [YOe]
 dsimp only
 rw [Ywc,w64 (by omega) (by omega)]
 by_cases c:k+2 < s.length
 ·have hb0:=Yt s k
  have hb1:=Yt s (k+1)
  have hb2:=Yt s (k+2)
  have s4:Z47 s (k:Int) ((3:Nat):Int) ((4:Nat):Int)=Z57 s (k:Int) ((3:Nat):Int) ((4:Nat):Int) (bat s k % 8*262144+bat s (k+1) % 64*4096+bat s (k+2) % 64*64) (bat s k % 8*262144+bat s (k+1) % 64*4096+bat s (k+2) % 64*64+63) ((4:Nat):Int):=by
   rw [Yae s k 3 hk,YN6 s k 3 4 1 _ _ hs (by omega) (by omega) (by omega) (by omega) (by omega) (by omega),YN6 s k 3 4 2 _ _ hs (by omega) (by omega) (by omega) (by omega) (by omega) (by omega),YO6 s k 3 4 3 _ _ (by omega) (by omega) (by omega) (by omega) (by omega),
    show ((bat s k % 8*64+bat s (k+1) % 64)*64+bat s (k+2) % 64)*64=bat s k % 8*262144+bat s (k+1) % 64*4096+bat s (k+2) % 64*64 from by omega]
  have e4:=s4.trans (bend s k 3 4 _ _ hs (by omega) (.inr rfl) (by omega) (by omega) (by omega) false (Ybe s k 3))
  rw [Ytr s k c] at e4
  rw [show decide ((k:Int)+3 > (s.length:Int))=false from Yfu (by omega),Yhu,show IntKind.i64.wrap ((3:Int)+1)=((4:Nat):Int) from by kernel_rfl]
  refine ⟨_,e4,?_⟩
  unfold Yq2 YT4
  rw [Bool.or_false,Yxu,Yxu,<-Yct (bat s k) (bat s (k+1)) hb0]
  constructor
  ·rintro ⟨⟨h1,h2⟩,h3⟩
   exact ⟨⟨by omega,by omega,h2⟩,c,h1,by omega⟩
  ·rintro ⟨⟨h1,h2,h3⟩,h4,h5,h6⟩
   exact ⟨⟨h5,h3⟩,by omega⟩
 ·rw [show decide ((k:Int)+3 > (s.length:Int))=true from Yeu (by omega),Ygu]
  refine ⟨false,rfl,?_⟩
  constructor
  ·intro h; cases h
  ·intro h; exact absurd h.2.1 c
theorem Yfc (s:List UInt8) (hs:s.length<=1073741824):∀ (n k:Nat) (r:List D181),s.length<=k+n->k<=s.length->r.length+n<=1073741824->∃ l:List D181,Zf6 s (k:Int) r=some (r++l)/\l.map (·.2.2.1)=(wpcs s n k).map (·.2.1)/\l.length<=n
 | 0,k,r,hn,hk,hr=> by
  refine ⟨[],?_,rfl,Nat.le_refl _⟩
  rw [Y19,Yg,Yfu (by omega),Yhu,YHu]
 | n+1,k,r,hn,hk,hr=> by
  by_cases c:k < s.length
  ·have hw:=Yvi s k c
   have hwd:=Y92 s k c
   have hwrong:(Yk s k).2.2=true->(Yk s k).2.1=1/\wwd s k=if Yq2 s k then (if k+2 < s.length/\(secI (bat s k)).2.2=4/\YT4 (bat s (k+2))=true then 3 else 2) else 1:=by
    intro hwr
    refine ⟨Yau hwr,?_⟩
    unfold wwd
    rw [Yku hwr]
    unfold webW Yq2
    rfl
   have hright:(Yk s k).2.2=false->(Yk s k).2.1=((wwd s k:Nat):Int):=by
    intro hf
    unfold wwd
    rw [Yju (by rw [hf]; exact Bool.false_ne_true)]
    exact hwd.2.2.2.symm
   obtain ⟨b3,q1,q2⟩:=Y9m s k hs c
   obtain ⟨b2,q3,q4⟩:=Y8m s k hs c
   have hm:(wpcs s (n+1) k).map (·.2.1)=(Yk s k).1::(wpcs s n (k+wwd s k)).map (·.2.1):=by rw [wpcs,Yku c,YBu]
   rw [Y19,Yg,Yeu c,Ygu,YIe s k hs c,Yiu,hm]
   generalize Yk s k=ra at hwrong hright ⊢
   obtain ⟨ru,w0,wr⟩:=ra
   dsimp only at hwrong hright ⊢
   have fin:∀ d:D181,d.2.1=((wwd s k:Nat):Int)->d.2.2.1=ru->∃ l:List D181,Zh6 s (k:Int) d r=some (r++l)/\l.map (·.2.2.1)=ru::(wpcs s n (k+wwd s k)).map (·.2.1)/\l.length<=n+1:=by
    intro d h1 h2
    obtain ⟨l,g1,g2,g3⟩:=Yfc s hs n (k+wwd s k) (r++[d]) (by omega) (by omega) (by simp only [You,Ynu,Ysu]; omega)
    refine ⟨d::l,?_,?_,by simp only [Ynu]; omega⟩
    ·rw [Yhk,show decide (r.length+[d].length<=lim)=true from Yeu (by simp only [lim,Ynu,Ysu]; omega),Ygu,h1,w64 (by omega) (by omega),show (k:Int)+((wwd s k:Nat):Int)=((k+wwd s k:Nat):Int) from by omega,g1,Ypu]; rfl
    ·rw [YBu,g2,h2]
   cases wr with
   | true=>
    obtain ⟨hone,hwebW⟩:=hwrong rfl
    rw [Ygu,Y29,show decide ((3:Int) > 1)=true from rfl,Ygu,q1,Yiu]
    cases hb3:b3 with
    | true=>
     have h:=q2.1 hb3
     rw [Ygu]
     exact fin _ (by rw [hwebW,Yku h.1,Yku h.2]; rfl) rfl
    | false=>
     have hn3:¬(Yq2 s k/\k+2 < s.length/\(secI (bat s k)).2.2=4/\YT4 (bat s (k+2))=true):=fun e=> by rw [q2.2 e] at hb3; cases hb3
     rw [Yhu,show IntKind.i64.wrap ((3:Int) - 1)=2 from k3,Y29,show decide ((2:Int) > 1)=true from rfl,Ygu,q3,Yiu]
     cases hb2:b2 with
     | true=>
      have h:=q4.1 hb2
      rw [Ygu]
      exact fin _ (by rw [hwebW,Yku h,Yju (fun e=> hn3 ⟨h,e⟩)]; rfl) rfl
     | false=>
      have hn2:¬Yq2 s k:=fun e=> by rw [q4.2 e] at hb2; cases hb2
      rw [Yhu,show IntKind.i64.wrap ((2:Int) - 1)=1 from k2,Y29,show decide ((1:Int) > 1)=false from rfl,Yhu]
      exact fin _ (by rw [hwebW,Yju hn2]; exact hone) rfl
   | false=>
    rw [Yhu]
    exact fin _ (hright rfl) rfl
  ·refine ⟨[],?_,?_,by simp⟩
   ·rw [Y19,Yg,Yfu c,Yhu,YHu]
   ·rw [wpcs,Yju c]; rfl
theorem Yti (l:List D181) (hl:l.length<=1000000000) (hs:YP (l.map (·.2.2.1))):∀ (n i:Nat) (r:List Int),i+n=l.length->r.length<=4*i->Zj6 l (i:Int) r=some (Yn (r++YL1 ((l.drop i).map (·.2.2.1))))
 | 0,i,r,h,hr=> by
  have:i=l.length:=by omega
  subst this
  rw [Ygd,Yg,Yfu (YGu _),Yhu,YUu]; simp [YL1]
 | n+1,i,r,h,hr=> by
  have hi:i < l.length:=by omega
  have hw:IntKind.i64.wrap ((i:Int)+1)=((i+1:Nat):Int):=by rw [w64 (by omega) (by omega)]; omega
  have hg:List.getD l (Int.toNat (i:Int)) (Ty.zero T181)=l[i]:=by
   rw [Ymu,Yvu,Ywu hi]; rfl
  have hsc:=hs _ (List.mem_map_of_mem (f:=fun x:D181=> x.2.2.1) (List.getElem_mem hi))
  have hr2:=YE2 hsc
  have hb:=Y54 l[i].2.2.1
  rw [Ygd,Yg,Yeu hi,Ygu,Yj,Yeu hi,Ygu,hg,Y87 _ hr2.1 (by omega),Yiu,
   show decide (r.length+(Yu l[i].2.2.1).length<=lim)=true from Yeu (by simp only [lim]; omega),Ygu,hw,Yti l hl hs n (i+1) _ (by omega) (by rw [You]; omega),Yru hi,YBu]
  simp only [YL1,List.flatMap_cons,Ypu]
theorem YLe (s:List UInt8) (hs:s.length<=1000000000):Yd7 s=some (YG1 s):=by
 obtain ⟨l,h1,h2,h3⟩:=Yfc s (by omega) s.length 0 [] (by omega) (by omega) (by simp only [Ysu]; omega)
 rw [show ((0:Nat):Int)=0 from rfl,YIu] at h1
 have hm:l.map (·.2.2.1)=YZ3 s:=h2
 have hw:=Yti l (by omega) (by rw [hm]; exact Y6u s) l.length 0 [] (by omega) (by simp)
 rw [show ((0:Nat):Int)=0 from rfl,YZu,YIu,hm] at hw
 rw [YVn,Yol,YWn,Y6k,h1,Yiu,Y1o,Ynk,hw]
 rfl
end Go.Abs
namespace Go.Abs
theorem Y0f (b:Int) (h0:0<=b) (h1:b<=255):YN4 b=some (nib b):=by
 rw [Ypo,YFj]
 unfold nib
 have hc:b < 48\/(48<=b/\b<=57)\/(58<=b/\b<=64)\/(65<=b/\b<=70)\/(71<=b/\b<=96)\/(97<=b/\b<=102)\/103<=b:=by omega
 rcases hc with h | h | h | h | h | h | h
 ·rw [show decide (b>=48)=false from Yfu (by omega),show decide (b>=97)=false from Yfu (by omega),show decide (b>=65)=false from Yfu (by omega),Yhu,Yhu,Yhu]
  repeat rw [Yju (by omega)]
 ·rw [show decide (b>=48)=true from Yeu (by omega),show decide (b<=57)=true from Yeu (by omega),Ygu,Ygu,w8 (x:=b - 48) (by omega) (by omega),w64 (x:=b - 48) (by omega) (by omega),Yku (by omega)]
 ·rw [show decide (b>=48)=true from Yeu (by omega),show decide (b<=57)=false from Yfu (by omega),show decide (b>=97)=false from Yfu (by omega),show decide (b>=65)=false from Yfu (by omega),Ygu,Yhu,Yhu,Yhu]
  repeat rw [Yju (by omega)]
 ·rw [show decide (b>=48)=true from Yeu (by omega),show decide (b<=57)=false from Yfu (by omega),show decide (b>=97)=false from Yfu (by omega),show decide (b>=65)=true from Yeu (by omega),show decide (b<=70)=true from Yeu (by omega),Ygu,Yhu,Yhu,Ygu,Ygu,w8 (x:=b - 65) (by omega) (by omega),w64 (x:=b - 65) (by omega) (by omega),w64 (by omega) (by omega)]
  first | (rw [Yju (by omega),Yju (by omega),Yku (by omega)]; congr 1; omega) | (rw [Yju (by omega),Yju (by omega),Yku (by omega)])
 ·rw [show decide (b>=48)=true from Yeu (by omega),show decide (b<=57)=false from Yfu (by omega),show decide (b>=97)=false from Yfu (by omega),show decide (b>=65)=true from Yeu (by omega),show decide (b<=70)=false from Yfu (by omega),Ygu,Yhu,Yhu,Ygu,Yhu]
  repeat rw [Yju (by omega)]
 ·rw [show decide (b>=48)=true from Yeu (by omega),show decide (b<=57)=false from Yfu (by omega),show decide (b>=97)=true from Yeu (by omega),show decide (b<=102)=true from Yeu (by omega),Ygu,Yhu,Ygu,Ygu,w8 (x:=b - 97) (by omega) (by omega),w64 (x:=b - 97) (by omega) (by omega),w64 (by omega) (by omega)]
  first | (rw [Yju (by omega),Yku (by omega)]; congr 1; omega) | (rw [Yju (by omega),Yku (by omega)])
 ·rw [show decide (b>=48)=true from Yeu (by omega),show decide (b<=57)=false from Yfu (by omega),show decide (b>=97)=true from Yeu (by omega),show decide (b<=102)=false from Yfu (by omega),show decide (b>=65)=true from Yeu (by omega),show decide (b<=70)=false from Yfu (by omega),Ygu,Yhu,Ygu,Yhu,Ygu,Yhu]
  repeat rw [Yju (by omega)]
theorem Yuo (s:List UInt8) (k:Nat) (hs:s.length<=1073741824) (hk:k < s.length):YT9 (s,(k:Int))=some (trip s k):=by
 have e1:IntKind.i64.wrap ((k:Int)+1)=((k+1:Nat):Int):=by rw [w64 (by omega) (by omega)]; omega
 have e2:IntKind.i64.wrap ((k:Int)+2)=((k+2:Nat):Int):=by rw [w64 (by omega) (by omega)]; omega
 have b1:=Yt s (k+1)
 have b2:=Yt s (k+2)
 have n1:=Yd3 (bat s (k+1))
 have n2:=Yd3 (bat s (k+2))
 rw [Yto,YKk]
 simp only
 rw [e1,e2]
 unfold trip
 by_cases a:k+2 < s.length
 ·rw [show decide (((k+2:Nat):Int)>=(s.length:Int))=false from Yfu (by omega),Yhu,Yj,Yeu hk,Ygu,Ymu,Ymu,Ymu,
   show (((s.getD k 0).toNat:Nat):Int)=bat s k from rfl,show (((s.getD (k+1) 0).toNat:Nat):Int)=bat s (k+1) from rfl,show (((s.getD (k+2) 0).toNat:Nat):Int)=bat s (k+2) from rfl]
  by_cases b:bat s k=37
  ·rw [show (bat s k !=37)=false from by simpa using b,Yhu,Yj,Yeu (show k+1 < s.length by omega),Ygu,Yj,Yeu a,Y0f _ b1.1 b1.2,Yiu,Y0f _ b2.1 b2.2]
   simp only [Yiu,Ygu]
   by_cases c:nib (bat s (k+1)) < 0
   ·rw [Yeu c,Ygu,Yju (by omega)]
   ·rw [Yfu c,Yhu]
    by_cases d:nib (bat s (k+2)) < 0
    ·rw [Yeu d,Ygu,Yju (by omega)]
    ·rw [Yfu d,Yhu,Yku (by omega),w64 (x:=16*nib (bat s (k+1))) (by omega) (by omega),w64 (by omega) (by omega)]
     congr 1; omega
  ·rw [show (bat s k !=37)=true from by simpa using b,Ygu,Yju (fun h=> b h.2.1)]
 ·rw [show decide (((k+2:Nat):Int)>=(s.length:Int))=true from Yeu (by omega),Ygu,Yju (fun h=> a h.1)]
theorem YR8 (s:List UInt8) (hs:s.length<=1073741824):∀ (n k:Nat) (r:List Int),s.length<=k+n->k<=s.length->r.length+n<=1073741824->Zx5 s (k:Int) r=some (r++pdec s n k)
 | 0,k,r,hn,hk,hr=> by
  rw [YJd,Yg,Yfu (by omega),Yhu,pdec,YHu]
 | n+1,k,r,hn,hk,hr=> by
  rw [YJd,Yg]
  unfold pdec
  by_cases c:k < s.length
  ·have ht:=Ymi s k
   rw [Yeu c,Ygu,Yku c,Yuo s k hs c,Yiu]
   by_cases d:0<=trip s k
   ·have hk2:k+2 < s.length:=by
     unfold trip at d
     split at d
     ·rename_i h; exact h.1
     ·omega
    rw [show decide (trip s k>=0)=true from Yeu d,Ygu,Yku d,w8 d ht.2,show decide (r.length+[trip s k].length<=lim)=true from Yeu (by simp [lim]; omega),Ygu,
     w64 (x:=(k:Int)+2) (by omega) (by omega),w64 (by omega) (by omega),show (k:Int)+2+1=((k+3:Nat):Int) from by omega,YR8 s hs n (k+3) _ (by omega) (by omega) (by simp; omega),Ypu]
    rfl
   ·rw [show decide (trip s k>=0)=false from Yfu d,Yhu,Yju d,Yj,Yeu c,Ygu,Ymu,show (((s.getD k 0).toNat:Nat):Int)=bat s k from rfl,
     show decide (r.length+[bat s k].length<=lim)=true from Yeu (by simp [lim]; omega),Ygu,w64 (by omega) (by omega),show (k:Int)+1=((k+1:Nat):Int) from by omega,YR8 s hs n (k+1) _ (by omega) (by omega) (by simp; omega),Ypu]
    rfl
  ·rw [Yfu c,Yhu,Yju c,YHu]
theorem Yjo (s:List UInt8) (hs:s.length<=1000000000):YI5 s=some (YM s):=by
 rw [Yio,Yrk,Yko,YBl]
 have h:=YR8 s (by omega) s.length 0 [] (by omega) (by omega) (by simp; omega)
 have hl:=Yd6 s s.length 0
 rw [show ((0:Nat):Int)=0 from rfl] at h
 rw [h,Yiu,YIu,YLe _ (by unfold Yn; rw [YVu]; omega)]
 rfl
theorem YDg (c:Int) (l:List UInt8) (hl:l.length<=1000):∀ (n i:Nat),i+n=l.length->∃ b,Z77 c l (i:Int)=some b
 | 0,i,h=> by
  have:i=l.length:=by omega
  subst this
  rw [YFc,Yg,Yfu (YGu _),Yhu]; exact ⟨_,rfl⟩
 | n+1,i,h=> by
  have hi:i < l.length:=by omega
  have hw:IntKind.i64.wrap ((i:Int)+1)=((i+1:Nat):Int):=by rw [w64 (by omega) (by omega)]; omega
  obtain ⟨b,hb⟩:=YDg c l hl n (i+1) (by omega)
  rw [YFc,Yg,Yeu hi,Ygu,Yj,Yeu hi,Ygu,hw,hb]
  cases ((((UInt8.toNat (List.getD l (Int.toNat (i:Int)) (0:UInt8))):Nat):Int)==c) with
  | true=> exact ⟨_,rfl⟩
  | false=> exact ⟨_,rfl⟩
theorem Ya5 (c:Int) (l:List UInt8) (hl:l.length<=1000):∃ b,YJ1 (c,l)=some b:=by
 rw [Yqo,Yrj]
 exact YDg c l hl l.length 0 (by omega)
theorem YZe (c:Int) (h0:0<=c) (h1:c<=255):Ym7 (1,c)=some (decide (¬(32<=c/\c<=126)),0):=by
 rw [Yoo,Yzk]
 dsimp only
 rw [show decide ((1:Int) < 1)=false from rfl,Yhu,show decide ((1:Int) > 8)=false from rfl,Yhu]
 by_cases a:c < 32
 ·rw [Yeu a,Ygu,Yeu (by omega)]; rfl
 rw [Yfu a,Yhu]
 by_cases b:c > 126
 ·rw [Yeu b,Yeu (show ¬(32<=c/\c<=126) by omega)]; rfl
 obtain ⟨y1,e1⟩:=Ya5 c [32,34,60,62,96] (by decide)
 obtain ⟨y2,e2⟩:=Ya5 c [32,34,35,60,62] (by decide)
 obtain ⟨y3,e3⟩:=Ya5 c [63,94,96,123,125] (by decide)
 obtain ⟨y4,e4⟩:=Ya5 c [47,58,59,61,64,91,92,93,124] (by decide)
 obtain ⟨y5,e5⟩:=Ya5 c [36,37,38,43,44] (by decide)
 obtain ⟨y6,e6⟩:=Ya5 c [33,39,40,41,126] (by decide)
 rw [Yfu b,Yfu (show ¬¬(32<=c/\c<=126) by omega),e1,e2,e3,e4,e5,e6]
 cases y1 <;> cases y2 <;> cases y3 <;> cases y4 <;> cases y5 <;> cases y6 <;> rfl
def oneX (x:Int):Option (List UInt8):=
  bif (Yi (some (IntKind.wrap IntKind.u8 (Int.tdiv x (16:Int)))) (some (IntKind.wrap IntKind.u8 ((IntKind.wrap IntKind.u8 (Int.tdiv x (16:Int)))+(1:Int)))) (List.length ([(48:UInt8),(49:UInt8),(50:UInt8),(51:UInt8),(52:UInt8),(53:UInt8),(54:UInt8),(55:UInt8),(56:UInt8),(57:UInt8),(65:UInt8),(66:UInt8),(67:UInt8),(68:UInt8),(69:UInt8),(70:UInt8)]:List UInt8))) then
   bif (decide (((List.length ([(37:UInt8)]:List UInt8))+(List.length (Ym (some (IntKind.wrap IntKind.u8 (Int.tdiv x (16:Int)))) (some (IntKind.wrap IntKind.u8 ((IntKind.wrap IntKind.u8 (Int.tdiv x (16:Int)))+(1:Int)))) ([(48:UInt8),(49:UInt8),(50:UInt8),(51:UInt8),(52:UInt8),(53:UInt8),(54:UInt8),(55:UInt8),(56:UInt8),(57:UInt8),(65:UInt8),(66:UInt8),(67:UInt8),(68:UInt8),(69:UInt8),(70:UInt8)]:List UInt8))))<=(2 ^ 62))) then
    bif (Yi (some (Int.tmod x (16:Int))) (some (IntKind.wrap IntKind.u8 ((Int.tmod x (16:Int))+(1:Int)))) (List.length ([(48:UInt8),(49:UInt8),(50:UInt8),(51:UInt8),(52:UInt8),(53:UInt8),(54:UInt8),(55:UInt8),(56:UInt8),(57:UInt8),(65:UInt8),(66:UInt8),(67:UInt8),(68:UInt8),(69:UInt8),(70:UInt8)]:List UInt8))) then
     bif (decide (((List.length (([(37:UInt8)]:List UInt8)++(Ym (some (IntKind.wrap IntKind.u8 (Int.tdiv x (16:Int)))) (some (IntKind.wrap IntKind.u8 ((IntKind.wrap IntKind.u8 (Int.tdiv x (16:Int)))+(1:Int)))) ([(48:UInt8),(49:UInt8),(50:UInt8),(51:UInt8),(52:UInt8),(53:UInt8),(54:UInt8),(55:UInt8),(56:UInt8),(57:UInt8),(65:UInt8),(66:UInt8),(67:UInt8),(68:UInt8),(69:UInt8),(70:UInt8)]:List UInt8))))+(List.length (Ym (some (Int.tmod x (16:Int))) (some (IntKind.wrap IntKind.u8 ((Int.tmod x (16:Int))+(1:Int)))) ([(48:UInt8),(49:UInt8),(50:UInt8),(51:UInt8),(52:UInt8),(53:UInt8),(54:UInt8),(55:UInt8),(56:UInt8),(57:UInt8),(65:UInt8),(66:UInt8),(67:UInt8),(68:UInt8),(69:UInt8),(70:UInt8)]:List UInt8))))<=(2 ^ 62))) then
      some ((([(37:UInt8)]:List UInt8)++(Ym (some (IntKind.wrap IntKind.u8 (Int.tdiv x (16:Int)))) (some (IntKind.wrap IntKind.u8 ((IntKind.wrap IntKind.u8 (Int.tdiv x (16:Int)))+(1:Int)))) ([(48:UInt8),(49:UInt8),(50:UInt8),(51:UInt8),(52:UInt8),(53:UInt8),(54:UInt8),(55:UInt8),(56:UInt8),(57:UInt8),(65:UInt8),(66:UInt8),(67:UInt8),(68:UInt8),(69:UInt8),(70:UInt8)]:List UInt8)))++(Ym (some (Int.tmod x (16:Int))) (some (IntKind.wrap IntKind.u8 ((Int.tmod x (16:Int))+(1:Int)))) ([(48:UInt8),(49:UInt8),(50:UInt8),(51:UInt8),(52:UInt8),(53:UInt8),(54:UInt8),(55:UInt8),(56:UInt8),(57:UInt8),(65:UInt8),(66:UInt8),(67:UInt8),(68:UInt8),(69:UInt8),(70:UInt8)]:List UInt8)))
     else
      none
    else
     none
   else
    none
  else
   none
theorem YRr:(List.range 256).all (fun n=> oneX (n:Int)==some (Yn (esc (n:Int))))=true:=by kernel_rfl
theorem Yso (c:Int) (h0:0<=c) (h1:c<=255):YS9 c=some (Yn (esc c)):=by
 obtain ⟨n,rfl⟩:=Y6v h0
 have:=Y7v.1 (Y3v.1 YRr n (List.mem_range.2 (by omega)))
 rw [Yro,YEk]
 exact this
theorem YEt (a b:List Int):Yn (a++b)=Yn a++Yn b:=by unfold Yn; rw [List.map_append]
theorem Yec (b:List Int) (hb:∀ x∈b,0<=x/\x<=255) (hl:b.length<=1000000000):∀ (n i:Nat) (t:List UInt8),i+n=b.length->t.length<=3*i->Zv5 1 b t (i:Int)=some (t++Yn ((b.drop i).flatMap encB),0)
 | 0,i,t,h,ht=> by
  have:i=b.length:=by omega
  subst this
  rw [YEd,Yg,Yfu (YGu _),Yhu,YUu]
  show some (t,(0:Int))=some (t++[],0)
  rw [YHu]
 | n+1,i,t,h,ht=> by
  have hi:i < b.length:=by omega
  have hw:IntKind.i64.wrap ((i:Int)+1)=((i+1:Nat):Int):=by rw [w64 (by omega) (by omega)]; omega
  have hg:List.getD b (Int.toNat (i:Int)) (Ty.zero (.int .u8))=b[i]:=by
   rw [Ymu,Yvu,Ywu hi]; rfl
  have hx:=hb _ (List.getElem_mem hi)
  have hlen:=YUf b[i]
  have hso:(Yn (encB b[i])).length=(encB b[i]).length:=by unfold Yn; rw [YVu]
  have step:Zv5 1 b (t++Yn (encB b[i])) ((i+1:Nat):Int)=some (t++Yn ((b.drop i).flatMap encB),0):=by
   rw [Yec b hb hl n (i+1) _ (by omega) (by rw [You]; omega),Yru hi,List.flatMap_cons,YEt,Ypu]
  rw [YEd,Yg,Yeu hi,Ygu,Yj,Yeu hi,Ygu,hg,YZe _ hx.1 hx.2,Yiu,<-YUp b[i] hx.1 hx.2,hw]
  cases hc:ctlSet.getD b[i].toNat false with
  | true=>
   have e:encB b[i]=esc b[i]:=by unfold encB; rw [Yku hc]
   rw [e] at step hso
   rw [Ygu,Ygu,Yso _ hx.1 hx.2,Yiu,show decide (t.length+(Yn (esc b[i])).length<=2 ^ 62)=true from Yeu (by rw [hso,<-e]; omega),Ygu,step]
  | false=>
   have e:encB b[i]=[b[i]]:=by unfold encB; rw [Yju (by rw [hc]; simp)]
   rw [e] at step hso
   rw [Yhu,Ygu,show decide (t.length+(Yn [b[i]]).length<=2 ^ 62)=true from Yeu (by rw [hso]; simp only [Ynu,Ysu]; omega),Ygu,step]
theorem Ymo (s:List UInt8) (hs:s.length<=200000000):YJ5 (1,s)=some (Y22 s,0):=by
 have hl:=YXb s
 have hbl:(YL (YG1 s)).length=(YG1 s).length:=by unfold YL; rw [YVu]
 have hgo:=Yec (YL (YG1 s)) (fun x hx=> by
  unfold YL at hx
  obtain ⟨b,_,rfl⟩:=List.mem_map.1 hx
  exact YK2 b) (by omega) (YL (YG1 s)).length 0 [] (by omega) (by simp)
 rw [show ((0:Nat):Int)=0 from rfl,YIu,YZu] at hgo
 rw [Ylo,Ymk]
 dsimp only
 rw [YLe s (by omega),Yiu,Yno,Ysl]
 dsimp only
 rw [YZe 0 (by omega) (by omega),Yiu,show ((0:Int) !=0)=false from rfl,Yhu,hgo]
 rfl
end Go.Abs
