/- Part M2 of the proof: see the last text of the claim. No condition of its own. -/
import Derived.Test.YtddagflhafkbnaaGreatDoorM1
import Derived.Test.YtddagflhafkbnaaGreatDoorL6
set_option linter.all false
set_option autoImplicit false
namespace Go.Abs
def Yy (s:List UInt8) (k n width:Nat) (v:Int):Bool:=scal v&&(decide ((Yu v).length=width)&&atB s k ((Yu v).take n))
def YP (width:Nat):Int:=if width=3 then 2048 else 65536
theorem YPb (s:List UInt8) (k n width:Nat) (r v i:Int) (l:List Int) (hs:s.length<=1073741824) (hk:k<=s.length) (hn:n<=width) (X:Option Bool) (hX:Z54 s (k:Int) (n:Int) (width:Int) r (IntKind.i64.wrap (i+1)) l=X) (hv:v < 2097152):
  Z64 s (k:Int) (n:Int) (width:Int) r i v l=if Yy s k n width v=true then some true else X:=by
 rw [YMj,hX,YY6,Y9u]
 unfold Yy
 cases hsc:scal v with
 | false=> rw [Y8u,Bool.false_and,Yau (by simp)]
 | true=>
  have hr:=YC2 hsc
  rw [Y7u,YV6 v hr.1 hv,Y9u,Bool.true_and]
  by_cases a:(Yu v).length=width
  ·have hb:=YZ3 v
   rw [show (((Yu v).length:Int)==(width:Int))=true from beq_iff_eq.2 (by omega),Y7u,Y9u,show Yi none (some (n:Int)) (Yu v).length=true from by simp [Yi]; omega,Y7u,
    show List.drop (Option.getD (Option.map Int.toNat none) 0) (List.take (Option.getD (Option.map Int.toNat (some (n:Int))) (Yu v).length) (Yu v))=(Yu v).take n from by
     show List.drop 0 (List.take (Int.toNat (n:Int)) (Yu v))=_
     rw [List.drop_zero,Ydu],
    Y5f s k _ hs (by rw [Ypu]; omega) hk,Y9u,Y5u a,Bool.true_and]
   cases atB s k ((Yu v).take n) with
   | true=> rw [Y7u,Ybu rfl]
   | false=> rw [Y8u,Yau (by simp)]
  ·rw [show (((Yu v).length:Int)==(width:Int))=false from Yhu.2 (by omega),Y8u,Y6u a,Bool.false_and,Yau (by simp)]
theorem Y7f (s:List UInt8) (k n width:Nat) (r:Int) (hs:s.length<=1073741824) (hk:k<=s.length) (hw:width=3\/width=4) (hn:n<=width) (hr:r < 2097152):
  Y27 (s,(k:Int),(n:Int),(width:Int),r)=some (Yy s k n width r||(if r < YP width then Yy s k n width (YP width) else Yy s k n width r)):=by
 rw [Y7o]
 dsimp only
 rw [YDj,YY8,show decide ((0:Int) < 2)=true from rfl,Y7u,show ((0:Int)==1)=false from rfl,Y8u]
 have hl:([(0:Int),(0:Int),(128:Int),(2048:Int),(65536:Int)]:List Int).length=5:=rfl
 have hg:List.getD ([(0:Int),(0:Int),(128:Int),(2048:Int),(65536:Int)]:List Int) (Int.toNat (width:Int)) (Ty.zero (.int .i32))=YP width:=by
  rcases hw with rfl | rfl <;> rfl
 have hlw:YP width < 2097152:=by unfold YP; split <;> omega
 have two:Z54 s (k:Int) (n:Int) (width:Int) r (IntKind.i64.wrap ((1:Int)+1)) ([(0:Int),(0:Int),(128:Int),(2048:Int),(65536:Int)]:List Int)=some false:=by
  rw [show IntKind.i64.wrap ((1:Int)+1)=2 from a2,YY8,show decide ((2:Int) < 2)=false from rfl,Y8u]
 have one:Z54 s (k:Int) (n:Int) (width:Int) r (IntKind.i64.wrap ((0:Int)+1)) ([(0:Int),(0:Int),(128:Int),(2048:Int),(65536:Int)]:List Int)=some (if r < YP width then Yy s k n width (YP width) else Yy s k n width r):=by
  rw [show IntKind.i64.wrap ((0:Int)+1)=1 from a1,YY8,show decide ((1:Int) < 2)=true from rfl,Y7u,show ((1:Int)==1)=true from rfl,Y7u,hl,Yj,Y5u (by omega),Y7u,hg,Y7u]
  by_cases c:r < YP width
  ·rw [Y5u c,Y7u,YPb s k n width r _ 1 _ hs hk hn _ two hlw,Ybu c]
   cases Yy s k n width (YP width) <;> rfl
  ·rw [Y6u c,Y8u,YPb s k n width r _ 1 _ hs hk hn _ two hr,Yau c]
   cases Yy s k n width r <;> rfl
 rw [YPb s k n width r r 0 _ hs hk hn _ one hr]
 cases Yy s k n width r with
 | true=> rw [Ybu rfl,Yuu]
 | false=> rw [Yau (by simp),Ytu]
theorem Yoe {v:Int} (h0:2048<=v) (h1:v < 65536):Yu v=[224+v / 4096,128+v / 64 % 64,128+v % 64]:=by
 unfold Yu; rw [Yau (by omega),Yau (by omega),Ybu h1]
theorem YF6 {v:Int} (h0:65536<=v):Yu v=[240+v / 262144,128+v / 4096 % 64,128+v / 64 % 64,128+v % 64]:=by
 unfold Yu; rw [Yau (by omega),Yau (by omega),Yau (by omega)]
theorem YMb (s:List UInt8) (k:Nat) (v:Int) (hk:k+1 < s.length):Yy s k 2 3 v=true↔(2048<=v/\v < 65536/\¬(55296<=v/\v<=57343)/\bat s k=224+v / 4096/\bat s (k+1)=128+v / 64 % 64):=by
 unfold Yy
 rw [Ycu,Ycu,You,Ym3]
 constructor
 ·rintro ⟨h1,h2,h3⟩
  have h1:=of_decide_eq_true h1
  have hv:2048<=v/\v < 65536:=by
   split at h2
   ·omega
   ·split at h2
    ·omega
    ·split at h2
     ·omega
     ·omega
  rw [Yoe hv.1 hv.2] at h3
  simp only [List.take_succ_cons,List.take_zero,atB,Bool.and_true,Ycu,You] at h3
  exact ⟨hv.1,hv.2,h1.2.2,h3.1.2,h3.2.2⟩
 ·rintro ⟨h1,h2,h3,h4,h5⟩
  refine ⟨Y5u (by omega),by rw [Yau (by omega),Yau (by omega),Ybu h2],?_⟩
  rw [Yoe h1 h2]
  simp only [List.take_succ_cons,List.take_zero,atB,Bool.and_true,Ycu,You]
  exact ⟨⟨by omega,h4⟩,by omega,h5⟩
theorem YNb (s:List UInt8) (k:Nat) (v:Int) (hk:k+1 < s.length):Yy s k 2 4 v=true↔(65536<=v/\v<=1114111/\bat s k=240+v / 262144/\bat s (k+1)=128+v / 4096 % 64):=by
 unfold Yy
 rw [Ycu,Ycu,You,Ym3]
 constructor
 ·rintro ⟨h1,h2,h3⟩
  have h1:=of_decide_eq_true h1
  have hv:65536<=v:=by
   split at h2
   ·omega
   ·split at h2
    ·omega
    ·split at h2
     ·omega
     ·omega
  rw [YF6 hv] at h3
  simp only [List.take_succ_cons,List.take_zero,atB,Bool.and_true,Ycu,You] at h3
  exact ⟨hv,h1.2.1,h3.1.2,h3.2.2⟩
 ·rintro ⟨h1,h2,h4,h5⟩
  refine ⟨Y5u (by omega),by rw [Yau (by omega),Yau (by omega),Yau (by omega)],?_⟩
  rw [YF6 h1]
  simp only [List.take_succ_cons,List.take_zero,atB,Bool.and_true,Ycu,You]
  exact ⟨⟨by omega,h4⟩,by omega,h5⟩
theorem YOb (s:List UInt8) (k:Nat) (v:Int) (hk:k+2 < s.length):Yy s k 3 4 v=true↔(65536<=v/\v<=1114111/\bat s k=240+v / 262144/\bat s (k+1)=128+v / 4096 % 64/\bat s (k+2)=128+v / 64 % 64):=by
 unfold Yy
 rw [Ycu,Ycu,You,Ym3]
 constructor
 ·rintro ⟨h1,h2,h3⟩
  have h1:=of_decide_eq_true h1
  have hv:65536<=v:=by
   split at h2
   ·omega
   ·split at h2
    ·omega
    ·split at h2
     ·omega
     ·omega
  rw [YF6 hv] at h3
  simp only [List.take_succ_cons,List.take_zero,atB,Bool.and_true,Ycu,You] at h3
  exact ⟨hv,h1.2.1,h3.1.2,h3.2.1.2,h3.2.2.2⟩
 ·rintro ⟨h1,h2,h4,h5,h6⟩
  refine ⟨Y5u (by omega),by rw [Yau (by omega),Yau (by omega),Yau (by omega)],?_⟩
  rw [YF6 h1]
  simp only [List.take_succ_cons,List.take_zero,atB,Bool.and_true,Ycu,You]
  exact ⟨⟨by omega,h4⟩,⟨by omega,h5⟩,by omega,h6⟩
def Yq2 (s:List UInt8) (k:Nat):Prop:=k+1 < s.length/\3<=(secI (bat s k)).2.2/\(secI (bat s k)).1<=bat s (k+1)/\bat s (k+1)<=(secI (bat s k)).2.1
theorem Y9t (b:Int) (c:Int) (hb:0<=b/\b<=255):(3<=(secI b).2.2/\(secI b).1<=c/\c<=(secI b).2.1)↔((b / 16=14/\c / 64=2/\(b=224->160<=c)/\(b=237->c<=159))\/(240<=b/\b<=244/\c / 64=2/\(b=240->144<=c)/\(b=244->c<=143))):=by
 unfold secI
 repeat' split
 all_goals (dsimp only; omega)
theorem Yat (b:Int) (c:Int) (hb:0<=b/\b<=255):((secI b).2.2=4/\(secI b).1<=c/\c<=(secI b).2.1)↔(240<=b/\b<=244/\c / 64=2/\(b=240->144<=c)/\(b=244->c<=143)):=by
 unfold secI
 repeat' split
 all_goals (dsimp only; omega)
theorem or4 {a b c d:Bool}:(a||b||(c||d))=true↔(a=true\/b=true\/c=true\/d=true):=by
 cases a <;> cases b <;> cases c <;> cases d <;> simp
theorem low3 (s:List UInt8) (k:Nat) (hk:k+1 < s.length):((Yy s k 2 3 (bat s k % 16*4096+bat s (k+1) % 64*64)||(if bat s k % 16*4096+bat s (k+1) % 64*64 < YP 3 then Yy s k 2 3 (YP 3) else Yy s k 2 3 (bat s k % 16*4096+bat s (k+1) % 64*64)))||
  (Yy s k 2 3 (bat s k % 16*4096+bat s (k+1) % 64*64+63)||(if bat s k % 16*4096+bat s (k+1) % 64*64+63 < YP 3 then Yy s k 2 3 (YP 3) else Yy s k 2 3 (bat s k % 16*4096+bat s (k+1) % 64*64+63))))=
  decide (bat s k / 16=14/\bat s (k+1) / 64=2/\(bat s k=224->160<=bat s (k+1))/\(bat s k=237->bat s (k+1)<=159)):=by
 have hb0:=Yt s k
 have hb1:=Yt s (k+1)
 have hl:YP 3=2048:=rfl
 rw [hl,Bool.eq_iff_iff,or4,You]
 have t1:=YMb s k (bat s k % 16*4096+bat s (k+1) % 64*64) hk
 have t2:=YMb s k (bat s k % 16*4096+bat s (k+1) % 64*64+63) hk
 have t3:=YMb s k 2048 hk
 constructor
 ·rintro (h | h | h | h)
  ·have:=t1.1 h; omega
  ·split at h
   ·have:=t3.1 h; omega
   ·have:=t1.1 h; omega
  ·have:=t2.1 h; omega
  ·split at h
   ·have:=t3.1 h; omega
   ·have:=t2.1 h; omega
 ·intro h
  exact .inl (t1.2 (by omega))
theorem low4 (s:List UInt8) (k:Nat) (hk:k+1 < s.length):((Yy s k 2 4 (bat s k % 8*262144+bat s (k+1) % 64*4096)||(if bat s k % 8*262144+bat s (k+1) % 64*4096 < YP 4 then Yy s k 2 4 (YP 4) else Yy s k 2 4 (bat s k % 8*262144+bat s (k+1) % 64*4096)))||
  (Yy s k 2 4 (bat s k % 8*262144+bat s (k+1) % 64*4096+4095)||(if bat s k % 8*262144+bat s (k+1) % 64*4096+4095 < YP 4 then Yy s k 2 4 (YP 4) else Yy s k 2 4 (bat s k % 8*262144+bat s (k+1) % 64*4096+4095))))=
  decide (240<=bat s k/\bat s k<=244/\bat s (k+1) / 64=2/\(bat s k=240->144<=bat s (k+1))/\(bat s k=244->bat s (k+1)<=143)):=by
 have hb0:=Yt s k
 have hb1:=Yt s (k+1)
 have hl:YP 4=65536:=rfl
 rw [hl,Bool.eq_iff_iff,or4,You]
 have t1:=YNb s k (bat s k % 8*262144+bat s (k+1) % 64*4096) hk
 have t2:=YNb s k (bat s k % 8*262144+bat s (k+1) % 64*4096+4095) hk
 have t3:=YNb s k 65536 hk
 constructor
 ·rintro (h | h | h | h)
  ·have:=t1.1 h; omega
  ·split at h
   ·have:=t3.1 h; omega
   ·have:=t1.1 h; omega
  ·have:=t2.1 h; omega
  ·split at h
   ·have:=t3.1 h; omega
   ·have:=t2.1 h; omega
 ·intro h
  exact .inl (t1.2 (by omega))
theorem Yzr (s:List UInt8) (k:Nat) (hk:k+2 < s.length):((Yy s k 3 4 (bat s k % 8*262144+bat s (k+1) % 64*4096+bat s (k+2) % 64*64)||(if bat s k % 8*262144+bat s (k+1) % 64*4096+bat s (k+2) % 64*64 < YP 4 then Yy s k 3 4 (YP 4) else Yy s k 3 4 (bat s k % 8*262144+bat s (k+1) % 64*4096+bat s (k+2) % 64*64)))||
  (Yy s k 3 4 (bat s k % 8*262144+bat s (k+1) % 64*4096+bat s (k+2) % 64*64+63)||(if bat s k % 8*262144+bat s (k+1) % 64*4096+bat s (k+2) % 64*64+63 < YP 4 then Yy s k 3 4 (YP 4) else Yy s k 3 4 (bat s k % 8*262144+bat s (k+1) % 64*4096+bat s (k+2) % 64*64+63))))=
  decide ((240<=bat s k/\bat s k<=244/\bat s (k+1) / 64=2/\(bat s k=240->144<=bat s (k+1))/\(bat s k=244->bat s (k+1)<=143))/\bat s (k+2) / 64=2):=by
 have hb0:=Yt s k
 have hb1:=Yt s (k+1)
 have hb2:=Yt s (k+2)
 have hl:YP 4=65536:=rfl
 rw [hl,Bool.eq_iff_iff,or4,You]
 have t1:=YOb s k (bat s k % 8*262144+bat s (k+1) % 64*4096+bat s (k+2) % 64*64) hk
 have t2:=YOb s k (bat s k % 8*262144+bat s (k+1) % 64*4096+bat s (k+2) % 64*64+63) hk
 have t3:=YOb s k 65536 hk
 constructor
 ·rintro (h | h | h | h)
  ·have:=t1.1 h; omega
  ·split at h
   ·have:=t3.1 h; omega
   ·have:=t1.1 h; omega
  ·have:=t2.1 h; omega
  ·split at h
   ·have:=t3.1 h; omega
   ·have:=t2.1 h; omega
 ·intro h
  exact .inl (t1.2 (by omega))
end Go.Abs
namespace Go.Abs
theorem YC6 (s:List UInt8) (k n w i:Nat) (lo hi:Int) (hs:s.length<=1073741824) (hk:k+i < s.length) (hiw:i < w) (hin:i < n) (hi4:i<=4) (l0:0<=lo/\lo < 32768) (h0:0<=hi/\hi < 32768):
  Zn3 s (k:Int) (n:Int) (w:Int) lo hi (i:Int)=Zn3 s (k:Int) (n:Int) (w:Int) (lo*64+bat s (k+i) % 64) (hi*64+bat s (k+i) % 64) ((i+1:Nat):Int):=by
 have hb:=Yt s (k+i)
 have hw:IntKind.i64.wrap ((k:Int)+(i:Int))=((k+i:Nat):Int):=by rw [w64 (by omega) (by omega)]; omega
 have hw1:IntKind.i64.wrap ((i:Int)+1)=((i+1:Nat):Int):=by rw [w64 (by omega) (by omega)]; omega
 rw [Y49,Yg,Y5u hiw,Y7u,Yg,Y5u hin,Y7u,hw,hw1,Yj,Y5u hk,Y7u,Y7u,Ydu,show (((s.getD (k+i) 0).toNat:Nat):Int)=bat s (k+i) from rfl,m63 hb,
  w32 (x:=bat s (k+i) % 64) (by omega) (by omega),w32 (x:=lo*64) (by omega) (by omega),w32 (x:=hi*64) (by omega) (by omega),w32 (x:=lo*64+bat s (k+i) % 64) (by omega) (by omega),w32 (x:=hi*64+bat s (k+i) % 64) (by omega) (by omega)]
theorem YD6 (s:List UInt8) (k n w i:Nat) (lo hi:Int) (hiw:i < w) (hin:¬i < n) (hi4:i<=4) (l0:0<=lo/\lo < 32768) (h0:0<=hi/\hi < 32768):
  Zn3 s (k:Int) (n:Int) (w:Int) lo hi (i:Int)=Zn3 s (k:Int) (n:Int) (w:Int) (lo*64) (hi*64+63) ((i+1:Nat):Int):=by
 have hw1:IntKind.i64.wrap ((i:Int)+1)=((i+1:Nat):Int):=by rw [w64 (by omega) (by omega)]; omega
 rw [Y49,Yg,Y5u hiw,Y7u,Yg,Y6u hin,Y8u,hw1,w32 (x:=lo*64) (by omega) (by omega),w32 (x:=hi*64) (by omega) (by omega),w32 (x:=hi*64+63) (by omega) (by omega)]
theorem bend (s:List UInt8) (k n w:Nat) (lo hi:Int) (hs:s.length<=1073741824) (hk:k<=s.length) (hw:w=3\/w=4) (hn:n<=w) (hl:lo < 2097152) (hh:hi < 2097152) (x:Bool) (hX:Zm3 s (k:Int) (n:Int) ((w+1:Nat):Int)=some x):
  Zn3 s (k:Int) (n:Int) (w:Int) lo hi (w:Int)=some (((Yy s k n w lo||(if lo < YP w then Yy s k n w (YP w) else Yy s k n w lo))||(Yy s k n w hi||(if hi < YP w then Yy s k n w (YP w) else Yy s k n w hi)))||x):=by
 have hw1:IntKind.i64.wrap ((w:Int)+1)=((w+1:Nat):Int):=by rw [w64 (by omega) (by omega)]; omega
 rw [Y49,Yg,Y6u (Yxu _),Y8u,Y7f s k n w lo hs hk hw hn hl,Y9u,Y7f s k n w hi hs hk hw hn hh,Y9u,hw1,hX]
 generalize (Yy s k n w lo||(if lo < YP w then Yy s k n w (YP w) else Yy s k n w lo))=A
 generalize (Yy s k n w hi||(if hi < YP w then Yy s k n w (YP w) else Yy s k n w hi))=B
 cases A <;> cases B <;> rfl
theorem Ylm (s:List UInt8) (k n:Nat) (hk:k < s.length):Zm3 s (k:Int) (n:Int) ((3:Nat):Int)=Zn3 s (k:Int) (n:Int) ((3:Nat):Int) (bat s k % 16) (bat s k % 16) ((1:Nat):Int):=by
 have hb:=Yt s k
 rw [Y39,show decide (((3:Nat):Int)<=4)=true from rfl,Y7u,Yj,Y5u hk,Y7u,show Ya ((3:Nat):Int) ([(0:Int),(127:Int),(31:Int),(15:Int),(7:Int)]:List Int).length=true from rfl,Y7u,Ydu,show (((s.getD k 0).toNat:Nat):Int)=bat s k from rfl,
  show List.getD ([(0:Int),(127:Int),(31:Int),(15:Int),(7:Int)]:List Int) (Int.toNat ((3:Nat):Int)) (Ty.zero (.int .u8))=15 from rfl,m15 hb,w32 (by omega) (by omega)]
 rfl
theorem Yke (s:List UInt8) (k n:Nat) (hk:k < s.length):Zm3 s (k:Int) (n:Int) ((4:Nat):Int)=Zn3 s (k:Int) (n:Int) ((4:Nat):Int) (bat s k % 8) (bat s k % 8) ((1:Nat):Int):=by
 have hb:=Yt s k
 rw [Y39,show decide (((4:Nat):Int)<=4)=true from rfl,Y7u,Yj,Y5u hk,Y7u,show Ya ((4:Nat):Int) ([(0:Int),(127:Int),(31:Int),(15:Int),(7:Int)]:List Int).length=true from rfl,Y7u,Ydu,show (((s.getD k 0).toNat:Nat):Int)=bat s k from rfl,
  show List.getD ([(0:Int),(127:Int),(31:Int),(15:Int),(7:Int)]:List Int) (Int.toNat ((4:Nat):Int)) (Ty.zero (.int .u8))=7 from rfl,m7 hb,w32 (by omega) (by omega)]
 rfl
theorem Yle (s:List UInt8) (k n:Nat):Zm3 s (k:Int) (n:Int) ((5:Nat):Int)=some false:=by
 rw [Y39,show decide (((5:Nat):Int)<=4)=false from rfl,Y8u]
instance (s:List UInt8) (k:Nat):Decidable (Yq2 s k):=by unfold Yq2; infer_instance
theorem Y1u {s:List UInt8} {k:Nat} (h:(Yk s k).2.2=true):(Yk s k).2.1=1:=by
 by_cases q1:ut1 s k=true
 ·have e:Yk s k=(bat s k,(1,false)):=by unfold Yk; rw [Ybu q1]
  rw [e]
 by_cases q2:ut2 s k=true
 ·have e:Yk s k=(c2 s k,(2,false)):=by unfold Yk; rw [Yau q1,Ybu q2]
  rw [e] at h; cases h
 by_cases q3:ut3 s k=true
 ·have e:Yk s k=(c3 s k,(3,false)):=by unfold Yk; rw [Yau q1,Yau q2,Ybu q3]
  rw [e] at h; cases h
 by_cases q4:ut4 s k=true
 ·have e:Yk s k=(c4 s k,(4,false)):=by unfold Yk; rw [Yau q1,Yau q2,Yau q3,Ybu q4]
  rw [e] at h; cases h
 ·have e:Yk s k=(65533,(1,true)):=by unfold Yk; rw [Yau q1,Yau q2,Yau q3,Yau q4]
  rw [e]
theorem Yhm (s:List UInt8) (k:Nat) (hs:s.length<=1073741824) (hk:k < s.length):∃ b,Y17 (s,(k:Int),2)=some b/\(b=true↔Yq2 s k):=by
 rw [Y6f]
 dsimp only
 rw [Yid,w64 (by omega) (by omega)]
 by_cases c:k+1 < s.length
 ·have hb0:=Yt s k
  have hb1:=Yt s (k+1)
  have s4:Zm3 s (k:Int) ((2:Nat):Int) ((4:Nat):Int)=Zn3 s (k:Int) ((2:Nat):Int) ((4:Nat):Int) (bat s k % 8*262144+bat s (k+1) % 64*4096) (bat s k % 8*262144+bat s (k+1) % 64*4096+4095) ((4:Nat):Int):=by
   rw [Yke s k 2 hk,YC6 s k 2 4 1 _ _ hs (by omega) (by omega) (by omega) (by omega) (by omega) (by omega),YD6 s k 2 4 2 _ _ (by omega) (by omega) (by omega) (by omega) (by omega),YD6 s k 2 4 3 _ _ (by omega) (by omega) (by omega) (by omega) (by omega),
    show (bat s k % 8*64+bat s (k+1) % 64)*64*64=bat s k % 8*262144+bat s (k+1) % 64*4096 from by omega,show ((bat s k % 8*64+bat s (k+1) % 64)*64+63)*64+63=bat s k % 8*262144+bat s (k+1) % 64*4096+4095 from by omega]
  have e4:=s4.trans (bend s k 2 4 _ _ hs (by omega) (.inr rfl) (by omega) (by omega) (by omega) false (Yle s k 2))
  have s3:Zm3 s (k:Int) ((2:Nat):Int) ((3:Nat):Int)=Zn3 s (k:Int) ((2:Nat):Int) ((3:Nat):Int) (bat s k % 16*4096+bat s (k+1) % 64*64) (bat s k % 16*4096+bat s (k+1) % 64*64+63) ((3:Nat):Int):=by
   rw [Ylm s k 2 hk,YC6 s k 2 3 1 _ _ hs (by omega) (by omega) (by omega) (by omega) (by omega) (by omega),YD6 s k 2 3 2 _ _ (by omega) (by omega) (by omega) (by omega) (by omega),
    show (bat s k % 16*64+bat s (k+1) % 64)*64=bat s k % 16*4096+bat s (k+1) % 64*64 from by omega]
  have e3:=s3.trans (bend s k 2 3 _ _ hs (by omega) (.inl rfl) (by omega) (by omega) (by omega) _ e4)
  rw [low3 s k c,low4 s k c] at e3
  rw [show decide ((k:Int)+2 > (s.length:Int))=false from Y6u (by omega),Y8u,show IntKind.i64.wrap ((2:Int)+1)=((3:Nat):Int) from a3]
  refine ⟨_,e3,?_⟩
  unfold Yq2
  rw [Bool.or_false,Bool.or_eq_true,You,You,<-Y9t (bat s k) (bat s (k+1)) hb0]
  exact ⟨fun h=> ⟨c,h⟩,fun h=> h.2⟩
 ·rw [show decide ((k:Int)+2 > (s.length:Int))=true from Y5u (by omega),Y7u]
  refine ⟨false,rfl,?_⟩
  unfold Yq2
  constructor
  ·intro h; cases h
  ·intro h; exact absurd h.1 c
theorem Yim (s:List UInt8) (k:Nat) (hs:s.length<=1073741824) (hk:k < s.length):∃ b,Y17 (s,(k:Int),3)=some b/\(b=true↔(Yq2 s k/\k+2 < s.length/\(secI (bat s k)).2.2=4/\YN4 (bat s (k+2))=true)):=by
 rw [Y6f]
 dsimp only
 rw [Yid,w64 (by omega) (by omega)]
 by_cases c:k+2 < s.length
 ·have hb0:=Yt s k
  have hb1:=Yt s (k+1)
  have hb2:=Yt s (k+2)
  have s4:Zm3 s (k:Int) ((3:Nat):Int) ((4:Nat):Int)=Zn3 s (k:Int) ((3:Nat):Int) ((4:Nat):Int) (bat s k % 8*262144+bat s (k+1) % 64*4096+bat s (k+2) % 64*64) (bat s k % 8*262144+bat s (k+1) % 64*4096+bat s (k+2) % 64*64+63) ((4:Nat):Int):=by
   rw [Yke s k 3 hk,YC6 s k 3 4 1 _ _ hs (by omega) (by omega) (by omega) (by omega) (by omega) (by omega),YC6 s k 3 4 2 _ _ hs (by omega) (by omega) (by omega) (by omega) (by omega) (by omega),YD6 s k 3 4 3 _ _ (by omega) (by omega) (by omega) (by omega) (by omega),
    show ((bat s k % 8*64+bat s (k+1) % 64)*64+bat s (k+2) % 64)*64=bat s k % 8*262144+bat s (k+1) % 64*4096+bat s (k+2) % 64*64 from by omega]
  have e4:=s4.trans (bend s k 3 4 _ _ hs (by omega) (.inr rfl) (by omega) (by omega) (by omega) false (Yle s k 3))
  rw [Yzr s k c] at e4
  rw [show decide ((k:Int)+3 > (s.length:Int))=false from Y6u (by omega),Y8u,show IntKind.i64.wrap ((3:Int)+1)=((4:Nat):Int) from by kernel_rfl]
  refine ⟨_,e4,?_⟩
  unfold Yq2 YN4
  rw [Bool.or_false,You,You,<-Yat (bat s k) (bat s (k+1)) hb0]
  constructor
  ·rintro ⟨⟨h1,h2⟩,h3⟩
   exact ⟨⟨by omega,by omega,h2⟩,c,h1,by omega⟩
  ·rintro ⟨⟨h1,h2,h3⟩,h4,h5,h6⟩
   exact ⟨⟨h5,h3⟩,by omega⟩
 ·rw [show decide ((k:Int)+3 > (s.length:Int))=true from Y5u (by omega),Y7u]
  refine ⟨false,rfl,?_⟩
  constructor
  ·intro h; cases h
  ·intro h; exact absurd h.2.1 c
theorem Yfc (s:List UInt8) (hs:s.length<=1073741824):∀ (n k:Nat) (r:List D181),s.length<=k+n->k<=s.length->r.length+n<=1073741824->∃ l:List D181,Zx2 s (k:Int) r=some (r++l)/\l.map (·.2.2.1)=(wpcs s n k).map (·.2.1)/\l.length<=n
 | 0,k,r,hn,hk,hr=> by
  refine ⟨[],?_,rfl,Nat.le_refl _⟩
  rw [Y59,Yg,Y6u (by omega),Y8u,Yyu]
 | n+1,k,r,hn,hk,hr=> by
  by_cases c:k < s.length
  ·have hw:=YRi s k c
   have hwd:=Ya2 s k c
   have hwrong:(Yk s k).2.2=true->(Yk s k).2.1=1/\wwd s k=if Yq2 s k then (if k+2 < s.length/\(secI (bat s k)).2.2=4/\YN4 (bat s (k+2))=true then 3 else 2) else 1:=by
    intro hwr
    refine ⟨Y1u hwr,?_⟩
    unfold wwd
    rw [Ybu hwr]
    unfold webW Yq2
    rfl
   have hright:(Yk s k).2.2=false->(Yk s k).2.1=((wwd s k:Nat):Int):=by
    intro hf
    unfold wwd
    rw [Yau (by rw [hf]; exact Bool.false_ne_true)]
    exact hwd.2.2.2.symm
   obtain ⟨b3,q1,q2⟩:=Yim s k hs c
   obtain ⟨b2,q3,q4⟩:=Yhm s k hs c
   have hm:(wpcs s (n+1) k).map (·.2.1)=(Yk s k).1::(wpcs s n (k+wwd s k)).map (·.2.1):=by rw [wpcs,Ybu c,Ysu]
   rw [Y59,Yg,Y5u c,Y7u,Y0f s k hs c,Y9u,hm]
   generalize Yk s k=ra at hwrong hright ⊢
   obtain ⟨ru,w0,wr⟩:=ra
   dsimp only at hwrong hright ⊢
   have fin:∀ d:D181,d.2.1=((wwd s k:Nat):Int)->d.2.2.1=ru->∃ l:List D181,Zz2 s (k:Int) d r=some (r++l)/\l.map (·.2.2.1)=ru::(wpcs s n (k+wwd s k)).map (·.2.1)/\l.length<=n+1:=by
    intro d h1 h2
    obtain ⟨l,g1,g2,g3⟩:=Yfc s hs n (k+wwd s k) (r++[d]) (by omega) (by omega) (by simp only [Yfu,Yeu,Yju]; omega)
    refine ⟨d::l,?_,?_,by simp only [Yeu]; omega⟩
    ·rw [YXl,show decide (r.length+[d].length<=lim)=true from Y5u (by simp only [lim,Yeu,Yju]; omega),Y7u,h1,w64 (by omega) (by omega),show (k:Int)+((wwd s k:Nat):Int)=((k+wwd s k:Nat):Int) from by omega,g1,Ygu]; rfl
    ·rw [Ysu,g2,h2]
   cases wr with
   | true=>
    obtain ⟨hone,hwebW⟩:=hwrong rfl
    rw [Y7u,Y69,show decide ((3:Int) > 1)=true from rfl,Y7u,q1,Y9u]
    cases hb3:b3 with
    | true=>
     have h:=q2.1 hb3
     rw [Y7u]
     exact fin _ (by rw [hwebW,Ybu h.1,Ybu h.2]; rfl) rfl
    | false=>
     have hn3:¬(Yq2 s k/\k+2 < s.length/\(secI (bat s k)).2.2=4/\YN4 (bat s (k+2))=true):=fun e=> by rw [q2.2 e] at hb3; cases hb3
     rw [Y8u,show IntKind.i64.wrap ((3:Int) - 1)=2 from k3,Y69,show decide ((2:Int) > 1)=true from rfl,Y7u,q3,Y9u]
     cases hb2:b2 with
     | true=>
      have h:=q4.1 hb2
      rw [Y7u]
      exact fin _ (by rw [hwebW,Ybu h,Yau (fun e=> hn3 ⟨h,e⟩)]; rfl) rfl
     | false=>
      have hn2:¬Yq2 s k:=fun e=> by rw [q4.2 e] at hb2; cases hb2
      rw [Y8u,show IntKind.i64.wrap ((2:Int) - 1)=1 from k2,Y69,show decide ((1:Int) > 1)=false from rfl,Y8u]
      exact fin _ (by rw [hwebW,Yau hn2]; exact hone) rfl
   | false=>
    rw [Y8u]
    exact fin _ (hright rfl) rfl
  ·refine ⟨[],?_,?_,by simp⟩
   ·rw [Y59,Yg,Y6u c,Y8u,Yyu]
   ·rw [wpcs,Yau c]; rfl
theorem YPi (l:List D181) (hl:l.length<=1000000000) (hs:YQ (l.map (·.2.2.1))):∀ (n i:Nat) (r:List Int),i+n=l.length->r.length<=4*i->Z13 l (i:Int) r=some (Ym (r++YN1 ((l.drop i).map (·.2.2.1))))
 | 0,i,r,h,hr=> by
  have:i=l.length:=by omega
  subst this
  rw [Yrc,Yg,Y6u (Yxu _),Y8u,List.drop_length]; simp [YN1]
 | n+1,i,r,h,hr=> by
  have hi:i < l.length:=by omega
  have hw:IntKind.i64.wrap ((i:Int)+1)=((i+1:Nat):Int):=by rw [w64 (by omega) (by omega)]; omega
  have hg:List.getD l (Int.toNat (i:Int)) (Ty.zero T181)=l[i]:=by
   rw [Ydu,Ymu,Ynu hi]; rfl
  have hsc:=hs _ (List.mem_map_of_mem (f:=fun x:D181=> x.2.2.1) (List.getElem_mem hi))
  have hr2:=YC2 hsc
  have hb:=YZ3 l[i].2.2.1
  rw [Yrc,Yg,Y5u hi,Y7u,Yj,Y5u hi,Y7u,hg,YV6 _ hr2.1 (by omega),Y9u,
   show decide (r.length+(Yu l[i].2.2.1).length<=lim)=true from Y5u (by simp only [lim]; omega),Y7u,hw,YPi l hl hs n (i+1) _ (by omega) (by rw [Yfu]; omega),Yiu hi,Ysu]
  simp only [YN1,List.flatMap_cons,Ygu]
theorem Y3f (s:List UInt8) (hs:s.length<=1000000000):Y07 s=some (YF1 s):=by
 obtain ⟨l,h1,h2,h3⟩:=Yfc s (by omega) s.length 0 [] (by omega) (by omega) (by simp only [Yju]; omega)
 rw [show ((0:Nat):Int)=0 from rfl,Yzu] at h1
 have hm:l.map (·.2.2.1)=YS3 s:=h2
 have hw:=YPi l (by omega) (by rw [hm]; exact YYt s) l.length 0 [] (by omega) (by simp)
 rw [show ((0:Nat):Int)=0 from rfl,List.drop_zero,Yzu,hm] at hw
 rw [Y2o,Ydk,Y3o,YMl,h1,Y9u,Y8o,Ydj,hw]
 rfl
end Go.Abs
namespace Go.Abs
theorem Yif (b:Int) (h0:0<=b) (h1:b<=255):YI4 b=some (nib b):=by
 rw [Ywo,Yjl]
 unfold nib
 have hc:b < 48\/(48<=b/\b<=57)\/(58<=b/\b<=64)\/(65<=b/\b<=70)\/(71<=b/\b<=96)\/(97<=b/\b<=102)\/103<=b:=by omega
 rcases hc with h | h | h | h | h | h | h
 ·rw [show decide (b>=48)=false from Y6u (by omega),show decide (b>=97)=false from Y6u (by omega),show decide (b>=65)=false from Y6u (by omega),Y8u,Y8u,Y8u]
  repeat rw [Yau (by omega)]
 ·rw [show decide (b>=48)=true from Y5u (by omega),show decide (b<=57)=true from Y5u (by omega),Y7u,Y7u,w8 (x:=b - 48) (by omega) (by omega),w64 (x:=b - 48) (by omega) (by omega),Ybu (by omega)]
 ·rw [show decide (b>=48)=true from Y5u (by omega),show decide (b<=57)=false from Y6u (by omega),show decide (b>=97)=false from Y6u (by omega),show decide (b>=65)=false from Y6u (by omega),Y7u,Y8u,Y8u,Y8u]
  repeat rw [Yau (by omega)]
 ·rw [show decide (b>=48)=true from Y5u (by omega),show decide (b<=57)=false from Y6u (by omega),show decide (b>=97)=false from Y6u (by omega),show decide (b>=65)=true from Y5u (by omega),show decide (b<=70)=true from Y5u (by omega),Y7u,Y8u,Y8u,Y7u,Y7u,w8 (x:=b - 65) (by omega) (by omega),w64 (x:=b - 65) (by omega) (by omega),w64 (by omega) (by omega)]
  first | (rw [Yau (by omega),Yau (by omega),Ybu (by omega)]; congr 1; omega) | (rw [Yau (by omega),Yau (by omega),Ybu (by omega)])
 ·rw [show decide (b>=48)=true from Y5u (by omega),show decide (b<=57)=false from Y6u (by omega),show decide (b>=97)=false from Y6u (by omega),show decide (b>=65)=true from Y5u (by omega),show decide (b<=70)=false from Y6u (by omega),Y7u,Y8u,Y8u,Y7u,Y8u]
  repeat rw [Yau (by omega)]
 ·rw [show decide (b>=48)=true from Y5u (by omega),show decide (b<=57)=false from Y6u (by omega),show decide (b>=97)=true from Y5u (by omega),show decide (b<=102)=true from Y5u (by omega),Y7u,Y8u,Y7u,Y7u,w8 (x:=b - 97) (by omega) (by omega),w64 (x:=b - 97) (by omega) (by omega),w64 (by omega) (by omega)]
  first | (rw [Yau (by omega),Ybu (by omega)]; congr 1; omega) | (rw [Yau (by omega),Ybu (by omega)])
 ·rw [show decide (b>=48)=true from Y5u (by omega),show decide (b<=57)=false from Y6u (by omega),show decide (b>=97)=true from Y5u (by omega),show decide (b<=102)=false from Y6u (by omega),show decide (b>=65)=true from Y5u (by omega),show decide (b<=70)=false from Y6u (by omega),Y7u,Y8u,Y7u,Y8u,Y7u,Y8u]
  repeat rw [Yau (by omega)]
theorem YBo (s:List UInt8) (k:Nat) (hs:s.length<=1073741824) (hk:k < s.length):YQ9 (s,(k:Int))=some (trip s k):=by
 have e1:IntKind.i64.wrap ((k:Int)+1)=((k+1:Nat):Int):=by rw [w64 (by omega) (by omega)]; omega
 have e2:IntKind.i64.wrap ((k:Int)+2)=((k+2:Nat):Int):=by rw [w64 (by omega) (by omega)]; omega
 have b1:=Yt s (k+1)
 have b2:=Yt s (k+2)
 have n1:=Y63 (bat s (k+1))
 have n2:=Y63 (bat s (k+2))
 rw [YAo,YCj]
 simp only
 rw [e1,e2]
 unfold trip
 by_cases a:k+2 < s.length
 ·rw [show decide (((k+2:Nat):Int)>=(s.length:Int))=false from Y6u (by omega),Y8u,Yj,Y5u hk,Y7u,Ydu,Ydu,Ydu,
   show (((s.getD k 0).toNat:Nat):Int)=bat s k from rfl,show (((s.getD (k+1) 0).toNat:Nat):Int)=bat s (k+1) from rfl,show (((s.getD (k+2) 0).toNat:Nat):Int)=bat s (k+2) from rfl]
  by_cases b:bat s k=37
  ·rw [show (bat s k !=37)=false from by simpa using b,Y8u,Yj,Y5u (show k+1 < s.length by omega),Y7u,Yj,Y5u a,Yif _ b1.1 b1.2,Y9u,Yif _ b2.1 b2.2]
   simp only [Y9u,Y7u]
   by_cases c:nib (bat s (k+1)) < 0
   ·rw [Y5u c,Y7u,Yau (by omega)]
   ·rw [Y6u c,Y8u]
    by_cases d:nib (bat s (k+2)) < 0
    ·rw [Y5u d,Y7u,Yau (by omega)]
    ·rw [Y6u d,Y8u,Ybu (by omega),w64 (x:=16*nib (bat s (k+1))) (by omega) (by omega),w64 (by omega) (by omega)]
     congr 1; omega
  ·rw [show (bat s k !=37)=true from by simpa using b,Y7u,Yau (fun h=> b h.2.1)]
 ·rw [show decide (((k+2:Nat):Int)>=(s.length:Int))=true from Y5u (by omega),Y7u,Yau (fun h=> a h.1)]
theorem YT8 (s:List UInt8) (hs:s.length<=1073741824):∀ (n k:Nat) (r:List Int),s.length<=k+n->k<=s.length->r.length+n<=1073741824->Zf2 s (k:Int) r=some (r++pdec s n k)
 | 0,k,r,hn,hk,hr=> by
  rw [Y3d,Yg,Y6u (by omega),Y8u,pdec,Yyu]
 | n+1,k,r,hn,hk,hr=> by
  rw [Y3d,Yg]
  unfold pdec
  by_cases c:k < s.length
  ·have ht:=YGi s k
   rw [Y5u c,Y7u,Ybu c,YBo s k hs c,Y9u]
   by_cases d:0<=trip s k
   ·have hk2:k+2 < s.length:=by
     unfold trip at d
     split at d
     ·rename_i h; exact h.1
     ·omega
    rw [show decide (trip s k>=0)=true from Y5u d,Y7u,Ybu d,w8 d ht.2,show decide (r.length+[trip s k].length<=lim)=true from Y5u (by simp [lim]; omega),Y7u,
     w64 (x:=(k:Int)+2) (by omega) (by omega),w64 (by omega) (by omega),show (k:Int)+2+1=((k+3:Nat):Int) from by omega,YT8 s hs n (k+3) _ (by omega) (by omega) (by simp; omega),Ygu]
    rfl
   ·rw [show decide (trip s k>=0)=false from Y6u d,Y8u,Yau d,Yj,Y5u c,Y7u,Ydu,show (((s.getD k 0).toNat:Nat):Int)=bat s k from rfl,
     show decide (r.length+[bat s k].length<=lim)=true from Y5u (by simp [lim]; omega),Y7u,w64 (by omega) (by omega),show (k:Int)+1=((k+1:Nat):Int) from by omega,YT8 s hs n (k+1) _ (by omega) (by omega) (by simp; omega),Ygu]
    rfl
  ·rw [Y6u c,Y8u,Yau c,Yyu]
theorem Yqo (s:List UInt8) (hs:s.length<=1000000000):YI5 s=some (YN s):=by
 rw [Ypo,Yij,Yro,Ymk]
 have h:=YT8 s (by omega) s.length 0 [] (by omega) (by omega) (by simp; omega)
 have hl:=Y36 s s.length 0
 rw [show ((0:Nat):Int)=0 from rfl] at h
 rw [h,Y9u,Yzu,Y3f _ (by unfold Ym; rw [List.length_map]; omega)]
 rfl
theorem YXg (c:Int) (l:List UInt8) (hl:l.length<=1000):∀ (n i:Nat),i+n=l.length->∃ b,Zp3 c l (i:Int)=some b
 | 0,i,h=> by
  have:i=l.length:=by omega
  subst this
  rw [Ysd,Yg,Y6u (Yxu _),Y8u]; exact ⟨_,rfl⟩
 | n+1,i,h=> by
  have hi:i < l.length:=by omega
  have hw:IntKind.i64.wrap ((i:Int)+1)=((i+1:Nat):Int):=by rw [w64 (by omega) (by omega)]; omega
  obtain ⟨b,hb⟩:=YXg c l hl n (i+1) (by omega)
  rw [Ysd,Yg,Y5u hi,Y7u,Yj,Y5u hi,Y7u,hw,hb]
  cases ((((UInt8.toNat (List.getD l (Int.toNat (i:Int)) (0:UInt8))):Nat):Int)==c) with
  | true=> exact ⟨_,rfl⟩
  | false=> exact ⟨_,rfl⟩
theorem Y45 (c:Int) (l:List UInt8) (hl:l.length<=1000):∃ b,YI1 (c,l)=some b:=by
 rw [Yxo,Yal]
 exact YXg c l hl l.length 0 (by omega)
theorem Yhf (c:Int) (h0:0<=c) (h1:c<=255):Y97 (1,c)=some (decide (¬(32<=c/\c<=126)),0):=by
 rw [Yvo,Ypj]
 dsimp only
 rw [show decide ((1:Int) < 1)=false from rfl,Y8u,show decide ((1:Int) > 8)=false from rfl,Y8u]
 by_cases a:c < 32
 ·rw [Y5u a,Y7u,Y5u (by omega)]; rfl
 rw [Y6u a,Y8u]
 by_cases b:c > 126
 ·rw [Y5u b,Y5u (show ¬(32<=c/\c<=126) by omega)]; rfl
 obtain ⟨y1,e1⟩:=Y45 c [32,34,60,62,96] (by decide)
 obtain ⟨y2,e2⟩:=Y45 c [32,34,35,60,62] (by decide)
 obtain ⟨y3,e3⟩:=Y45 c [63,94,96,123,125] (by decide)
 obtain ⟨y4,e4⟩:=Y45 c [47,58,59,61,64,91,92,93,124] (by decide)
 obtain ⟨y5,e5⟩:=Y45 c [36,37,38,43,44] (by decide)
 obtain ⟨y6,e6⟩:=Y45 c [33,39,40,41,126] (by decide)
 rw [Y6u b,Y6u (show ¬¬(32<=c/\c<=126) by omega),e1,e2,e3,e4,e5,e6]
 cases y1 <;> cases y2 <;> cases y3 <;> cases y4 <;> cases y5 <;> cases y6 <;> rfl
def oneX (x:Int):Option (List UInt8):=
  bif (Yi (some (IntKind.wrap IntKind.u8 (Int.tdiv x (16:Int)))) (some (IntKind.wrap IntKind.u8 ((IntKind.wrap IntKind.u8 (Int.tdiv x (16:Int)))+(1:Int)))) (List.length ([(48:UInt8),(49:UInt8),(50:UInt8),(51:UInt8),(52:UInt8),(53:UInt8),(54:UInt8),(55:UInt8),(56:UInt8),(57:UInt8),(65:UInt8),(66:UInt8),(67:UInt8),(68:UInt8),(69:UInt8),(70:UInt8)]:List UInt8))) then
   bif (decide (((List.length ([(37:UInt8)]:List UInt8))+(List.length (Yl (some (IntKind.wrap IntKind.u8 (Int.tdiv x (16:Int)))) (some (IntKind.wrap IntKind.u8 ((IntKind.wrap IntKind.u8 (Int.tdiv x (16:Int)))+(1:Int)))) ([(48:UInt8),(49:UInt8),(50:UInt8),(51:UInt8),(52:UInt8),(53:UInt8),(54:UInt8),(55:UInt8),(56:UInt8),(57:UInt8),(65:UInt8),(66:UInt8),(67:UInt8),(68:UInt8),(69:UInt8),(70:UInt8)]:List UInt8))))<=(2 ^ 62))) then
    bif (Yi (some (Int.tmod x (16:Int))) (some (IntKind.wrap IntKind.u8 ((Int.tmod x (16:Int))+(1:Int)))) (List.length ([(48:UInt8),(49:UInt8),(50:UInt8),(51:UInt8),(52:UInt8),(53:UInt8),(54:UInt8),(55:UInt8),(56:UInt8),(57:UInt8),(65:UInt8),(66:UInt8),(67:UInt8),(68:UInt8),(69:UInt8),(70:UInt8)]:List UInt8))) then
     bif (decide (((List.length (([(37:UInt8)]:List UInt8)++(Yl (some (IntKind.wrap IntKind.u8 (Int.tdiv x (16:Int)))) (some (IntKind.wrap IntKind.u8 ((IntKind.wrap IntKind.u8 (Int.tdiv x (16:Int)))+(1:Int)))) ([(48:UInt8),(49:UInt8),(50:UInt8),(51:UInt8),(52:UInt8),(53:UInt8),(54:UInt8),(55:UInt8),(56:UInt8),(57:UInt8),(65:UInt8),(66:UInt8),(67:UInt8),(68:UInt8),(69:UInt8),(70:UInt8)]:List UInt8))))+(List.length (Yl (some (Int.tmod x (16:Int))) (some (IntKind.wrap IntKind.u8 ((Int.tmod x (16:Int))+(1:Int)))) ([(48:UInt8),(49:UInt8),(50:UInt8),(51:UInt8),(52:UInt8),(53:UInt8),(54:UInt8),(55:UInt8),(56:UInt8),(57:UInt8),(65:UInt8),(66:UInt8),(67:UInt8),(68:UInt8),(69:UInt8),(70:UInt8)]:List UInt8))))<=(2 ^ 62))) then
      some ((([(37:UInt8)]:List UInt8)++(Yl (some (IntKind.wrap IntKind.u8 (Int.tdiv x (16:Int)))) (some (IntKind.wrap IntKind.u8 ((IntKind.wrap IntKind.u8 (Int.tdiv x (16:Int)))+(1:Int)))) ([(48:UInt8),(49:UInt8),(50:UInt8),(51:UInt8),(52:UInt8),(53:UInt8),(54:UInt8),(55:UInt8),(56:UInt8),(57:UInt8),(65:UInt8),(66:UInt8),(67:UInt8),(68:UInt8),(69:UInt8),(70:UInt8)]:List UInt8)))++(Yl (some (Int.tmod x (16:Int))) (some (IntKind.wrap IntKind.u8 ((Int.tmod x (16:Int))+(1:Int)))) ([(48:UInt8),(49:UInt8),(50:UInt8),(51:UInt8),(52:UInt8),(53:UInt8),(54:UInt8),(55:UInt8),(56:UInt8),(57:UInt8),(65:UInt8),(66:UInt8),(67:UInt8),(68:UInt8),(69:UInt8),(70:UInt8)]:List UInt8)))
     else
      none
    else
     none
   else
    none
  else
   none
theorem YTr:(List.range 256).all (fun n=> oneX (n:Int)==some (Ym (esc (n:Int))))=true:=by kernel_rfl
theorem Yzo (c:Int) (h0:0<=c) (h1:c<=255):YP9 c=some (Ym (esc c)):=by
 obtain ⟨n,rfl⟩:=Int.eq_ofNat_of_zero_le h0
 have:=beq_iff_eq.1 (List.all_eq_true.1 YTr n (List.mem_range.2 (by omega)))
 rw [Yyo,Yvj]
 exact this
theorem YAt (a b:List Int):Ym (a++b)=Ym a++Ym b:=by unfold Ym; rw [List.map_append]
theorem Yec (b:List Int) (hb:∀ x∈b,0<=x/\x<=255) (hl:b.length<=1000000000):∀ (n i:Nat) (t:List UInt8),i+n=b.length->t.length<=3*i->Zd2 1 b t (i:Int)=some (t++Ym ((b.drop i).flatMap encB),0)
 | 0,i,t,h,ht=> by
  have:i=b.length:=by omega
  subst this
  rw [YWc,Yg,Y6u (Yxu _),Y8u,List.drop_length]
  show some (t,(0:Int))=some (t++[],0)
  rw [Yyu]
 | n+1,i,t,h,ht=> by
  have hi:i < b.length:=by omega
  have hw:IntKind.i64.wrap ((i:Int)+1)=((i+1:Nat):Int):=by rw [w64 (by omega) (by omega)]; omega
  have hg:List.getD b (Int.toNat (i:Int)) (Ty.zero (.int .u8))=b[i]:=by
   rw [Ydu,Ymu,Ynu hi]; rfl
  have hx:=hb _ (List.getElem_mem hi)
  have hlen:=Yfg b[i]
  have hso:(Ym (encB b[i])).length=(encB b[i]).length:=by unfold Ym; rw [List.length_map]
  have step:Zd2 1 b (t++Ym (encB b[i])) ((i+1:Nat):Int)=some (t++Ym ((b.drop i).flatMap encB),0):=by
   rw [Yec b hb hl n (i+1) _ (by omega) (by rw [Yfu]; omega),Yiu hi,List.flatMap_cons,YAt,Ygu]
  rw [YWc,Yg,Y5u hi,Y7u,Yj,Y5u hi,Y7u,hg,Yhf _ hx.1 hx.2,Y9u,<-YUp b[i] hx.1 hx.2,hw]
  cases hc:ctlSet.getD b[i].toNat false with
  | true=>
   have e:encB b[i]=esc b[i]:=by unfold encB; rw [Ybu hc]
   rw [e] at step hso
   rw [Y7u,Y7u,Yzo _ hx.1 hx.2,Y9u,show decide (t.length+(Ym (esc b[i])).length<=2 ^ 62)=true from Y5u (by rw [hso,<-e]; omega),Y7u,step]
  | false=>
   have e:encB b[i]=[b[i]]:=by unfold encB; rw [Yau (by rw [hc]; simp)]
   rw [e] at step hso
   rw [Y8u,Y7u,show decide (t.length+(Ym [b[i]]).length<=2 ^ 62)=true from Y5u (by rw [hso]; simp only [Yeu,Yju]; omega),Y7u,step]
theorem Yto (s:List UInt8) (hs:s.length<=200000000):YJ5 (1,s)=some (Y22 s,0):=by
 have hl:=YYb s
 have hbl:(YM (YF1 s)).length=(YF1 s).length:=by unfold YM; rw [List.length_map]
 have hgo:=Yec (YM (YF1 s)) (fun x hx=> by
  unfold YM at hx
  obtain ⟨b,_,rfl⟩:=List.mem_map.1 hx
  exact YI2 b) (by omega) (YM (YF1 s)).length 0 [] (by omega) (by simp)
 rw [show ((0:Nat):Int)=0 from rfl,Yzu,List.drop_zero] at hgo
 rw [Yso,Ycj]
 dsimp only
 rw [Y3f s (by omega),Y9u,Yuo,Ygk]
 dsimp only
 rw [Yhf 0 (by omega) (by omega),Y9u,show ((0:Int) !=0)=false from rfl,Y8u,hgo]
 rfl
end Go.Abs
