/- Part M2 of the proof: see the last text of the claim. No condition of its own. -/
import Derived.Test.YtddagflhafkbnaaGreatDoorM1
import Derived.Test.YtddagflhafkbnaaGreatDoorL6
set_option linter.all false
namespace Go.Abs
set_option autoImplicit false

def Yy (s:List UInt8) (k n width:Nat) (v:Int):Bool:=scal v&&(decide ((Yv v).length=width)&&atB s k ((Yv v).take n))
def YM (width:Nat):Int:=if width=3 then 2048 else 65536
theorem YRa (s:List UInt8) (k n width:Nat) (r v i:Int) (l:List Int) (hs:s.length≤1073741824) (hk:k≤s.length) (hn:n≤width) (X:Option Bool) (hX:Z74 s (k:Int) (n:Int) (width:Int) r (IntKind.i64.wrap (i+1)) l=X) (hv:v < 2097152):
    Z84 s (k:Int) (n:Int) (width:Int) r i v l=if Yy s k n width v=true then some true else X:=by
  rw [Yhi,hX,Yr6,Ylr]
  unfold Yy
  cases hsc:scal v with
  | false=> rw [Ykr,Bool.false_and,Ymr (by simp)]
  | true=>
    have hr:=Yq2 hsc
    rw [Yjr,Yo6 v hr.1 hv,Ylr,Bool.true_and]
    by_cases a:(Yv v).length=width
    · have hb:=YF3 v
      rw [show (((Yv v).length:Int)==(width:Int))=true from beq_iff_eq.2 (by omega),Yjr,Ylr,show Yi none (some (n:Int)) (Yv v).length=true from by simp [Yi]; omega,Yjr,
        show List.drop (Option.getD (Option.map Int.toNat none) 0) (List.take (Option.getD (Option.map Int.toNat (some (n:Int))) (Yv v).length) (Yv v))=(Yv v).take n from by
          show List.drop 0 (List.take (Int.toNat (n:Int)) (Yv v))=_
          rw [List.drop_zero,Ypr],
        YTd s k _ hs (by rw [YBr]; omega) hk,Ylr,Yhr a,Bool.true_and]
      cases atB s k ((Yv v).take n) with
      | true=> rw [Yjr,Ynr rfl]
      | false=> rw [Ykr,Ymr (by simp)]
    · rw [show (((Yv v).length:Int)==(width:Int))=false from Ytr.2 (by omega),Ykr,Yir a,Bool.false_and,Ymr (by simp)]
theorem YVd (s:List UInt8) (k n width:Nat) (r:Int) (hs:s.length≤1073741824) (hk:k≤s.length) (hw:width=3∨width=4) (hn:n≤width) (hr:r < 2097152):
    Yv6 (s,(k:Int),(n:Int),(width:Int),r)=some (Yy s k n width r||(if r < YM width then Yy s k n width (YM width) else Yy s k n width r)):=by
  rw [YTl]
  dsimp only
  rw [Y7i,Yj8,show decide ((0:Int) < 2)=true from rfl,Yjr,show ((0:Int)==1)=false from rfl,Ykr]
  have hl:([(0:Int),(0:Int),(128:Int),(2048:Int),(65536:Int)]:List Int).length=5:=rfl
  have hg:List.getD ([(0:Int),(0:Int),(128:Int),(2048:Int),(65536:Int)]:List Int) (Int.toNat (width:Int)) (Ty.zero (.int .i32))=YM width:=by
    rcases hw with rfl | rfl <;> rfl
  have hlw:YM width < 2097152:=by unfold YM; split <;> omega
  have two:Z74 s (k:Int) (n:Int) (width:Int) r (IntKind.i64.wrap ((1:Int)+1)) ([(0:Int),(0:Int),(128:Int),(2048:Int),(65536:Int)]:List Int)=some false:=by
    rw [show IntKind.i64.wrap ((1:Int)+1)=2 from a2,Yj8,show decide ((2:Int) < 2)=false from rfl,Ykr]
  have one:Z74 s (k:Int) (n:Int) (width:Int) r (IntKind.i64.wrap ((0:Int)+1)) ([(0:Int),(0:Int),(128:Int),(2048:Int),(65536:Int)]:List Int)=some (if r < YM width then Yy s k n width (YM width) else Yy s k n width r):=by
    rw [show IntKind.i64.wrap ((0:Int)+1)=1 from a1,Yj8,show decide ((1:Int) < 2)=true from rfl,Yjr,show ((1:Int)==1)=true from rfl,Yjr,hl,Yj,Yhr (by omega),Yjr,hg,Yjr]
    by_cases c:r < YM width
    · rw [Yhr c,Yjr,YRa s k n width r _ 1 _ hs hk hn _ two hlw,Ynr c]
      cases Yy s k n width (YM width) <;> rfl
    · rw [Yir c,Ykr,YRa s k n width r _ 1 _ hs hk hn _ two hr,Ymr c]
      cases Yy s k n width r <;> rfl
  rw [YRa s k n width r r 0 _ hs hk hn _ one hr]
  cases Yy s k n width r with
  | true=> rw [Ynr rfl,YGr]
  | false=> rw [Ymr (by simp),YFr]

theorem Yid {v:Int} (h0:2048≤v) (h1:v < 65536):Yv v=[224+v / 4096,128+v / 64 % 64,128+v % 64]:=by
  unfold Yv; rw [Ymr (by omega),Ymr (by omega),Ynr h1]
theorem Y96 {v:Int} (h0:65536≤v):Yv v=[240+v / 262144,128+v / 4096 % 64,128+v / 64 % 64,128+v % 64]:=by
  unfold Yv; rw [Ymr (by omega),Ymr (by omega),Ymr (by omega)]
theorem YOa (s:List UInt8) (k:Nat) (v:Int) (hk:k+1 < s.length):Yy s k 2 3 v=true↔(2048≤v∧v < 65536∧¬(55296≤v∧v≤57343)∧bat s k=224+v / 4096∧bat s (k+1)=128+v / 64 % 64):=by
  unfold Yy
  rw [Yor,Yor,YAr,Y43]
  constructor
  · rintro ⟨h1,h2,h3⟩
    have h1:=of_decide_eq_true h1
    have hv:2048≤v∧v < 65536:=by
      split at h2
      · omega
      · split at h2
        · omega
        · split at h2
          · omega
          · omega
    rw [Yid hv.1 hv.2] at h3
    simp only [List.take_succ_cons,List.take_zero,atB,Bool.and_true,Yor,YAr] at h3
    exact ⟨hv.1,hv.2,h1.2.2,h3.1.2,h3.2.2⟩
  · rintro ⟨h1,h2,h3,h4,h5⟩
    refine ⟨Yhr (by omega),by rw [Ymr (by omega),Ymr (by omega),Ynr h2],?_⟩
    rw [Yid h1 h2]
    simp only [List.take_succ_cons,List.take_zero,atB,Bool.and_true,Yor,YAr]
    exact ⟨⟨by omega,h4⟩,by omega,h5⟩
theorem YPa (s:List UInt8) (k:Nat) (v:Int) (hk:k+1 < s.length):Yy s k 2 4 v=true↔(65536≤v∧v≤1114111∧bat s k=240+v / 262144∧bat s (k+1)=128+v / 4096 % 64):=by
  unfold Yy
  rw [Yor,Yor,YAr,Y43]
  constructor
  · rintro ⟨h1,h2,h3⟩
    have h1:=of_decide_eq_true h1
    have hv:65536≤v:=by
      split at h2
      · omega
      · split at h2
        · omega
        · split at h2
          · omega
          · omega
    rw [Y96 hv] at h3
    simp only [List.take_succ_cons,List.take_zero,atB,Bool.and_true,Yor,YAr] at h3
    exact ⟨hv,h1.2.1,h3.1.2,h3.2.2⟩
  · rintro ⟨h1,h2,h4,h5⟩
    refine ⟨Yhr (by omega),by rw [Ymr (by omega),Ymr (by omega),Ymr (by omega)],?_⟩
    rw [Y96 h1]
    simp only [List.take_succ_cons,List.take_zero,atB,Bool.and_true,Yor,YAr]
    exact ⟨⟨by omega,h4⟩,by omega,h5⟩
theorem YQa (s:List UInt8) (k:Nat) (v:Int) (hk:k+2 < s.length):Yy s k 3 4 v=true↔(65536≤v∧v≤1114111∧bat s k=240+v / 262144∧bat s (k+1)=128+v / 4096 % 64∧bat s (k+2)=128+v / 64 % 64):=by
  unfold Yy
  rw [Yor,Yor,YAr,Y43]
  constructor
  · rintro ⟨h1,h2,h3⟩
    have h1:=of_decide_eq_true h1
    have hv:65536≤v:=by
      split at h2
      · omega
      · split at h2
        · omega
        · split at h2
          · omega
          · omega
    rw [Y96 hv] at h3
    simp only [List.take_succ_cons,List.take_zero,atB,Bool.and_true,Yor,YAr] at h3
    exact ⟨hv,h1.2.1,h3.1.2,h3.2.1.2,h3.2.2.2⟩
  · rintro ⟨h1,h2,h4,h5,h6⟩
    refine ⟨Yhr (by omega),by rw [Ymr (by omega),Ymr (by omega),Ymr (by omega)],?_⟩
    rw [Y96 h1]
    simp only [List.take_succ_cons,List.take_zero,atB,Bool.and_true,Yor,YAr]
    exact ⟨⟨by omega,h4⟩,⟨by omega,h5⟩,by omega,h6⟩
def Ye2 (s:List UInt8) (k:Nat):Prop:=k+1 < s.length∧3≤(secI (bat s k)).2.2∧(secI (bat s k)).1≤bat s (k+1)∧bat s (k+1)≤(secI (bat s k)).2.1
theorem Ymq (b:Int) (c:Int) (hb:0≤b∧b≤255):(3≤(secI b).2.2∧(secI b).1≤c∧c≤(secI b).2.1)↔((b / 16=14∧c / 64=2∧(b=224→160≤c)∧(b=237→c≤159))∨(240≤b∧b≤244∧c / 64=2∧(b=240→144≤c)∧(b=244→c≤143))):=by
  unfold secI
  repeat' split
  all_goals (dsimp only; omega)
theorem Ynq (b:Int) (c:Int) (hb:0≤b∧b≤255):((secI b).2.2=4∧(secI b).1≤c∧c≤(secI b).2.1)↔(240≤b∧b≤244∧c / 64=2∧(b=240→144≤c)∧(b=244→c≤143)):=by
  unfold secI
  repeat' split
  all_goals (dsimp only; omega)
theorem or4 {a b c d:Bool}:(a||b||(c||d))=true↔(a=true∨b=true∨c=true∨d=true):=by
  cases a <;> cases b <;> cases c <;> cases d <;> simp
theorem low3 (s:List UInt8) (k:Nat) (hk:k+1 < s.length):((Yy s k 2 3 (bat s k % 16*4096+bat s (k+1) % 64*64)||(if bat s k % 16*4096+bat s (k+1) % 64*64 < YM 3 then Yy s k 2 3 (YM 3) else Yy s k 2 3 (bat s k % 16*4096+bat s (k+1) % 64*64)))||
    (Yy s k 2 3 (bat s k % 16*4096+bat s (k+1) % 64*64+63)||(if bat s k % 16*4096+bat s (k+1) % 64*64+63 < YM 3 then Yy s k 2 3 (YM 3) else Yy s k 2 3 (bat s k % 16*4096+bat s (k+1) % 64*64+63))))=
    decide (bat s k / 16=14∧bat s (k+1) / 64=2∧(bat s k=224→160≤bat s (k+1))∧(bat s k=237→bat s (k+1)≤159)):=by
  have hb0:=Yu s k
  have hb1:=Yu s (k+1)
  have hl:YM 3=2048:=rfl
  rw [hl,Bool.eq_iff_iff,or4,YAr]
  have t1:=YOa s k (bat s k % 16*4096+bat s (k+1) % 64*64) hk
  have t2:=YOa s k (bat s k % 16*4096+bat s (k+1) % 64*64+63) hk
  have t3:=YOa s k 2048 hk
  constructor
  · rintro (h | h | h | h)
    · have:=t1.1 h; omega
    · split at h
      · have:=t3.1 h; omega
      · have:=t1.1 h; omega
    · have:=t2.1 h; omega
    · split at h
      · have:=t3.1 h; omega
      · have:=t2.1 h; omega
  · intro h
    exact .inl (t1.2 (by omega))
theorem low4 (s:List UInt8) (k:Nat) (hk:k+1 < s.length):((Yy s k 2 4 (bat s k % 8*262144+bat s (k+1) % 64*4096)||(if bat s k % 8*262144+bat s (k+1) % 64*4096 < YM 4 then Yy s k 2 4 (YM 4) else Yy s k 2 4 (bat s k % 8*262144+bat s (k+1) % 64*4096)))||
    (Yy s k 2 4 (bat s k % 8*262144+bat s (k+1) % 64*4096+4095)||(if bat s k % 8*262144+bat s (k+1) % 64*4096+4095 < YM 4 then Yy s k 2 4 (YM 4) else Yy s k 2 4 (bat s k % 8*262144+bat s (k+1) % 64*4096+4095))))=
    decide (240≤bat s k∧bat s k≤244∧bat s (k+1) / 64=2∧(bat s k=240→144≤bat s (k+1))∧(bat s k=244→bat s (k+1)≤143)):=by
  have hb0:=Yu s k
  have hb1:=Yu s (k+1)
  have hl:YM 4=65536:=rfl
  rw [hl,Bool.eq_iff_iff,or4,YAr]
  have t1:=YPa s k (bat s k % 8*262144+bat s (k+1) % 64*4096) hk
  have t2:=YPa s k (bat s k % 8*262144+bat s (k+1) % 64*4096+4095) hk
  have t3:=YPa s k 65536 hk
  constructor
  · rintro (h | h | h | h)
    · have:=t1.1 h; omega
    · split at h
      · have:=t3.1 h; omega
      · have:=t1.1 h; omega
    · have:=t2.1 h; omega
    · split at h
      · have:=t3.1 h; omega
      · have:=t2.1 h; omega
  · intro h
    exact .inl (t1.2 (by omega))
theorem YZo (s:List UInt8) (k:Nat) (hk:k+2 < s.length):((Yy s k 3 4 (bat s k % 8*262144+bat s (k+1) % 64*4096+bat s (k+2) % 64*64)||(if bat s k % 8*262144+bat s (k+1) % 64*4096+bat s (k+2) % 64*64 < YM 4 then Yy s k 3 4 (YM 4) else Yy s k 3 4 (bat s k % 8*262144+bat s (k+1) % 64*4096+bat s (k+2) % 64*64)))||
    (Yy s k 3 4 (bat s k % 8*262144+bat s (k+1) % 64*4096+bat s (k+2) % 64*64+63)||(if bat s k % 8*262144+bat s (k+1) % 64*4096+bat s (k+2) % 64*64+63 < YM 4 then Yy s k 3 4 (YM 4) else Yy s k 3 4 (bat s k % 8*262144+bat s (k+1) % 64*4096+bat s (k+2) % 64*64+63))))=
    decide ((240≤bat s k∧bat s k≤244∧bat s (k+1) / 64=2∧(bat s k=240→144≤bat s (k+1))∧(bat s k=244→bat s (k+1)≤143))∧bat s (k+2) / 64=2):=by
  have hb0:=Yu s k
  have hb1:=Yu s (k+1)
  have hb2:=Yu s (k+2)
  have hl:YM 4=65536:=rfl
  rw [hl,Bool.eq_iff_iff,or4,YAr]
  have t1:=YQa s k (bat s k % 8*262144+bat s (k+1) % 64*4096+bat s (k+2) % 64*64) hk
  have t2:=YQa s k (bat s k % 8*262144+bat s (k+1) % 64*4096+bat s (k+2) % 64*64+63) hk
  have t3:=YQa s k 65536 hk
  constructor
  · rintro (h | h | h | h)
    · have:=t1.1 h; omega
    · split at h
      · have:=t3.1 h; omega
      · have:=t1.1 h; omega
    · have:=t2.1 h; omega
    · split at h
      · have:=t3.1 h; omega
      · have:=t2.1 h; omega
  · intro h
    exact .inl (t1.2 (by omega))
end Go.Abs
namespace Go.Abs
set_option autoImplicit false

theorem Y66 (s:List UInt8) (k n w i:Nat) (lo hi:Int) (hs:s.length≤1073741824) (hk:k+i < s.length) (hiw:i < w) (hin:i < n) (hi4:i≤4) (l0:0≤lo∧lo < 32768) (h0:0≤hi∧hi < 32768):
    Zp3 s (k:Int) (n:Int) (w:Int) lo hi (i:Int)=Zp3 s (k:Int) (n:Int) (w:Int) (lo*64+bat s (k+i) % 64) (hi*64+bat s (k+i) % 64) ((i+1:Nat):Int):=by
  have hb:=Yu s (k+i)
  have hw:IntKind.i64.wrap ((k:Int)+(i:Int))=((k+i:Nat):Int):=by rw [w64 (by omega) (by omega)]; omega
  have hw1:IntKind.i64.wrap ((i:Int)+1)=((i+1:Nat):Int):=by rw [w64 (by omega) (by omega)]; omega
  rw [Yn8,Yc,Yhr hiw,Yjr,Yc,Yhr hin,Yjr,hw,hw1,Yj,Yhr hk,Yjr,Yjr,Ypr,show (((s.getD (k+i) 0).toNat:Nat):Int)=bat s (k+i) from rfl,m63 hb,
    w32 (x:=bat s (k+i) % 64) (by omega) (by omega),w32 (x:=lo*64) (by omega) (by omega),w32 (x:=hi*64) (by omega) (by omega),w32 (x:=lo*64+bat s (k+i) % 64) (by omega) (by omega),w32 (x:=hi*64+bat s (k+i) % 64) (by omega) (by omega)]
theorem Y76 (s:List UInt8) (k n w i:Nat) (lo hi:Int) (hiw:i < w) (hin:¬i < n) (hi4:i≤4) (l0:0≤lo∧lo < 32768) (h0:0≤hi∧hi < 32768):
    Zp3 s (k:Int) (n:Int) (w:Int) lo hi (i:Int)=Zp3 s (k:Int) (n:Int) (w:Int) (lo*64) (hi*64+63) ((i+1:Nat):Int):=by
  have hw1:IntKind.i64.wrap ((i:Int)+1)=((i+1:Nat):Int):=by rw [w64 (by omega) (by omega)]; omega
  rw [Yn8,Yc,Yhr hiw,Yjr,Yc,Yir hin,Ykr,hw1,w32 (x:=lo*64) (by omega) (by omega),w32 (x:=hi*64) (by omega) (by omega),w32 (x:=hi*64+63) (by omega) (by omega)]
theorem bend (s:List UInt8) (k n w:Nat) (lo hi:Int) (hs:s.length≤1073741824) (hk:k≤s.length) (hw:w=3∨w=4) (hn:n≤w) (hl:lo < 2097152) (hh:hi < 2097152) (x:Bool) (hX:Zo3 s (k:Int) (n:Int) ((w+1:Nat):Int)=some x):
    Zp3 s (k:Int) (n:Int) (w:Int) lo hi (w:Int)=some (((Yy s k n w lo||(if lo < YM w then Yy s k n w (YM w) else Yy s k n w lo))||(Yy s k n w hi||(if hi < YM w then Yy s k n w (YM w) else Yy s k n w hi)))||x):=by
  have hw1:IntKind.i64.wrap ((w:Int)+1)=((w+1:Nat):Int):=by rw [w64 (by omega) (by omega)]; omega
  rw [Yn8,Yc,Yir (YJr _),Ykr,YVd s k n w lo hs hk hw hn hl,Ylr,YVd s k n w hi hs hk hw hn hh,Ylr,hw1,hX]
  generalize (Yy s k n w lo||(if lo < YM w then Yy s k n w (YM w) else Yy s k n w lo))=A
  generalize (Yy s k n w hi||(if hi < YM w then Yy s k n w (YM w) else Yy s k n w hi))=B
  cases A <;> cases B <;> rfl
theorem Ykk (s:List UInt8) (k n:Nat) (hk:k < s.length):Zo3 s (k:Int) (n:Int) ((3:Nat):Int)=Zp3 s (k:Int) (n:Int) ((3:Nat):Int) (bat s k % 16) (bat s k % 16) ((1:Nat):Int):=by
  have hb:=Yu s k
  rw [Yl8,show decide (((3:Nat):Int)≤4)=true from rfl,Yjr,Yj,Yhr hk,Yjr,show Ya ((3:Nat):Int) ([(0:Int),(127:Int),(31:Int),(15:Int),(7:Int)]:List Int).length=true from rfl,Yjr,Ypr,show (((s.getD k 0).toNat:Nat):Int)=bat s k from rfl,
    show List.getD ([(0:Int),(127:Int),(31:Int),(15:Int),(7:Int)]:List Int) (Int.toNat ((3:Nat):Int)) (Ty.zero (.int .u8))=15 from rfl,m15 hb,w32 (by omega) (by omega)]
  rfl
theorem Yed (s:List UInt8) (k n:Nat) (hk:k < s.length):Zo3 s (k:Int) (n:Int) ((4:Nat):Int)=Zp3 s (k:Int) (n:Int) ((4:Nat):Int) (bat s k % 8) (bat s k % 8) ((1:Nat):Int):=by
  have hb:=Yu s k
  rw [Yl8,show decide (((4:Nat):Int)≤4)=true from rfl,Yjr,Yj,Yhr hk,Yjr,show Ya ((4:Nat):Int) ([(0:Int),(127:Int),(31:Int),(15:Int),(7:Int)]:List Int).length=true from rfl,Yjr,Ypr,show (((s.getD k 0).toNat:Nat):Int)=bat s k from rfl,
    show List.getD ([(0:Int),(127:Int),(31:Int),(15:Int),(7:Int)]:List Int) (Int.toNat ((4:Nat):Int)) (Ty.zero (.int .u8))=7 from rfl,m7 hb,w32 (by omega) (by omega)]
  rfl
theorem Yfd (s:List UInt8) (k n:Nat):Zo3 s (k:Int) (n:Int) ((5:Nat):Int)=some false:=by
  rw [Yl8,show decide (((5:Nat):Int)≤4)=false from rfl,Ykr]
instance (s:List UInt8) (k:Nat):Decidable (Ye2 s k):=by unfold Ye2; infer_instance
theorem Ybr {s:List UInt8} {k:Nat} (h:(Yk s k).2.2=true):(Yk s k).2.1=1:=by
  by_cases q1:ut1 s k=true
  · have e:Yk s k=(bat s k,(1,false)):=by unfold Yk; rw [Ynr q1]
    rw [e]
  by_cases q2:ut2 s k=true
  · have e:Yk s k=(c2 s k,(2,false)):=by unfold Yk; rw [Ymr q1,Ynr q2]
    rw [e] at h; cases h
  by_cases q3:ut3 s k=true
  · have e:Yk s k=(c3 s k,(3,false)):=by unfold Yk; rw [Ymr q1,Ymr q2,Ynr q3]
    rw [e] at h; cases h
  by_cases q4:ut4 s k=true
  · have e:Yk s k=(c4 s k,(4,false)):=by unfold Yk; rw [Ymr q1,Ymr q2,Ymr q3,Ynr q4]
    rw [e] at h; cases h
  · have e:Yk s k=(65533,(1,true)):=by unfold Yk; rw [Ymr q1,Ymr q2,Ymr q3,Ymr q4]
    rw [e]
theorem Yhk (s:List UInt8) (k:Nat) (hs:s.length≤1073741824) (hk:k < s.length):∃ b,Yu6 (s,(k:Int),2)=some b∧(b=true↔Ye2 s k):=by
  rw [YUd]
  dsimp only
  rw [Ymc,w64 (by omega) (by omega)]
  by_cases c:k+1 < s.length
  · have hb0:=Yu s k
    have hb1:=Yu s (k+1)
    have s4:Zo3 s (k:Int) ((2:Nat):Int) ((4:Nat):Int)=Zp3 s (k:Int) ((2:Nat):Int) ((4:Nat):Int) (bat s k % 8*262144+bat s (k+1) % 64*4096) (bat s k % 8*262144+bat s (k+1) % 64*4096+4095) ((4:Nat):Int):=by
      rw [Yed s k 2 hk,Y66 s k 2 4 1 _ _ hs (by omega) (by omega) (by omega) (by omega) (by omega) (by omega),Y76 s k 2 4 2 _ _ (by omega) (by omega) (by omega) (by omega) (by omega),Y76 s k 2 4 3 _ _ (by omega) (by omega) (by omega) (by omega) (by omega),
        show (bat s k % 8*64+bat s (k+1) % 64)*64*64=bat s k % 8*262144+bat s (k+1) % 64*4096 from by omega,show ((bat s k % 8*64+bat s (k+1) % 64)*64+63)*64+63=bat s k % 8*262144+bat s (k+1) % 64*4096+4095 from by omega]
    have e4:=s4.trans (bend s k 2 4 _ _ hs (by omega) (.inr rfl) (by omega) (by omega) (by omega) false (Yfd s k 2))
    have s3:Zo3 s (k:Int) ((2:Nat):Int) ((3:Nat):Int)=Zp3 s (k:Int) ((2:Nat):Int) ((3:Nat):Int) (bat s k % 16*4096+bat s (k+1) % 64*64) (bat s k % 16*4096+bat s (k+1) % 64*64+63) ((3:Nat):Int):=by
      rw [Ykk s k 2 hk,Y66 s k 2 3 1 _ _ hs (by omega) (by omega) (by omega) (by omega) (by omega) (by omega),Y76 s k 2 3 2 _ _ (by omega) (by omega) (by omega) (by omega) (by omega),
        show (bat s k % 16*64+bat s (k+1) % 64)*64=bat s k % 16*4096+bat s (k+1) % 64*64 from by omega]
    have e3:=s3.trans (bend s k 2 3 _ _ hs (by omega) (.inl rfl) (by omega) (by omega) (by omega) _ e4)
    rw [low3 s k c,low4 s k c] at e3
    rw [show decide ((k:Int)+2 > (s.length:Int))=false from Yir (by omega),Ykr,show IntKind.i64.wrap ((2:Int)+1)=((3:Nat):Int) from a3]
    refine ⟨_,e3,?_⟩
    unfold Ye2
    rw [Bool.or_false,Bool.or_eq_true,YAr,YAr,←Ymq (bat s k) (bat s (k+1)) hb0]
    exact ⟨fun h=> ⟨c,h⟩,fun h=> h.2⟩
  · rw [show decide ((k:Int)+2 > (s.length:Int))=true from Yhr (by omega),Yjr]
    refine ⟨false,rfl,?_⟩
    unfold Ye2
    constructor
    · intro h; cases h
    · intro h; exact absurd h.1 c
theorem Yik (s:List UInt8) (k:Nat) (hs:s.length≤1073741824) (hk:k < s.length):∃ b,Yu6 (s,(k:Int),3)=some b∧(b=true↔(Ye2 s k∧k+2 < s.length∧(secI (bat s k)).2.2=4∧Yp4 (bat s (k+2))=true)):=by
  rw [YUd]
  dsimp only
  rw [Ymc,w64 (by omega) (by omega)]
  by_cases c:k+2 < s.length
  · have hb0:=Yu s k
    have hb1:=Yu s (k+1)
    have hb2:=Yu s (k+2)
    have s4:Zo3 s (k:Int) ((3:Nat):Int) ((4:Nat):Int)=Zp3 s (k:Int) ((3:Nat):Int) ((4:Nat):Int) (bat s k % 8*262144+bat s (k+1) % 64*4096+bat s (k+2) % 64*64) (bat s k % 8*262144+bat s (k+1) % 64*4096+bat s (k+2) % 64*64+63) ((4:Nat):Int):=by
      rw [Yed s k 3 hk,Y66 s k 3 4 1 _ _ hs (by omega) (by omega) (by omega) (by omega) (by omega) (by omega),Y66 s k 3 4 2 _ _ hs (by omega) (by omega) (by omega) (by omega) (by omega) (by omega),Y76 s k 3 4 3 _ _ (by omega) (by omega) (by omega) (by omega) (by omega),
        show ((bat s k % 8*64+bat s (k+1) % 64)*64+bat s (k+2) % 64)*64=bat s k % 8*262144+bat s (k+1) % 64*4096+bat s (k+2) % 64*64 from by omega]
    have e4:=s4.trans (bend s k 3 4 _ _ hs (by omega) (.inr rfl) (by omega) (by omega) (by omega) false (Yfd s k 3))
    rw [YZo s k c] at e4
    rw [show decide ((k:Int)+3 > (s.length:Int))=false from Yir (by omega),Ykr,show IntKind.i64.wrap ((3:Int)+1)=((4:Nat):Int) from by kernel_rfl]
    refine ⟨_,e4,?_⟩
    unfold Ye2 Yp4
    rw [Bool.or_false,YAr,YAr,←Ynq (bat s k) (bat s (k+1)) hb0]
    constructor
    · rintro ⟨⟨h1,h2⟩,h3⟩
      exact ⟨⟨by omega,by omega,h2⟩,c,h1,by omega⟩
    · rintro ⟨⟨h1,h2,h3⟩,h4,h5,h6⟩
      exact ⟨⟨h5,h3⟩,by omega⟩
  · rw [show decide ((k:Int)+3 > (s.length:Int))=true from Yhr (by omega),Yjr]
    refine ⟨false,rfl,?_⟩
    constructor
    · intro h; cases h
    · intro h; exact absurd h.2.1 c

theorem Ykb (s:List UInt8) (hs:s.length≤1073741824):∀ (n k:Nat) (r:List D181),s.length≤k+n→k≤s.length→r.length+n≤1073741824→∃ l:List D181,Zz2 s (k:Int) r=some (r++l)∧l.map (·.2.2.1)=(wpcs s n k).map (·.2.1)∧l.length≤n
  | 0,k,r,hn,hk,hr=> by
    refine ⟨[],?_,rfl,Nat.le_refl _⟩
    rw [Yp8,Yc,Yir (by omega),Ykr,YKr]
  | n+1,k,r,hn,hk,hr=> by
    by_cases c:k < s.length
    · have hw:=Ynh s k c
      have hwd:=Y02 s k c
      have hwrong:(Yk s k).2.2=true→(Yk s k).2.1=1∧wwd s k=if Ye2 s k then (if k+2 < s.length∧(secI (bat s k)).2.2=4∧Yp4 (bat s (k+2))=true then 3 else 2) else 1:=by
        intro hwr
        refine ⟨Ybr hwr,?_⟩
        unfold wwd
        rw [Ynr hwr]
        unfold webW Ye2
        rfl
      have hright:(Yk s k).2.2=false→(Yk s k).2.1=((wwd s k:Nat):Int):=by
        intro hf
        unfold wwd
        rw [Ymr (by rw [hf]; exact Bool.false_ne_true)]
        exact hwd.2.2.2.symm
      obtain ⟨b3,q1,q2⟩:=Yik s k hs c
      obtain ⟨b2,q3,q4⟩:=Yhk s k hs c
      have hm:(wpcs s (n+1) k).map (·.2.1)=(Yk s k).1::(wpcs s n (k+wwd s k)).map (·.2.1):=by rw [wpcs,Ynr c,YEr]
      rw [Yp8,Yc,Yhr c,Yjr,YOd s k hs c,Ylr,hm]
      generalize Yk s k=ra at hwrong hright ⊢
      obtain ⟨ru,w0,wr⟩:=ra
      dsimp only at hwrong hright ⊢
      have fin:∀ d:D181,d.2.1=((wwd s k:Nat):Int)→d.2.2.1=ru→∃ l:List D181,Z13 s (k:Int) d r=some (r++l)∧l.map (·.2.2.1)=ru::(wpcs s n (k+wwd s k)).map (·.2.1)∧l.length≤n+1:=by
        intro d h1 h2
        obtain ⟨l,g1,g2,g3⟩:=Ykb s hs n (k+wwd s k) (r++[d]) (by omega) (by omega) (by simp only [Yrr,Yqr,Yvr]; omega)
        refine ⟨d::l,?_,?_,by simp only [Yqr]; omega⟩
        · rw [YJh,show decide (r.length+[d].length≤lim)=true from Yhr (by simp only [lim,Yqr,Yvr]; omega),Yjr,h1,w64 (by omega) (by omega),show (k:Int)+((wwd s k:Nat):Int)=((k+wwd s k:Nat):Int) from by omega,g1,Ysr]; rfl
        · rw [YEr,g2,h2]
      cases wr with
      | true=>
        obtain ⟨hone,hwebW⟩:=hwrong rfl
        rw [Yjr,Yi8,show decide ((3:Int) > 1)=true from rfl,Yjr,q1,Ylr]
        cases hb3:b3 with
        | true=>
          have h:=q2.1 hb3
          rw [Yjr]
          exact fin _ (by rw [hwebW,Ynr h.1,Ynr h.2]; rfl) rfl
        | false=>
          have hn3:¬(Ye2 s k∧k+2 < s.length∧(secI (bat s k)).2.2=4∧Yp4 (bat s (k+2))=true):=fun e=> by rw [q2.2 e] at hb3; cases hb3
          rw [Ykr,show IntKind.i64.wrap ((3:Int) - 1)=2 from k3,Yi8,show decide ((2:Int) > 1)=true from rfl,Yjr,q3,Ylr]
          cases hb2:b2 with
          | true=>
            have h:=q4.1 hb2
            rw [Yjr]
            exact fin _ (by rw [hwebW,Ynr h,Ymr (fun e=> hn3 ⟨h,e⟩)]; rfl) rfl
          | false=>
            have hn2:¬Ye2 s k:=fun e=> by rw [q4.2 e] at hb2; cases hb2
            rw [Ykr,show IntKind.i64.wrap ((2:Int) - 1)=1 from k2,Yi8,show decide ((1:Int) > 1)=false from rfl,Ykr]
            exact fin _ (by rw [hwebW,Ymr hn2]; exact hone) rfl
      | false=>
        rw [Ykr]
        exact fin _ (hright rfl) rfl
    · refine ⟨[],?_,?_,by simp⟩
      · rw [Yp8,Yc,Yir c,Ykr,YKr]
      · rw [wpcs,Ymr c]; rfl
theorem Ylh (l:List D181) (hl:l.length≤1000000000) (hs:YN (l.map (·.2.2.1))):∀ (n i:Nat) (r:List Int),i+n=l.length→r.length≤4*i→Z33 l (i:Int) r=some (Ym (r++YI1 ((l.drop i).map (·.2.2.1))))
  | 0,i,r,h,hr=> by
    have:i=l.length:=by omega
    subst this
    rw [YBb,Yc,Yir (YJr _),Ykr,List.drop_length]; simp [YI1]
  | n+1,i,r,h,hr=> by
    have hi:i < l.length:=by omega
    have hw:IntKind.i64.wrap ((i:Int)+1)=((i+1:Nat):Int):=by rw [w64 (by omega) (by omega)]; omega
    have hg:List.getD l (Int.toNat (i:Int)) (Ty.zero T181)=l[i]:=by
      rw [Ypr,Yyr,Yzr hi]; rfl
    have hsc:=hs _ (List.mem_map_of_mem (f:=fun x:D181=> x.2.2.1) (List.getElem_mem hi))
    have hr2:=Yq2 hsc
    have hb:=YF3 l[i].2.2.1
    rw [YBb,Yc,Yhr hi,Yjr,Yj,Yhr hi,Yjr,hg,Yo6 _ hr2.1 (by omega),Ylr,
      show decide (r.length+(Yv l[i].2.2.1).length≤lim)=true from Yhr (by simp only [lim]; omega),Yjr,hw,Ylh l hl hs n (i+1) _ (by omega) (by rw [Yrr]; omega),Yur hi,YEr]
    simp only [YI1,List.flatMap_cons,Ysr]
theorem YRd (s:List UInt8) (hs:s.length≤1000000000):Yt6 s=some (YB1 s):=by
  obtain ⟨l,h1,h2,h3⟩:=Ykb s (by omega) s.length 0 [] (by omega) (by omega) (by simp only [Yvr]; omega)
  rw [show ((0:Nat):Int)=0 from rfl,YLr] at h1
  have hm:l.map (·.2.2.1)=Yy3 s:=h2
  have hw:=Ylh l (by omega) (by rw [hm]; exact Y8r s) l.length 0 [] (by omega) (by simp)
  rw [show ((0:Nat):Int)=0 from rfl,List.drop_zero,YLr,hm] at hw
  rw [YOl,YEi,YPl,YZj,h1,Ylr,YUl,YOh,hw]
  rfl
end Go.Abs
namespace Go.Abs
set_option autoImplicit false

theorem Y7e (b:Int) (h0:0≤b) (h1:b≤255):Yi4 b=some (nib b):=by
  rw [Yhm,YDj]
  unfold nib
  have hc:b < 48∨(48≤b∧b≤57)∨(58≤b∧b≤64)∨(65≤b∧b≤70)∨(71≤b∧b≤96)∨(97≤b∧b≤102)∨103≤b:=by omega
  rcases hc with h | h | h | h | h | h | h
  · rw [show decide (b≥48)=false from Yir (by omega),show decide (b≥97)=false from Yir (by omega),show decide (b≥65)=false from Yir (by omega),Ykr,Ykr,Ykr]
    repeat rw [Ymr (by omega)]
  · rw [show decide (b≥48)=true from Yhr (by omega),show decide (b≤57)=true from Yhr (by omega),Yjr,Yjr,w8 (x:=b - 48) (by omega) (by omega),w64 (x:=b - 48) (by omega) (by omega),Ynr (by omega)]
  · rw [show decide (b≥48)=true from Yhr (by omega),show decide (b≤57)=false from Yir (by omega),show decide (b≥97)=false from Yir (by omega),show decide (b≥65)=false from Yir (by omega),Yjr,Ykr,Ykr,Ykr]
    repeat rw [Ymr (by omega)]
  · rw [show decide (b≥48)=true from Yhr (by omega),show decide (b≤57)=false from Yir (by omega),show decide (b≥97)=false from Yir (by omega),show decide (b≥65)=true from Yhr (by omega),show decide (b≤70)=true from Yhr (by omega),Yjr,Ykr,Ykr,Yjr,Yjr,w8 (x:=b - 65) (by omega) (by omega),w64 (x:=b - 65) (by omega) (by omega),w64 (by omega) (by omega)]
    first | (rw [Ymr (by omega),Ymr (by omega),Ynr (by omega)]; congr 1; omega) | (rw [Ymr (by omega),Ymr (by omega),Ynr (by omega)])
  · rw [show decide (b≥48)=true from Yhr (by omega),show decide (b≤57)=false from Yir (by omega),show decide (b≥97)=false from Yir (by omega),show decide (b≥65)=true from Yhr (by omega),show decide (b≤70)=false from Yir (by omega),Yjr,Ykr,Ykr,Yjr,Ykr]
    repeat rw [Ymr (by omega)]
  · rw [show decide (b≥48)=true from Yhr (by omega),show decide (b≤57)=false from Yir (by omega),show decide (b≥97)=true from Yhr (by omega),show decide (b≤102)=true from Yhr (by omega),Yjr,Ykr,Yjr,Yjr,w8 (x:=b - 97) (by omega) (by omega),w64 (x:=b - 97) (by omega) (by omega),w64 (by omega) (by omega)]
    first | (rw [Ymr (by omega),Ynr (by omega)]; congr 1; omega) | (rw [Ymr (by omega),Ynr (by omega)])
  · rw [show decide (b≥48)=true from Yhr (by omega),show decide (b≤57)=false from Yir (by omega),show decide (b≥97)=true from Yhr (by omega),show decide (b≤102)=false from Yir (by omega),show decide (b≥65)=true from Yhr (by omega),show decide (b≤70)=false from Yir (by omega),Yjr,Ykr,Yjr,Ykr,Yjr,Ykr]
    repeat rw [Ymr (by omega)]
theorem Ymm (s:List UInt8) (k:Nat) (hs:s.length≤1073741824) (hk:k < s.length):Y59 (s,(k:Int))=some (trip s k):=by
  have e1:IntKind.i64.wrap ((k:Int)+1)=((k+1:Nat):Int):=by rw [w64 (by omega) (by omega)]; omega
  have e2:IntKind.i64.wrap ((k:Int)+2)=((k+2:Nat):Int):=by rw [w64 (by omega) (by omega)]; omega
  have b1:=Yu s (k+1)
  have b2:=Yu s (k+2)
  have n1:=YS2 (bat s (k+1))
  have n2:=YS2 (bat s (k+2))
  rw [Ylm,Y6i]
  simp only
  rw [e1,e2]
  unfold trip
  by_cases a:k+2 < s.length
  · rw [show decide (((k+2:Nat):Int)≥(s.length:Int))=false from Yir (by omega),Ykr,Yj,Yhr hk,Yjr,Ypr,Ypr,Ypr,
      show (((s.getD k 0).toNat:Nat):Int)=bat s k from rfl,show (((s.getD (k+1) 0).toNat:Nat):Int)=bat s (k+1) from rfl,show (((s.getD (k+2) 0).toNat:Nat):Int)=bat s (k+2) from rfl]
    by_cases b:bat s k=37
    · rw [show (bat s k !=37)=false from by simpa using b,Ykr,Yj,Yhr (show k+1 < s.length by omega),Yjr,Yj,Yhr a,Y7e _ b1.1 b1.2,Ylr,Y7e _ b2.1 b2.2]
      simp only [Ylr,Yjr]
      by_cases c:nib (bat s (k+1)) < 0
      · rw [Yhr c,Yjr,Ymr (by omega)]
      · rw [Yir c,Ykr]
        by_cases d:nib (bat s (k+2)) < 0
        · rw [Yhr d,Yjr,Ymr (by omega)]
        · rw [Yir d,Ykr,Ynr (by omega),w64 (x:=16*nib (bat s (k+1))) (by omega) (by omega),w64 (by omega) (by omega)]
          congr 1; omega
    · rw [show (bat s k !=37)=true from by simpa using b,Yjr,Ymr (fun h=> b h.2.1)]
  · rw [show decide (((k+2:Nat):Int)≥(s.length:Int))=true from Yhr (by omega),Yjr,Ymr (fun h=> a h.1)]
theorem Yd8 (s:List UInt8) (hs:s.length≤1073741824):∀ (n k:Nat) (r:List Int),s.length≤k+n→k≤s.length→r.length+n≤1073741824→Zh2 s (k:Int) r=some (r++pdec s n k)
  | 0,k,r,hn,hk,hr=> by
    rw [Y8c,Yc,Yir (by omega),Ykr,pdec,YKr]
  | n+1,k,r,hn,hk,hr=> by
    rw [Y8c,Yc]
    unfold pdec
    by_cases c:k < s.length
    · have ht:=Y9h s k
      rw [Yhr c,Yjr,Ynr c,Ymm s k hs c,Ylr]
      by_cases d:0≤trip s k
      · have hk2:k+2 < s.length:=by
          unfold trip at d
          split at d
          · rename_i h; exact h.1
          · omega
        rw [show decide (trip s k≥0)=true from Yhr d,Yjr,Ynr d,w8 d ht.2,show decide (r.length+[trip s k].length≤lim)=true from Yhr (by simp [lim]; omega),Yjr,
          w64 (x:=(k:Int)+2) (by omega) (by omega),w64 (by omega) (by omega),show (k:Int)+2+1=((k+3:Nat):Int) from by omega,Yd8 s hs n (k+3) _ (by omega) (by omega) (by simp; omega),Ysr]
        rfl
      · rw [show decide (trip s k≥0)=false from Yir d,Ykr,Ymr d,Yj,Yhr c,Yjr,Ypr,show (((s.getD k 0).toNat:Nat):Int)=bat s k from rfl,
          show decide (r.length+[bat s k].length≤lim)=true from Yhr (by simp [lim]; omega),Yjr,w64 (by omega) (by omega),show (k:Int)+1=((k+1:Nat):Int) from by omega,Yd8 s hs n (k+1) _ (by omega) (by omega) (by simp; omega),Ysr]
        rfl
    · rw [Yir c,Ykr,Ymr c,YKr]
theorem Ybm (s:List UInt8) (hs:s.length≤1000000000):Yf5 s=some (Y31 s):=by
  rw [Yam,YTh,Ycm,YNi]
  have h:=Yd8 s (by omega) s.length 0 [] (by omega) (by omega) (by simp; omega)
  have hl:=Yz5 s s.length 0
  rw [show ((0:Nat):Int)=0 from rfl] at h
  rw [h,Ylr,YLr,YRd _ (by unfold Ym; rw [List.length_map]; omega)]
  rfl

theorem Yyf (c:Int) (l:List UInt8) (hl:l.length≤1000):∀ (n i:Nat),i+n=l.length→∃ b,Zr3 c l (i:Int)=some b
  | 0,i,h=> by
    have:i=l.length:=by omega
    subst this
    rw [Ywc,Yc,Yir (YJr _),Ykr]; exact ⟨_,rfl⟩
  | n+1,i,h=> by
    have hi:i < l.length:=by omega
    have hw:IntKind.i64.wrap ((i:Int)+1)=((i+1:Nat):Int):=by rw [w64 (by omega) (by omega)]; omega
    obtain ⟨b,hb⟩:=Yyf c l hl n (i+1) (by omega)
    rw [Ywc,Yc,Yhr hi,Yjr,Yj,Yhr hi,Yjr,hw,hb]
    cases ((((UInt8.toNat (List.getD l (Int.toNat (i:Int)) (0:UInt8))):Nat):Int)==c) with
    | true=> exact ⟨_,rfl⟩
    | false=> exact ⟨_,rfl⟩
theorem YJ4 (c:Int) (l:List UInt8) (hl:l.length≤1000):∃ b,YE1 (c,l)=some b:=by
  rw [Yim,Yrj]
  exact Yyf c l hl l.length 0 (by omega)
theorem Y6e (c:Int) (h0:0≤c) (h1:c≤255):YD6 (1,c)=some (decide (¬(32≤c∧c≤126)),0):=by
  rw [Ygm,YYh]
  dsimp only
  rw [show decide ((1:Int) < 1)=false from rfl,Ykr,show decide ((1:Int) > 8)=false from rfl,Ykr]
  by_cases a:c < 32
  · rw [Yhr a,Yjr,Yhr (by omega)]; rfl
  rw [Yir a,Ykr]
  by_cases b:c > 126
  · rw [Yhr b,Yhr (show ¬(32≤c∧c≤126) by omega)]; rfl
  obtain ⟨y1,e1⟩:=YJ4 c [32,34,60,62,96] (by decide)
  obtain ⟨y2,e2⟩:=YJ4 c [32,34,35,60,62] (by decide)
  obtain ⟨y3,e3⟩:=YJ4 c [63,94,96,123,125] (by decide)
  obtain ⟨y4,e4⟩:=YJ4 c [47,58,59,61,64,91,92,93,124] (by decide)
  obtain ⟨y5,e5⟩:=YJ4 c [36,37,38,43,44] (by decide)
  obtain ⟨y6,e6⟩:=YJ4 c [33,39,40,41,126] (by decide)
  rw [Yir b,Yir (show ¬¬(32≤c∧c≤126) by omega),e1,e2,e3,e4,e5,e6]
  cases y1 <;> cases y2 <;> cases y3 <;> cases y4 <;> cases y5 <;> cases y6 <;> rfl
def oneX (x:Int):Option (List UInt8):=
    bif (Yi (some (IntKind.wrap IntKind.u8 (Int.tdiv x (16:Int)))) (some (IntKind.wrap IntKind.u8 ((IntKind.wrap IntKind.u8 (Int.tdiv x (16:Int)))+(1:Int)))) (List.length ([(48:UInt8),(49:UInt8),(50:UInt8),(51:UInt8),(52:UInt8),(53:UInt8),(54:UInt8),(55:UInt8),(56:UInt8),(57:UInt8),(65:UInt8),(66:UInt8),(67:UInt8),(68:UInt8),(69:UInt8),(70:UInt8)]:List UInt8))) then
      bif (decide (((List.length ([(37:UInt8)]:List UInt8))+(List.length (Yl (some (IntKind.wrap IntKind.u8 (Int.tdiv x (16:Int)))) (some (IntKind.wrap IntKind.u8 ((IntKind.wrap IntKind.u8 (Int.tdiv x (16:Int)))+(1:Int)))) ([(48:UInt8),(49:UInt8),(50:UInt8),(51:UInt8),(52:UInt8),(53:UInt8),(54:UInt8),(55:UInt8),(56:UInt8),(57:UInt8),(65:UInt8),(66:UInt8),(67:UInt8),(68:UInt8),(69:UInt8),(70:UInt8)]:List UInt8))))≤(2 ^ 62))) then
        bif (Yi (some (Int.tmod x (16:Int))) (some (IntKind.wrap IntKind.u8 ((Int.tmod x (16:Int))+(1:Int)))) (List.length ([(48:UInt8),(49:UInt8),(50:UInt8),(51:UInt8),(52:UInt8),(53:UInt8),(54:UInt8),(55:UInt8),(56:UInt8),(57:UInt8),(65:UInt8),(66:UInt8),(67:UInt8),(68:UInt8),(69:UInt8),(70:UInt8)]:List UInt8))) then
          bif (decide (((List.length (([(37:UInt8)]:List UInt8)++(Yl (some (IntKind.wrap IntKind.u8 (Int.tdiv x (16:Int)))) (some (IntKind.wrap IntKind.u8 ((IntKind.wrap IntKind.u8 (Int.tdiv x (16:Int)))+(1:Int)))) ([(48:UInt8),(49:UInt8),(50:UInt8),(51:UInt8),(52:UInt8),(53:UInt8),(54:UInt8),(55:UInt8),(56:UInt8),(57:UInt8),(65:UInt8),(66:UInt8),(67:UInt8),(68:UInt8),(69:UInt8),(70:UInt8)]:List UInt8))))+(List.length (Yl (some (Int.tmod x (16:Int))) (some (IntKind.wrap IntKind.u8 ((Int.tmod x (16:Int))+(1:Int)))) ([(48:UInt8),(49:UInt8),(50:UInt8),(51:UInt8),(52:UInt8),(53:UInt8),(54:UInt8),(55:UInt8),(56:UInt8),(57:UInt8),(65:UInt8),(66:UInt8),(67:UInt8),(68:UInt8),(69:UInt8),(70:UInt8)]:List UInt8))))≤(2 ^ 62))) then
            some ((([(37:UInt8)]:List UInt8)++(Yl (some (IntKind.wrap IntKind.u8 (Int.tdiv x (16:Int)))) (some (IntKind.wrap IntKind.u8 ((IntKind.wrap IntKind.u8 (Int.tdiv x (16:Int)))+(1:Int)))) ([(48:UInt8),(49:UInt8),(50:UInt8),(51:UInt8),(52:UInt8),(53:UInt8),(54:UInt8),(55:UInt8),(56:UInt8),(57:UInt8),(65:UInt8),(66:UInt8),(67:UInt8),(68:UInt8),(69:UInt8),(70:UInt8)]:List UInt8)))++(Yl (some (Int.tmod x (16:Int))) (some (IntKind.wrap IntKind.u8 ((Int.tmod x (16:Int))+(1:Int)))) ([(48:UInt8),(49:UInt8),(50:UInt8),(51:UInt8),(52:UInt8),(53:UInt8),(54:UInt8),(55:UInt8),(56:UInt8),(57:UInt8),(65:UInt8),(66:UInt8),(67:UInt8),(68:UInt8),(69:UInt8),(70:UInt8)]:List UInt8)))
          else
            none
        else
          none
      else
        none
    else
      none
theorem Yjp:(List.range 256).all (fun n=> oneX (n:Int)==some (Ym (esc (n:Int))))=true:=by kernel_rfl
theorem Ykm (c:Int) (h0:0≤c) (h1:c≤255):Y49 c=some (Ym (esc c)):=by
  obtain ⟨n,rfl⟩:=Int.eq_ofNat_of_zero_le h0
  have:=beq_iff_eq.1 (List.all_eq_true.1 Yjp n (List.mem_range.2 (by omega)))
  rw [Yjm,Y3i]
  exact this
theorem YJq (a b:List Int):Ym (a++b)=Ym a++Ym b:=by unfold Ym; rw [List.map_append]
theorem Yib (b:List Int) (hb:∀ x∈b,0≤x∧x≤255) (hl:b.length≤1000000000):∀ (n i:Nat) (t:List UInt8),i+n=b.length→t.length≤3*i→Zf2 1 b t (i:Int)=some (t++Ym ((b.drop i).flatMap encB),0)
  | 0,i,t,h,ht=> by
    have:i=b.length:=by omega
    subst this
    rw [Y3c,Yc,Yir (YJr _),Ykr,List.drop_length]
    show some (t,(0:Int))=some (t++[],0)
    rw [YKr]
  | n+1,i,t,h,ht=> by
    have hi:i < b.length:=by omega
    have hw:IntKind.i64.wrap ((i:Int)+1)=((i+1:Nat):Int):=by rw [w64 (by omega) (by omega)]; omega
    have hg:List.getD b (Int.toNat (i:Int)) (Ty.zero (.int .u8))=b[i]:=by
      rw [Ypr,Yyr,Yzr hi]; rfl
    have hx:=hb _ (List.getElem_mem hi)
    have hlen:=YXe b[i]
    have hso:(Ym (encB b[i])).length=(encB b[i]).length:=by unfold Ym; rw [List.length_map]
    have step:Zf2 1 b (t++Ym (encB b[i])) ((i+1:Nat):Int)=some (t++Ym ((b.drop i).flatMap encB),0):=by
      rw [Yib b hb hl n (i+1) _ (by omega) (by rw [Yrr]; omega),Yur hi,List.flatMap_cons,YJq,Ysr]
    rw [Y3c,Yc,Yhr hi,Yjr,Yj,Yhr hi,Yjr,hg,Y6e _ hx.1 hx.2,Ylr,←Yzn b[i] hx.1 hx.2,hw]
    cases hc:ctlSet.getD b[i].toNat false with
    | true=>
      have e:encB b[i]=esc b[i]:=by unfold encB; rw [Ynr hc]
      rw [e] at step hso
      rw [Yjr,Yjr,Ykm _ hx.1 hx.2,Ylr,show decide (t.length+(Ym (esc b[i])).length≤2 ^ 62)=true from Yhr (by rw [hso,←e]; omega),Yjr,step]
    | false=>
      have e:encB b[i]=[b[i]]:=by unfold encB; rw [Ymr (by rw [hc]; simp)]
      rw [e] at step hso
      rw [Ykr,Yjr,show decide (t.length+(Ym [b[i]]).length≤2 ^ 62)=true from Yhr (by rw [hso]; simp only [Yqr,Yvr]; omega),Yjr,step]
theorem Yem (s:List UInt8) (hs:s.length≤200000000):Yg5 (1,s)=some (YA2 s,0):=by
  have hl:=Y2b s
  have hbl:(YK (YB1 s)).length=(YB1 s).length:=by unfold YK; rw [List.length_map]
  have hgo:=Yib (YK (YB1 s)) (fun x hx=> by
    unfold YK at hx
    obtain ⟨b,_,rfl⟩:=List.mem_map.1 hx
    exact Yv2 b) (by omega) (YK (YB1 s)).length 0 [] (by omega) (by simp)
  rw [show ((0:Nat):Int)=0 from rfl,YLr,List.drop_zero] at hgo
  rw [Ydm,YNh]
  dsimp only
  rw [YRd s (by omega),Ylr,Yfm,YGi]
  dsimp only
  rw [Y6e 0 (by omega) (by omega),Ylr,show ((0:Int) !=0)=false from rfl,Ykr,hgo]
  rfl
end Go.Abs
