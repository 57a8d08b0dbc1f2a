/- Part L1 of the proof: see the last text of the claim. No condition of its own. -/
import Derived.Test.YtddagflhafkbnaaGreatDoorQ1
import Derived.Lib.TrimU
set_option linter.all false
namespace Go.Abs
set_option autoImplicit false

theorem w64 {x:Int} (h1:-9223372036854775808≤x) (h2:x≤9223372036854775807):IntKind.i64.wrap x=x:=by
  change (if (true&&decide (x % (18446744073709551616:Int)≥(9223372036854775808:Int)))=true then x % (18446744073709551616:Int) - (18446744073709551616:Int) else x % (18446744073709551616:Int))=x
  by_cases h:x % (18446744073709551616:Int)≥(9223372036854775808:Int)
  · rw [Ynr (by simp [h])]; omega
  · rw [Ymr (by simp [h])]; omega

theorem Yj {i n:Nat}:Ya (i:Int) n=decide (i < n):=by
  unfold Ya
  by_cases h:i < n
  · simp [h]
  · simp [h]

theorem Yc {i n:Nat}:decide ((i:Int) < (n:Int))=decide (i < n):=by
  by_cases h:i < n
  · simp [h]
  · simp [h]

theorem Yr4 {f i n:Nat} (h1:f≤i) (h2:i≤n):Yi (some (f:Int)) (some (i:Int)) n=true:=by
  simp [Yi]; omega
theorem Yj1 {f n:Nat} (h1:f≤n):Yi (some (f:Int)) none n=true:=by
  simp [Yi]; omega
theorem Yq4 {α:Type} (f i:Nat) (x:List α):Yl (some (f:Int)) (some (i:Int)) x=(x.take i).drop f:=by simp [Yl]
theorem YN1 {α:Type} (f:Nat) (x:List α):Yl (some (f:Int)) none x=x.drop f:=by simp [Yl]

def Ya1 (sep:Int):List UInt8→List UInt8→List (List UInt8)
  | cur,[]=> [cur]
  | cur,b::l=> if ((b.toNat:Nat):Int)=sep then cur::Ya1 sep [] l else Ya1 sep (cur++[b]) l
def YP (s:List UInt8) (sep:Int):List (List UInt8):=Ya1 sep [] s

theorem Yq3 (sep:Int):∀ (l cur:List UInt8),(Ya1 sep cur l).length≤l.length+1
  | [],cur=> by simp [Ya1]
  | b::l,cur=> by
    unfold Ya1
    split
    · simp only [Yqr]; have:=Yq3 sep l []; omega
    · have:=Yq3 sep l (cur++[b]); simp only [Yqr]; omega

theorem YVa {s:List UInt8} {f i:Nat} (hf:f≤i) (hi:i < s.length):(s.take (i+1)).drop f=(s.take i).drop f++[s[i]]:=by
  rw [List.take_succ_eq_append_getElem hi,List.drop_append_of_le_length (by simp; omega)]

theorem Yga (s:List UInt8) (sep:Int) (hs:s.length≤1073741824):∀ (k f i:Nat) (r:List (List UInt8)),f≤i→i+k=s.length→r.length+k≤1073741824→
    Z61 s sep (f:Int) (s.length:Int) (i:Int) r=some (r++Ya1 sep ((s.take i).drop f) (s.drop i))
  | 0,f,i,r,hf,hk,hr=> by
    have hi:i=s.length:=by omega
    subst hi
    rw [YJb]
    simp only [Yc,YJr,decide_false,Ykr,Yj1 hf,Yjr,YN1,List.take_length,List.drop_length,Ya1]
    have:decide (r.length+[List.drop f s].length≤lim)=true:=by simp [lim]; omega
    rw [this]; rfl
  | k+1,f,i,r,hf,hk,hr=> by
    have hi:i < s.length:=by omega
    have hw:IntKind.i64.wrap ((i:Int)+1)=((i+1:Nat):Int):=by rw [w64 (by omega) (by omega)]; omega
    have hget:s.getD (Int.toNat (i:Int)) 0=s[i]:=by
      rw [Ypr,Yyr,Yzr hi]; rfl
    have hdrop:s.drop i=s[i]::s.drop (i+1):=Yur hi
    rw [YJb]
    simp only [Yc,hi,decide_true,Yjr,Yj,hget,hw,Yr4 hf (Nat.le_of_lt hi),Yq4]
    rw [hdrop,Ya1]
    by_cases hsep:((s[i].toNat:Nat):Int)=sep
    · have hb:((((s[i].toNat:Nat):Int))==sep)=true:=by simp [hsep]
      have hl:decide (r.length+[List.drop f (List.take i s)].length≤lim)=true:=by simp [lim]; omega
      rw [hb,Yjr,hl,Yjr,Ynr hsep,Yga s sep hs k (i+1) (i+1) _ (Nat.le_refl _) (by omega) (by simp; omega)]
      simp
    · have hb:((((s[i].toNat:Nat):Int))==sep)=false:=by simp [hsep]
      rw [hb,Ykr,Ymr hsep,Yga s sep hs k f (i+1) r (by omega) (by omega) (by omega),YVa hf hi]

theorem Yia (s:List UInt8) (sep:Int) (hs:s.length≤1073741824):∀ (k f i:Nat) (r:List (List UInt8)),f≤i→i+k=s.length→r.length+k≤1073741824→
    Z81 s sep (f:Int) (i:Int) r=some (r++Ya1 sep ((s.take i).drop f) (s.drop i))
  | 0,f,i,r,hf,hk,hr=> by
    have hi:i=s.length:=by omega
    subst hi
    rw [YLb]
    simp only [Yc,YJr,decide_false,Ykr,Yj1 hf,Yjr,YN1,List.take_length,List.drop_length,Ya1]
    have:decide (r.length+[List.drop f s].length≤lim)=true:=by simp [lim]; omega
    rw [this]; rfl
  | k+1,f,i,r,hf,hk,hr=> by
    have hi:i < s.length:=by omega
    have hw:IntKind.i64.wrap ((i:Int)+1)=((i+1:Nat):Int):=by rw [w64 (by omega) (by omega)]; omega
    have hget:s.getD (Int.toNat (i:Int)) 0=s[i]:=by
      rw [Ypr,Yyr,Yzr hi]; rfl
    have hdrop:s.drop i=s[i]::s.drop (i+1):=Yur hi
    rw [YLb]
    simp only [Yc,hi,decide_true,Yjr,Yj,hget,hw,Yr4 hf (Nat.le_of_lt hi),Yq4]
    rw [hdrop,Ya1]
    by_cases hsep:((s[i].toNat:Nat):Int)=sep
    · have hb:((((s[i].toNat:Nat):Int))==sep)=true:=by simp [hsep]
      have hl:decide (r.length+[List.drop f (List.take i s)].length≤lim)=true:=by simp [lim]; omega
      rw [hb,Yjr,hl,Yjr,Ynr hsep,Yia s sep hs k (i+1) (i+1) _ (Nat.le_refl _) (by omega) (by simp; omega)]
      simp
    · have hb:((((s[i].toNat:Nat):Int))==sep)=false:=by simp [hsep]
      rw [hb,Ykr,Ymr hsep,Yia s sep hs k f (i+1) r (by omega) (by omega) (by omega),YVa hf hi]

theorem Yf6 (s:List UInt8) (sep:Int) (hs:s.length≤1073741824):Yf4 (s,sep)=some (YP s sep):=by
  rw [Y5l,Y2i]
  exact Yga s sep hs s.length 0 0 [] (Nat.le_refl _) (by omega) (by simpa using hs)
theorem Yn6 (s:List UInt8) (sep:Int) (hs:s.length≤1073741824):YJ3 (s,sep)=some (YP s sep):=by
  rw [YDl,Ybi]
  exact Yia s sep hs s.length 0 0 [] (Nat.le_refl _) (by omega) (by simpa using hs)
end Go.Abs
namespace Go.Abs
set_option autoImplicit false

def Y7 (b:UInt8):Int:=((b.toNat:Nat):Int)
def lowI (x:Int):Int:=if 65≤x∧x≤90 then bits Go.BinOp.xor IntKind.u8 x 32 else x
def lowB (b:UInt8):UInt8:=UInt8.ofNat (lowI (Y7 b)).toNat

theorem Yv2 (b:UInt8):0≤Y7 b∧Y7 b≤255:=by
  unfold Y7
  have:=b.toNat_lt
  omega

theorem Yha (s0:List UInt8):∀ (k i:Nat) (r:List Int),i+k=r.length→r.length≤1073741824→
    Zj1 s0 65 90 (r.length:Int) (i:Int) r=some (Ym (r.take i++(r.drop i).map lowI))
  | 0,i,r,hk,hr=> by
    have hi:i=r.length:=by omega
    subst hi
    rw [Ycc]
    simp [Yc]
  | k+1,i,r,hk,hr=> by
    have hi:i < r.length:=by omega
    have hw:IntKind.i64.wrap ((i:Int)+1)=((i+1:Nat):Int):=by rw [w64 (by omega) (by omega)]; omega
    have hget:List.getD r (Int.toNat (i:Int)) (Ty.zero (.int .u8))=r[i]:=by
      rw [Ypr,Yyr,Yzr hi]; rfl
    have hdrop:r.drop i=r[i]::r.drop (i+1):=Yur hi
    have htake:∀ l:List Int,(h:i < l.length)→l.take (i+1)=l.take i++[l[i]]:=fun l h=> List.take_succ_eq_append_getElem h
    rw [Ycc]
    simp only [Yc,hi,decide_true,Yjr,Yj,hget,hw]
    rw [hdrop,YEr]
    have next:Zj1 s0 65 90 (r.length:Int) ((i+1:Nat):Int) r=some (Ym (r.take i++[r[i]]++(r.drop (i+1)).map lowI)):=by
      rw [Yha s0 k (i+1) r (by omega) hr,htake r hi]
    by_cases h1:(65:Int)≤r[i]
    · have e1:decide (r[i]≥65)=true:=by simpa using h1
      rw [e1,Yjr]
      by_cases h2:r[i]≤(90:Int)
      · have e2:decide (r[i]≤90)=true:=by simpa using h2
        rw [e2,Yjr]
        have hl:(List.set r (Int.toNat (i:Int)) (bits Go.BinOp.xor IntKind.u8 r[i] 32)).length=r.length:=by simp
        have:=Yha s0 k (i+1) (List.set r (Int.toNat (i:Int)) (bits Go.BinOp.xor IntKind.u8 r[i] 32)) (by rw [hl]; omega) (by rw [hl]; exact hr)
        rw [hl] at this
        rw [this,Ypr]
        have e3:lowI r[i]=bits Go.BinOp.xor IntKind.u8 r[i] 32:=by unfold lowI; rw [Ynr ⟨h1,h2⟩]
        rw [e3,htake _ (by simpa using hi)]
        simp [List.take_set_of_le,List.drop_set_of_lt]
      · have e2:decide (r[i]≤90)=false:=by simpa using h2
        rw [e2,Ykr,next]
        have e3:lowI r[i]=r[i]:=by unfold lowI; rw [Ymr (fun h=> h2 h.2)]
        rw [e3,Ysr]; rfl
    · have e1:decide (r[i]≥65)=false:=by simpa using h1
      rw [e1,Ykr,next]
      have e3:lowI r[i]=r[i]:=by unfold lowI; rw [Ymr (fun h=> h1 h.1)]
      rw [e3,Ysr]; rfl

theorem Ye4 (s:List UInt8) (hs:s.length≤1073741824):Y63 s=some (s.map lowB):=by
  rw [Y2l,YIh,Y6l]
  simp only
  rw [YTi]
  have hl:(YK s).length=s.length:=by simp [YK]
  have:=Yha s (YK s).length 0 (YK s) (by omega) (by omega)
  rw [show ((0:Nat):Int)=(0:Int) from rfl] at this
  rw [this]
  simp [Ym,YK,lowB,Y7,Function.comp_def]

def nib (x:Int):Int:=
  if 48≤x∧x≤57 then x - 48 else if 97≤x∧x≤102 then x - 87 else if 65≤x∧x≤70 then x - 55 else -1

theorem w8 {x:Int} (h1:0≤x) (h2:x≤255):IntKind.u8.wrap x=x:=by
  change (if (false&&decide (x % (256:Int)≥(128:Int)))=true then x % (256:Int) - (256:Int) else x % (256:Int))=x
  rw [Ymr (by simp)]; omega

theorem YFl (x:Int):YV8 x=some (decide (48≤x∧x≤57)):=by
  rw [YEl,Yvj]
  by_cases h:(48:Int)≤x
  · have e1:decide (x≥48)=true:=by simpa using h
    rw [e1,Yjr]; simp [h]
  · have e1:decide (x≥48)=false:=by simpa using h
    rw [e1,Ykr]; simp [h]

theorem YU8 (x:Int) (h0:0≤x) (h1:x≤255):Yc5 x=some (nib x):=by
  rw [YBl,YWh,YFl]
  simp only [Ylr]
  unfold nib
  by_cases a:48≤x∧x≤57
  · rw [Ynr a,Yhr a,Yjr,w8 (by omega) (by omega),w64 (by omega) (by omega)]
  · rw [Ymr a,Yir a,Ykr]
    by_cases b:(97:Int)≤x
    · rw [show decide (x≥97)=true from by simpa using b,Yjr]
      by_cases c:x≤(102:Int)
      · rw [show decide (x≤102)=true from by simpa using c,Yjr,Ynr ⟨b,c⟩,w8 (by omega) (by omega),w64 (x:=x - 97) (by omega) (by omega),w64 (by omega) (by omega)]
        congr 1; omega
      · rw [show decide (x≤102)=false from by simpa using c,Ykr,show decide (x≥65)=true from by simp; omega,Yjr,show decide (x≤70)=false from by simp; omega,Ykr,
          Ymr (fun h=> c h.2),Ymr (by omega)]
    · rw [show decide (x≥97)=false from by simpa using b,Ykr,Ymr (fun h=> b h.1)]
      by_cases c:(65:Int)≤x
      · rw [show decide (x≥65)=true from by simpa using c,Yjr]
        by_cases d:x≤(70:Int)
        · rw [show decide (x≤70)=true from by simpa using d,Yjr,Ynr ⟨c,d⟩,w8 (by omega) (by omega),w64 (x:=x - 65) (by omega) (by omega),w64 (by omega) (by omega)]
          congr 1; omega
        · rw [show decide (x≤70)=false from by simpa using d,Ykr,Ymr (fun h=> d h.2)]
      · rw [show decide (x≥65)=false from by simpa using c,Ykr,Ymr (fun h=> c h.1)]

def hexs:List UInt8:=[48,49,50,51,52,53,54,55,56,57,97,98,99,100,101,102]
theorem Yjo:(List.range 256).all (fun n=> decide (Lib.indexByte hexs (UInt8.ofNat (Y7 (lowB (UInt8.ofNat n))).toNat)=nib (Y7 (UInt8.ofNat n))))=true:=by kernel_rfl
theorem Y86 {p:UInt8→Prop} (h:∀ n,n < 256→p (UInt8.ofNat n)) (b:UInt8):p b:=by
  have:=h b.toNat b.toNat_lt
  rwa [UInt8.ofNat_toNat] at this
theorem Yko (b:UInt8):Lib.indexByte hexs (UInt8.ofNat (Y7 (lowB b)).toNat)=nib (Y7 b):=by
  refine Y86 (p:=fun b=> Lib.indexByte hexs (UInt8.ofNat (Y7 (lowB b)).toNat)=nib (Y7 b)) (fun n hn=> ?_) b
  have:=List.all_eq_true.1 Yjo n (List.mem_range.2 hn)
  simpa using this

def YZ (base:Int):Int→List UInt8→Int
  | n,[]=> n
  | n,b::l=> if nib (Y7 b) < 0∨base≤nib (Y7 b) then -1 else YZ base (if n*base+nib (Y7 b) < 1099511627776 then n*base+nib (Y7 b) else 1099511627776) l

theorem YS2 (x:Int):-1≤nib x∧nib x≤15:=by
  unfold nib; split
  · omega
  · split
    · omega
    · split <;> omega

theorem Yka (s:List UInt8) (base:Int) (hb:2≤base∧base≤16) (hs:s.length≤1073741824):∀ (k i:Nat) (n:Int),i+k=s.length→0≤n→n≤1099511627776→
    Zt s base n (i:Int)=some (YZ base n (s.drop i))
  | 0,i,n,hk,h0,h1=> by
    have hi:i=s.length:=by omega
    subst hi
    rw [YAc]
    simp [Yc,YZ]
  | k+1,i,n,hk,h0,h1=> by
    have hi:i < s.length:=by omega
    have hw:IntKind.i64.wrap ((i:Int)+1)=((i+1:Nat):Int):=by rw [w64 (by omega) (by omega)]; omega
    have hget:s.getD (Int.toNat (i:Int)) 0=s[i]:=by
      rw [Ypr,Yyr,Yzr hi]; rfl
    have hbr:=Yv2 s[i]
    have hnb:=YS2 (Y7 s[i])
    have hm0:0≤n*base:=Int.mul_nonneg h0 (by omega)
    have hm1:n*base≤1099511627776*16:=Int.mul_le_mul h1 hb.2 (by omega) (by omega)
    rw [YAc]
    simp only [Yc,hi,decide_true,Yjr,Yj,hget,hw]
    rw [Yur hi,YZ]
    rw [show ((s[i].toNat:Nat):Int)=Y7 s[i] from rfl,YU8 _ hbr.1 hbr.2]
    simp only [Ylr]
    by_cases a:nib (Y7 s[i]) < 0
    · rw [Yhr a,Yjr,Ynr (.inl a)]
    · rw [Yir a,Ykr]
      by_cases b:base≤nib (Y7 s[i])
      · rw [show decide (nib (Y7 s[i])≥base)=true from by simpa using b,Yjr,Ynr (.inr b)]
      · rw [show decide (nib (Y7 s[i])≥base)=false from by simpa using b,Ykr,Ymr (fun h=> h.elim a b)]
        rw [w64 (x:=n*base) (by omega) (by omega),w64 (by omega) (by omega)]
        by_cases c:n*base+nib (Y7 s[i]) > 1099511627776
        · rw [Yhr c,Yjr,Yka s base hb hs k (i+1) _ (by omega) (by omega) (by omega),Ymr (by omega)]
        · rw [Yir c,Ykr,Yka s base hb hs k (i+1) _ (by omega) (by omega) (by omega)]
          congr 2
          by_cases d:n*base+nib (Y7 s[i]) < 1099511627776
          · rw [Ynr d]
          · rw [Ymr d]; omega

def Yn2 (v:Int):Int×Bool:=if v < 0 then (0,false) else (v,true)

theorem Y7g (s:List UInt8) (base:Int) (hb:2≤base∧base≤16) (hs:s.length≤1073741824):∀ (k i:Nat) (n:Int),i+k=s.length→0≤n→n≤1099511627776→
    Zo s base n (s.length:Int) (i:Int)=some (Yn2 (YZ base n (s.drop i)))
  | 0,i,n,hk,h0,h1=> by
    have hi:i=s.length:=by omega
    subst hi
    rw [Yqc]
    simp [Yc,YZ,Yn2]
    omega
  | k+1,i,n,hk,h0,h1=> by
    have hi:i < s.length:=by omega
    have hw:IntKind.i64.wrap ((i:Int)+1)=((i+1:Nat):Int):=by rw [w64 (by omega) (by omega)]; omega
    have hnb:=YS2 (Y7 s[i])
    have hm0:0≤n*base:=Int.mul_nonneg h0 (by omega)
    have hm1:n*base≤1099511627776*16:=Int.mul_le_mul h1 hb.2 (by omega) (by omega)
    have hcut:(s.take (i+1)).drop i=[s[i]]:=by
      rw [YVa (Nat.le_refl _) hi]; simp
    rw [Yqc]
    simp only [Yc,hi,decide_true,Yjr,hw,Yr4 (Nat.le_succ i) hi,Yq4,hcut]
    rw [Ye4 _ (by simp)]
    simp only [Ylr,YEr,List.map_nil]
    have e0:Ya (0:Int) [lowB s[i]].length=true:=by rw [show (0:Int)=((0:Nat):Int) from rfl,Yj]; simp
    rw [e0,Yjr,Yl4]
    simp only [Yp2]
    rw [show (([lowB s[i]].getD (Int.toNat 0) (0:UInt8)).toNat:Int)=Y7 (lowB s[i]) from rfl]
    rw [show Lib.indexByte [48,49,50,51,52,53,54,55,56,57,97,98,99,100,101,102] (UInt8.ofNat (Y7 (lowB s[i])).toNat)=nib (Y7 s[i]) from Yko s[i]]
    simp only [Ylr]
    rw [Yur hi,YZ]
    by_cases a:nib (Y7 s[i]) < 0
    · rw [Yhr a,Yjr,Ynr (show nib (Y7 s[i]) < 0∨base≤nib (Y7 s[i]) from .inl a)]; rfl
    · rw [Yir a,Ykr]
      by_cases b:base≤nib (Y7 s[i])
      · rw [show decide (nib (Y7 s[i])≥base)=true from by simpa using b,Yjr,Ynr (show nib (Y7 s[i]) < 0∨base≤nib (Y7 s[i]) from .inr b)]; rfl
      · rw [show decide (nib (Y7 s[i])≥base)=false from by simpa using b,Ykr,Ymr (show ¬(nib (Y7 s[i]) < 0∨base≤nib (Y7 s[i])) from fun h=> h.elim a b)]
        rw [w64 (x:=n*base) (by omega) (by omega),w64 (by omega) (by omega)]
        exact Y7g s base hb hs k (i+1) _ (by omega) (by split <;> omega) (by split <;> omega)
end Go.Abs
namespace Go.Abs
set_option autoImplicit false

def isX (b:UInt8):Bool:=Y7 b==120||Y7 b==88
theorem Yyo:(List.range 256).all (fun n=> (bits Go.BinOp.or IntKind.u8 (Y7 (UInt8.ofNat n)) 32==(120:Int))==isX (UInt8.ofNat n))=true:=by kernel_rfl
theorem Yrp (b:UInt8):(bits Go.BinOp.or IntKind.u8 (Y7 b) 32==(120:Int))=isX b:=by
  refine Y86 (p:=fun b=> (bits Go.BinOp.or IntKind.u8 (Y7 b) 32==(120:Int))=isX b) (fun n hn=> ?_) b
  have:=List.all_eq_true.1 Yyo n (List.mem_range.2 hn)
  simpa using this

def Yx1 (s:List UInt8):Int:=match s with
  | []=> -1
  | [b]=> YZ 10 0 [b]
  | a::b::l=> if Y7 a=48 then (if isX b=true then YZ 16 0 l else YZ 8 0 (b::l)) else YZ 10 0 (a::b::l)

theorem YZ9 (a b:UInt8) (l:List UInt8):Yx1 (a::b::l)=if Y7 a=48 then (if isX b=true then YZ 16 0 l else YZ 8 0 (b::l)) else YZ 10 0 (a::b::l):=rfl

theorem YA7 (s:List UInt8) (base:Int) (hb:2≤base∧base≤16) (hs:s.length≤1073741824):Zr s base=some (YZ base 0 s):=by
  rw [YAj]
  exact Yka s base hb hs s.length 0 0 (by omega) (by omega) (by omega)
theorem Yw7 (s:List UInt8) (base:Int) (hb:2≤base∧base≤16) (hs:s.length≤1073741824):Zm s base=some (Yn2 (YZ base 0 s)):=by
  rw [Yhj]
  exact Y7g s base hb hs s.length 0 0 (by omega) (by omega) (by omega)

theorem YH9 (a b:UInt8) (l:List UInt8):decide ((((a::b::l).length:Nat):Int)≥2)=true:=by simp; omega
theorem YG9 (a:UInt8):decide ((([a].length:Nat):Int)≥2)=false:=by simp
theorem YF4 {α:Type} (a:α) (l:List α):Ya (0:Int) (a::l).length=true:=by
  rw [show (0:Int)=((0:Nat):Int) from rfl,Yj]; simp
theorem YM9 {α:Type} (a b:α) (l:List α):Ya (1:Int) (a::b::l).length=true:=by
  rw [show (1:Int)=((1:Nat):Int) from rfl,Yj]; simp
theorem cut1 (a b:UInt8) (l:List UInt8):Yi (some (1:Int)) none (a::b::l).length=true:=Yj1 (f:=1) (by simp)
theorem cut2 (a b:UInt8) (l:List UInt8):Yi (some (2:Int)) none (a::b::l).length=true:=Yj1 (f:=2) (by simp)
theorem YGe (a b:UInt8) (l:List UInt8):Yl (some (1:Int)) none (a::b::l)=b::l:=YN1 1 _
theorem YHe (a b:UInt8) (l:List UInt8):Yl (some (2:Int)) none (a::b::l)=l:=YN1 2 _
theorem get0 (a:UInt8) (l:List UInt8):(((List.getD (a::l) (Int.toNat (0:Int)) (0:UInt8)).toNat:Nat):Int)=Y7 a:=rfl
theorem get1 (a b:UInt8) (l:List UInt8):(((List.getD (a::b::l) (Int.toNat (1:Int)) (0:UInt8)).toNat:Nat):Int)=Y7 b:=rfl

theorem YEm (s:List UInt8) (hs:s.length≤1073741824):Yc9 s=some (Yx1 s):=by
  rw [YDm,Yuj]
  match s,hs with
  | [],_=> rfl
  | [a],hs=>
    rw [show (((([a]:List UInt8).length:Nat):Int)==0)=false from rfl,Ykr,YG9,Ykr]
    rw [Ykr,Yxc,YA7 _ _ (by omega) hs]
    rfl
  | a::b::l,hs=>
    have hl:(b::l).length≤1073741824:=by simp only [Yqr] at hs ⊢; omega
    have hl2:l.length≤1073741824:=by simp only [Yqr] at hs; omega
    have e0:((((a::b::l).length:Nat):Int)==0)=false:=by simp; omega
    simp only [e0,Ykr,YH9,Yjr,YF4,YM9,get0,get1,cut1,cut2,YGe,YHe,Yxc,YA7 _ _ (show (2:Int)≤16∧(16:Int)≤16 by omega) hl2,
      YA7 _ _ (show (2:Int)≤8∧(8:Int)≤16 by omega) hl,YA7 _ _ (show (2:Int)≤10∧(10:Int)≤16 by omega) hs]
    rw [YZ9]
    by_cases h48:Y7 a=48
    · rw [Ynr h48,show (Y7 a==48)=true from by simpa using h48]
      simp only [Yjr]
      by_cases hx:Y7 b=120
      · have:isX b=true:=by simp [isX,hx]
        rw [Ynr this,show (Y7 b==120)=true from by simpa using hx,Yjr]
      · rw [show (Y7 b==120)=false from by simpa using hx,Ykr]
        by_cases hX:Y7 b=88
        · have:isX b=true:=by simp [isX,hX]
          rw [Ynr this,show (Y7 b==88)=true from by simpa using hX,Yjr]
        · have:¬isX b=true:=by simp [isX,hx,hX]
          rw [Ymr this,show (Y7 b==88)=false from by simpa using hX,Ykr]
    · rw [Ymr h48,show (Y7 a==48)=false from by simpa using h48]
      simp only [Ykr]

theorem Ypd (s:List UInt8) (hs:s.length≤1073741824):YG3 s=some (Yn2 (Yx1 s)):=by
  rw [YOk,Ycj]
  match s,hs with
  | [],_=> rfl
  | [a],hs=>
    simp only [YG9,Ykr]
    rw [show (([a]:List UInt8)==[])=false from rfl,Ykr,Ypc,Yw7 _ _ (by omega) hs]
    rfl
  | a::b::l,hs=>
    have hl:(b::l).length≤1073741824:=by simp only [Yqr] at hs ⊢; omega
    have hl2:l.length≤1073741824:=by simp only [Yqr] at hs; omega
    have e0:((a::b::l:List UInt8)==[])=false:=rfl
    simp only [e0,Ykr,YH9,Yjr,YF4,YM9,get0,get1,cut1,cut2,YGe,YHe,Yrp,Ypc,Yw7 _ _ (show (2:Int)≤16∧(16:Int)≤16 by omega) hl2,
      Yw7 _ _ (show (2:Int)≤8∧(8:Int)≤16 by omega) hl,Yw7 _ _ (show (2:Int)≤10∧(10:Int)≤16 by omega) hs]
    rw [YZ9]
    by_cases h48:Y7 a=48
    · rw [Ynr h48,show (Y7 a==48)=true from by simpa using h48]
      simp only [Yjr]
      cases hx:isX b <;> simp
    · rw [Ymr h48,show (Y7 a==48)=false from by simpa using h48]
      simp only [Ykr]

theorem Yu5 (base:Int):∀ (l:List UInt8) (n:Int),n≤1099511627776→YZ base n l≤1099511627776
  | [],n,h=> h
  | b::l,n,h=> by
    unfold YZ
    split
    · omega
    · exact Yu5 base l _ (by split <;> omega)
theorem YWf (s:List UInt8):Yx1 s≤1099511627776:=by
  unfold Yx1
  split
  · omega
  · exact Yu5 _ _ _ (by omega)
  · split
    · split
      · exact Yu5 _ _ _ (by omega)
      · exact Yu5 _ _ _ (by omega)
    · exact Yu5 _ _ _ (by omega)

def YV (s:List UInt8):List (List UInt8):=
  if 1 < (YP s 46).length∧(YP s 46).getD ((YP s 46).length - 1) []=[] then (YP s 46).take ((YP s 46).length - 1) else YP s 46

theorem YM5 (sep:Int):∀ (l cur:List UInt8),1≤(Ya1 sep cur l).length
  | [],cur=> by simp [Ya1]
  | b::l,cur=> by
    unfold Ya1
    split
    · simp
    · exact YM5 sep l _

theorem Ymg (y:List (List UInt8)) (h1:1≤y.length) (h2:y.length≤1073741825):
    (bif (decide ((((List.length y):Nat):Int) > (1:Int))) then
        bif (Ya (IntKind.wrap IntKind.i64 ((((List.length y):Nat):Int) - (1:Int))) (List.length y)) then
          bif ((List.getD y (Int.toNat (IntKind.wrap IntKind.i64 ((((List.length y):Nat):Int) - (1:Int)))) (Ty.zero .str))==([]:List UInt8)) then
            bif (Yi none (some (IntKind.wrap IntKind.i64 ((((List.length y):Nat):Int) - (1:Int)))) (List.length y)) then
              some (List.take (Option.getD (Option.map (Int.toNat) (some (IntKind.wrap IntKind.i64 ((((List.length y):Nat):Int) - (1:Int))))) (List.length y)) y)
            else
              none
          else
            some y
        else
          none
      else
        some y)=some (if 1 < y.length∧y.getD (y.length - 1) []=[] then y.take (y.length - 1) else y):=by
  have hw:IntKind.i64.wrap ((y.length:Int) - 1)=((y.length - 1:Nat):Int):=by rw [w64 (by omega) (by omega)]; omega
  by_cases h:1 < y.length
  · have e1:decide (((y.length:Nat):Int) > 1)=true:=by simp; omega
    rw [e1,Yjr,hw,Yj,Yhr (by omega:y.length - 1 < y.length),Yjr,Ypr]
    rw [show Ty.zero .str=([]:List UInt8) from rfl]
    by_cases g:y.getD (y.length - 1) []=[]
    · rw [g,show ((([]:List UInt8))==[])=true from rfl,Yjr,Ynr ⟨h,rfl⟩]
      have:Yi none (some ((y.length - 1:Nat):Int)) y.length=true:=by simp [Yi]
      rw [this,Yjr]
      simp
    · rw [show (y.getD (y.length - 1) []==([]:List UInt8))=false from by simpa using g,Ykr,Ymr (fun k=> g k.2)]
  · have e1:decide (((y.length:Nat):Int) > 1)=false:=by simp; omega
    rw [e1,Ykr,Ymr (fun k=> h k.1)]

theorem Yqd (s:List UInt8) (hs:s.length≤1073741824):Yc6 s=some (YV s):=by
  rw [YPk,Y7j,Yf6 s 46 hs]
  exact Ymg _ (YM5 _ _ _) (by have:=Yq3 46 s []; unfold YP; omega)
theorem Ybe (s:List UInt8) (hs:s.length≤1073741824):YG6 s=some (YV s):=by
  rw [YFm,Ypj,Yn6 s 46 hs]
  exact Ymg _ (YM5 _ _ _) (by have:=Yq3 46 s []; unfold YP; omega)

theorem Y84 (sep:Int):∀ (l cur x:List UInt8),x∈Ya1 sep cur l→x.length≤cur.length+l.length
  | [],cur,x,h=> by
    simp only [Ya1,YQr] at h; subst h; simp
  | b::l,cur,x,h=> by
    unfold Ya1 at h
    split at h
    · rcases Yxr.1 h with rfl | h
      · simp
      · have:=Y84 sep l [] x h; simp only [Yvr,Yqr] at this ⊢; omega
    · have:=Y84 sep l _ x h; simp only [Yrr,Yqr,Yvr] at this ⊢; omega
theorem Yna (s x:List UInt8) (h:x∈YV s):x.length≤s.length:=by
  have:x∈YP s 46:=by
    unfold YV at h
    split at h
    · exact List.mem_of_mem_take h
    · exact h
  have:=Y84 46 s [] x this
  simpa using this
theorem Yy5 (s:List UInt8):1≤(YV s).length:=by
  have:=YM5 46 s []
  unfold YV
  split
  · rename_i h; rw [YBr]; omega
  · exact this
theorem Ylg (s:List UInt8):(YV s).length≤s.length+1:=by
  have:=Yq3 46 s []
  unfold YV
  split
  · rw [YBr]; unfold YP; omega
  · exact this
end Go.Abs
namespace Go.Abs
set_option autoImplicit false

theorem YK5 {x:Int} {y:Nat} (hy:y≤64) (h1:-9223372036854775808≤x*2 ^ y) (h2:x*2 ^ y≤9223372036854775807):shl IntKind.i64 x (y:Int)=x*2 ^ y:=by
  unfold shl
  rw [Ypr,show (min y IntKind.i64.bits)=y from Nat.min_eq_left hy]
  exact w64 h1 h2

theorem wu64 {x:Int} (h1:0≤x) (h2:x≤9223372036854775807):IntKind.u64.wrap x=x:=by
  change (if (false&&decide (x % (18446744073709551616:Int)≥(9223372036854775808:Int)))=true then x % (18446744073709551616:Int) - (18446744073709551616:Int) else x % (18446744073709551616:Int))=x
  rw [Ymr (by simp)]; omega

def ip4:List Int→Int×Int
  | [a]=> if 4294967296≤a then (0,4) else (IntKind.u32.wrap a,0)
  | [a,b]=> if 16777216≤b∨255 < a then (0,4) else (IntKind.u32.wrap (b+a*16777216),0)
  | [a,b,c]=> if 65536≤c∨255 < a∨255 < b then (0,4) else (IntKind.u32.wrap (c+a*16777216+b*65536),0)
  | [a,b,c,d]=> if 256≤d∨255 < a∨255 < b∨255 < c then (0,4) else (IntKind.u32.wrap (d+a*16777216+b*65536+c*256),0)
  | _=> (0,0)

theorem Ysf (a:Int):ip4 [a]=if 4294967296≤a then (0,4) else (IntKind.u32.wrap a,0):=rfl
theorem Ytf (a b:Int):ip4 [a,b]=if 16777216≤b∨255 < a then (0,4) else (IntKind.u32.wrap (b+a*16777216),0):=rfl
theorem Yuf (a b c:Int):ip4 [a,b,c]=if 65536≤c∨255 < a∨255 < b then (0,4) else (IntKind.u32.wrap (c+a*16777216+b*65536),0):=rfl
theorem Yvf (a b c d:Int):ip4 [a,b,c,d]=if 256≤d∨255 < a∨255 < b∨255 < c then (0,4) else (IntKind.u32.wrap (d+a*16777216+b*65536+c*256),0):=rfl
theorem d32:decide ((0:Int)≤32)=true:=rfl
theorem d24:decide ((0:Int)≤24)=true:=rfl
theorem d16:decide ((0:Int)≤16)=true:=rfl
theorem d8:decide ((0:Int)≤8)=true:=rfl

theorem o32:shl IntKind.i64 1 32=4294967296:=by kernel_rfl
theorem o24:shl IntKind.i64 1 24=16777216:=by kernel_rfl
theorem o16:shl IntKind.i64 1 16=65536:=by kernel_rfl
theorem o8:shl IntKind.i64 1 8=256:=by kernel_rfl

theorem k1:IntKind.i64.wrap ((1:Int) - 1)=0:=by kernel_rfl
theorem k2:IntKind.i64.wrap ((2:Int) - 1)=1:=by kernel_rfl
theorem k3:IntKind.i64.wrap ((3:Int) - 1)=2:=by kernel_rfl
theorem k4:IntKind.i64.wrap ((4:Int) - 1)=3:=by kernel_rfl
theorem q1:IntKind.i64.wrap (8*IntKind.i64.wrap ((5:Int) - 1))=32:=by kernel_rfl
theorem q2:IntKind.i64.wrap (8*IntKind.i64.wrap ((5:Int) - 2))=24:=by kernel_rfl
theorem q3:IntKind.i64.wrap (8*IntKind.i64.wrap ((5:Int) - 3))=16:=by kernel_rfl
theorem q4:IntKind.i64.wrap (8*IntKind.i64.wrap ((5:Int) - 4))=8:=by kernel_rfl
theorem r0:IntKind.i64.wrap (8*IntKind.i64.wrap ((3:Int) - 0))=24:=by kernel_rfl
theorem r1:IntKind.i64.wrap (8*IntKind.i64.wrap ((3:Int) - 1))=16:=by kernel_rfl
theorem r2:IntKind.i64.wrap (8*IntKind.i64.wrap ((3:Int) - 2))=8:=by kernel_rfl
theorem a1:IntKind.i64.wrap ((0:Int)+1)=1:=by kernel_rfl
theorem a2:IntKind.i64.wrap ((1:Int)+1)=2:=by kernel_rfl
theorem a3:IntKind.i64.wrap ((2:Int)+1)=3:=by kernel_rfl
theorem Yv7 (s:List UInt8) (n:Int) (hi:Nat) (r:List Int):Z5 s n 0 hi (hi:Int) (hi:Int) r=some (IntKind.u32.wrap n,0):=by
  rw [YIb]; simp

theorem YT4 (s:List UInt8) (n:Int) (hi i:Nat) (r:List Int) (x:Int) (hx:r[i]? =some x) (h:i < hi) (hhi:hi≤3) (h0:0≤x) (hn0:0≤n) (hn1:n≤1099511627776):
    Z5 s n 0 hi (hi:Int) (i:Int) r=if 255 < x then some (0,4) else Z5 s (n+x*2 ^ (8*(3 - i))) 0 hi (hi:Int) ((i+1:Nat):Int) r:=by
  have hget:List.getD r (0+Int.toNat (i:Int)) (Ty.zero (.int .i64))=x:=by
    rw [Nat.zero_add,Ypr,Yyr,hx]; rfl
  have hw:IntKind.i64.wrap ((i:Int)+1)=((i+1:Nat):Int):=by rw [w64 (by omega) (by omega)]; omega
  have hsh:IntKind.i64.wrap (8*IntKind.i64.wrap ((3:Int) - (i:Int)))=((8*(3 - i):Nat):Int):=by
    rw [w64 (x:=3 - (i:Int)) (by omega) (by omega),w64 (by omega) (by omega)]; omega
  rw [YIb]
  simp only [Yc,h,decide_true,Yjr,Nat.sub_zero,Yj,hget,hw,hsh]
  by_cases c:255 < x
  · rw [show decide (x > 255)=true from by simpa using c,Yjr,Ynr c]
  · rw [show decide (x > 255)=false from by simpa using c,Ykr,Ymr c,show decide ((0:Int)≤((8*(3 - i):Nat):Int))=true from by simp; omega,Yjr]
    have h2:x*2 ^ (8*(3 - i))≤255*16777216:=by
      have:i=0∨i=1∨i=2:=by omega
      rcases this with rfl | rfl | rfl <;> simp <;> omega
    have h1:0≤x*2 ^ (8*(3 - i)):=Int.mul_nonneg h0 (Int.le_of_lt (Int.pow_pos (by omega)))
    rw [YK5 (by omega) (by omega) (by omega),w64 (by omega) (by omega)]

theorem YAp (s:List UInt8) (m:Nat) (parts:List (List UInt8)) (r:List Int) (h1:1≤r.length) (h4:r.length≤4) (hr:∀ x∈r,0≤x∧x≤1099511627776):Z4 s (m:Int) (m:Int) r parts=some (ip4 r):=by
  rw [YEb]
  have e:decide ((m:Int) < (m:Int))=false:=by simp
  rw [e,Ykr]
  match r,h1,h4,hr with
  | [a],_,_,hr=>
    obtain ⟨ha0,ha1⟩:=hr a (by simp)
    simp only [Yqr,Yvr,Nat.zero_add,Int.natCast_one,Int.cast_ofNat_Int,k1,q1,o32,d32]
    rw [show Ya (0:Int) 1=true from rfl]
    simp only [Yjr]
    rw [show List.getD [a] (Int.toNat 0) (Ty.zero (.int .i64))=a from rfl]
    rw [Ysf]
    by_cases c:4294967296≤a
    · rw [show decide (a≥4294967296)=true from by simpa using c,Yjr,Ynr c]
    · rw [show decide (a≥4294967296)=false from by simpa using c,Ykr,Ymr c]
      rw [show Yi none (some (0:Int)) 1=true from rfl,Yjr]
      exact Yv7 s a 0 [a]
  | [a,b],_,_,hr=>
    obtain ⟨ha0,ha1⟩:=hr a (by simp)
    obtain ⟨hb0,hb1⟩:=hr b (by simp)
    simp only [Yqr,Yvr,Nat.zero_add,Nat.reduceAdd,Int.cast_ofNat_Int,k2,q2,o24,d24]
    rw [show Ya (1:Int) 2=true from rfl]
    simp only [Yjr]
    rw [show List.getD [a,b] (Int.toNat 1) (Ty.zero (.int .i64))=b from rfl]
    rw [Ytf]
    by_cases c:16777216≤b
    · rw [show decide (b≥16777216)=true from by simpa using c,Yjr,Ynr (.inl c)]
    · rw [show decide (b≥16777216)=false from by simpa using c,Ykr]
      rw [show Yi none (some (1:Int)) 2=true from rfl,Yjr]
      refine (YT4 s b 1 0 [a,b] a rfl (by omega) (by omega) ha0 hb0 hb1).trans ?_
      by_cases d:255 < a
      · rw [Ynr d,Ynr (.inr d)]
      · rw [Ymr d,Ymr (fun h=> h.elim c d)]
        exact Yv7 s _ 1 _
  | [a,b,c],_,_,hr=>
    obtain ⟨ha0,ha1⟩:=hr a (by simp)
    obtain ⟨hb0,hb1⟩:=hr b (by simp)
    obtain ⟨hc0,hc1⟩:=hr c (by simp)
    simp only [Yqr,Yvr,Nat.zero_add,Nat.reduceAdd,Int.cast_ofNat_Int,k3,q3,o16,d16]
    rw [show Ya (2:Int) 3=true from rfl]
    simp only [Yjr]
    rw [show List.getD [a,b,c] (Int.toNat 2) (Ty.zero (.int .i64))=c from rfl]
    rw [Yuf]
    by_cases g:65536≤c
    · rw [show decide (c≥65536)=true from by simpa using g,Yjr,Ynr (.inl g)]
    · rw [show decide (c≥65536)=false from by simpa using g,Ykr]
      rw [show Yi none (some (2:Int)) 3=true from rfl,Yjr]
      refine (YT4 s c 2 0 [a,b,c] a rfl (by omega) (by omega) ha0 hc0 hc1).trans ?_
      by_cases d:255 < a
      · rw [Ynr d,Ynr (.inr (.inl d))]
      · rw [Ymr d]
        refine (YT4 s _ 2 1 [a,b,c] b rfl (by omega) (by omega) hb0 (by omega) (by omega)).trans ?_
        by_cases f:255 < b
        · rw [Ynr f,Ynr (.inr (.inr f))]
        · rw [Ymr f,Ymr (fun h=> h.elim g (fun h=> h.elim d f))]
          exact Yv7 s _ 2 _
  | [a,b,c,x],_,_,hr=>
    obtain ⟨ha0,ha1⟩:=hr a (by simp)
    obtain ⟨hb0,hb1⟩:=hr b (by simp)
    obtain ⟨hc0,hc1⟩:=hr c (by simp)
    obtain ⟨hx0,hx1⟩:=hr x (by simp)
    simp only [Yqr,Yvr,Nat.zero_add,Nat.reduceAdd,Int.cast_ofNat_Int,k4,q4,o8,d8]
    rw [show Ya (3:Int) 4=true from rfl]
    simp only [Yjr]
    rw [show List.getD [a,b,c,x] (Int.toNat 3) (Ty.zero (.int .i64))=x from rfl]
    rw [Yvf]
    by_cases g:256≤x
    · rw [show decide (x≥256)=true from by simpa using g,Yjr,Ynr (.inl g)]
    · rw [show decide (x≥256)=false from by simpa using g,Ykr]
      rw [show Yi none (some (3:Int)) 4=true from rfl,Yjr]
      refine (YT4 s x 3 0 [a,b,c,x] a rfl (by omega) (by omega) ha0 hx0 hx1).trans ?_
      by_cases d:255 < a
      · rw [Ynr d,Ynr (.inr (.inl d))]
      · rw [Ymr d]
        refine (YT4 s _ 3 1 [a,b,c,x] b rfl (by omega) (by omega) hb0 (by omega) (by omega)).trans ?_
        by_cases f:255 < b
        · rw [Ynr f,Ynr (.inr (.inr (.inl f)))]
        · rw [Ymr f]
          refine (YT4 s _ 3 2 [a,b,c,x] c rfl (by omega) (by omega) hc0 (by omega) (by omega)).trans ?_
          by_cases k:255 < c
          · rw [Ynr k,Ynr (.inr (.inr (.inr k)))]
          · rw [Ymr k,Ymr (fun h=> h.elim g (fun h=> h.elim d (fun h=> h.elim f k)))]
            exact Yv7 s _ 3 _

theorem YU4 (s:List UInt8) (n:Int) (i:Nat) (r:List Int) (x:Int) (hx:r[i]? =some x) (h:i+1 < r.length) (hhi:r.length≤4) (h0:0≤x) (hn0:0≤n) (hn1:n≤1099511627776):
    Z8 s n (i:Int) r=if 255 < x then some (0,4) else Z8 s (n+x*2 ^ (8*(3 - i))) ((i+1:Nat):Int) r:=by
  have hget:List.getD r (Int.toNat (i:Int)) (Ty.zero (.int .i64))=x:=by
    rw [Ypr,Yyr,hx]; rfl
  have hw:IntKind.i64.wrap ((i:Int)+1)=((i+1:Nat):Int):=by rw [w64 (by omega) (by omega)]; omega
  have hl:IntKind.i64.wrap ((r.length:Int) - 1)=((r.length - 1:Nat):Int):=by rw [w64 (by omega) (by omega)]; omega
  have hsh:IntKind.u64.wrap (IntKind.i64.wrap (8*IntKind.i64.wrap ((3:Int) - (i:Int))))=((8*(3 - i):Nat):Int):=by
    rw [w64 (x:=3 - (i:Int)) (by omega) (by omega),w64 (by omega) (by omega),wu64 (by omega) (by omega)]; omega
  rw [YOb]
  simp only [hl,Yc,Yhr (show i < r.length - 1 by omega),Yjr,Yj,Yhr (show i < r.length by omega),hget,hw,hsh]
  by_cases c:255 < x
  · rw [show decide (x > 255)=true from by simpa using c,Yjr,Ynr c]
  · rw [show decide (x > 255)=false from by simpa using c,Ykr,Ymr c,show decide ((0:Int)≤((8*(3 - i):Nat):Int))=true from by simp; omega,Yjr]
    have h2:x*2 ^ (8*(3 - i))≤255*16777216:=by
      have:i=0∨i=1∨i=2:=by omega
      rcases this with rfl | rfl | rfl <;> simp <;> omega
    have h1:0≤x*2 ^ (8*(3 - i)):=Int.mul_nonneg h0 (Int.le_of_lt (Int.pow_pos (by omega)))
    rw [YK5 (by omega) (by omega) (by omega),w64 (by omega) (by omega)]

theorem Yz7 (s:List UInt8) (n:Int) (r:List Int) (x lim':Int) (h1:1≤r.length) (h4:r.length≤4) (hx:r[r.length - 1]? =some x) (hlim:lim'=2 ^ (8*(5 - r.length))) (h0:0≤x) (hx1:x≤1099511627776) (hn0:0≤n) (hn1:n≤1099511627776):
    Z8 s n ((r.length - 1:Nat):Int) r=if lim'≤x then some (0,4) else some (IntKind.u32.wrap (n+x),0):=by
  have hget:List.getD r (Int.toNat ((r.length - 1:Nat):Int)) (Ty.zero (.int .i64))=x:=by
    rw [Ypr,Yyr,hx]; rfl
  have hl:IntKind.i64.wrap ((r.length:Int) - 1)=((r.length - 1:Nat):Int):=by rw [w64 (by omega) (by omega)]; omega
  have hsh:IntKind.u64.wrap (IntKind.i64.wrap (8*IntKind.i64.wrap ((5:Int) - (r.length:Int))))=((8*(5 - r.length):Nat):Int):=by
    rw [w64 (x:=5 - (r.length:Int)) (by omega) (by omega),w64 (by omega) (by omega),wu64 (by omega) (by omega)]; omega
  have hone:shl IntKind.i64 1 ((8*(5 - r.length):Nat):Int)=lim':=by
    have:r.length=1∨r.length=2∨r.length=3∨r.length=4:=by omega
    rcases this with e | e | e | e <;> rw [hlim,e] <;> decide
  rw [YOb]
  simp only [hl,Yc,YJr,decide_false,Ykr,Yj,Yhr (show r.length - 1 < r.length by omega),Yjr,hget,hsh,hone]
  rw [show decide ((0:Int)≤((8*(5 - r.length):Nat):Int))=true from by simp; omega,Yjr]
  by_cases c:lim'≤x
  · rw [show decide (x≥lim')=true from by simpa using c,Yjr,Ynr c]
  · rw [show decide (x≥lim')=false from by simpa using c,Ykr,Ymr c,w64 (by omega) (by omega)]

theorem YBp (s:List UInt8) (r:List Int) (h1:1≤r.length) (h4:r.length≤4) (hr:∀ x∈r,0≤x∧x≤1099511627776):Z8 s 0 0 r=some (ip4 r):=by
  match r,h1,h4,hr with
  | [a],_,_,hr=>
    obtain ⟨ha0,ha1⟩:=hr a (by simp)
    rw [Ysf]
    refine (Yz7 s 0 [a] a 4294967296 (by simp) (by simp) rfl (by kernel_rfl) ha0 ha1 (by omega) (by omega)).trans ?_
    split
    · rfl
    · rw [Int.zero_add]
  | [a,b],_,_,hr=>
    obtain ⟨ha0,ha1⟩:=hr a (by simp)
    obtain ⟨hb0,hb1⟩:=hr b (by simp)
    rw [Ytf]
    refine (YU4 s 0 0 [a,b] a rfl (by simp) (by simp) ha0 (by omega) (by omega)).trans ?_
    by_cases d:255 < a
    · rw [Ynr d,Ynr (.inr d)]
    · rw [Ymr d]
      refine (Yz7 s (0+a*16777216) [a,b] b 16777216 (by simp) (by simp) rfl (by kernel_rfl) hb0 hb1 (by omega) (by omega)).trans ?_
      by_cases c:16777216≤b
      · rw [Ynr c,Ynr (.inl c)]
      · rw [Ymr c,Ymr (fun h=> h.elim c d)]
        congr 3; omega
  | [a,b,c],_,_,hr=>
    obtain ⟨ha0,ha1⟩:=hr a (by simp)
    obtain ⟨hb0,hb1⟩:=hr b (by simp)
    obtain ⟨hc0,hc1⟩:=hr c (by simp)
    rw [Yuf]
    refine (YU4 s 0 0 [a,b,c] a rfl (by simp) (by simp) ha0 (by omega) (by omega)).trans ?_
    by_cases d:255 < a
    · rw [Ynr d,Ynr (.inr (.inl d))]
    · rw [Ymr d]
      refine (YU4 s (0+a*16777216) 1 [a,b,c] b rfl (by simp) (by simp) hb0 (by omega) (by omega)).trans ?_
      by_cases f:255 < b
      · rw [Ynr f,Ynr (.inr (.inr f))]
      · rw [Ymr f]
        refine (Yz7 s (0+a*16777216+b*65536) [a,b,c] c 65536 (by simp) (by simp) rfl (by kernel_rfl) hc0 hc1 (by omega) (by omega)).trans ?_
        by_cases g:65536≤c
        · rw [Ynr g,Ynr (.inl g)]
        · rw [Ymr g,Ymr (fun h=> h.elim g (fun h=> h.elim d f))]
          congr 3; omega
  | [a,b,c,x],_,_,hr=>
    obtain ⟨ha0,ha1⟩:=hr a (by simp)
    obtain ⟨hb0,hb1⟩:=hr b (by simp)
    obtain ⟨hc0,hc1⟩:=hr c (by simp)
    obtain ⟨hx0,hx1⟩:=hr x (by simp)
    rw [Yvf]
    refine (YU4 s 0 0 [a,b,c,x] a rfl (by simp) (by simp) ha0 (by omega) (by omega)).trans ?_
    by_cases d:255 < a
    · rw [Ynr d,Ynr (.inr (.inl d))]
    · rw [Ymr d]
      refine (YU4 s (0+a*16777216) 1 [a,b,c,x] b rfl (by simp) (by simp) hb0 (by omega) (by omega)).trans ?_
      by_cases f:255 < b
      · rw [Ynr f,Ynr (.inr (.inr (.inl f)))]
      · rw [Ymr f]
        refine (YU4 s (0+a*16777216+b*65536) 2 [a,b,c,x] c rfl (by simp) (by simp) hc0 (by omega) (by omega)).trans ?_
        by_cases k:255 < c
        · rw [Ynr k,Ynr (.inr (.inr (.inr k)))]
        · rw [Ymr k]
          refine (Yz7 s (0+a*16777216+b*65536+c*256) [a,b,c,x] x 256 (by simp) (by simp) rfl (by kernel_rfl) hx0 hx1 (by omega) (by omega)).trans ?_
          by_cases g:256≤x
          · rw [Ynr g,Ynr (.inl g)]
          · rw [Ymr g,Ymr (fun h=> h.elim g (fun h=> h.elim d (fun h=> h.elim f k)))]
            congr 3; omega

def YB2:List (List UInt8)→Option (List Int)
  | []=> some []
  | x::l=> if Yx1 x < 0 then none else match YB2 l with
    | some r=> some (Yx1 x::r)
    | none=> none
def YO2 (r:List Int):Option (List Int)→Int×Int
  | some l=> ip4 (r++l)
  | none=> (0,54)

theorem Y4g (s:List UInt8) (parts:List (List UInt8)) (h4:parts.length≤4) (hp:∀ x∈parts,x.length≤1073741824):∀ (k i:Nat) (r:List Int),i+k=parts.length→r.length=i→(∀ x∈r,0≤x∧x≤1099511627776)→1≤parts.length→
    Z4 s (parts.length:Int) (i:Int) r parts=some (YO2 r (YB2 (parts.drop i)))
  | 0,i,r,hk,hl,hr,h1=> by
    have hi:i=parts.length:=by omega
    subst hi
    rw [YAp s parts.length parts r (by omega) (by omega) hr]
    simp [YB2,YO2]
  | k+1,i,r,hk,hl,hr,h1=> by
    have hi:i < parts.length:=by omega
    have hw:IntKind.i64.wrap ((i:Int)+1)=((i+1:Nat):Int):=by rw [w64 (by omega) (by omega)]; omega
    have hget:List.getD parts (Int.toNat (i:Int)) (Ty.zero .str)=parts[i]:=by
      rw [Ypr,Yyr,Yzr hi]; rfl
    rw [YEb]
    simp only [Yc,hi,decide_true,Yjr,Yj,hget,hw,Ypd _ (hp _ (List.getElem_mem hi)),Ylr]
    rw [Yur hi,YB2]
    by_cases c:Yx1 parts[i] < 0
    · simp [Yn2,c,YO2]
    · have hb:decide (r.length+[(Yn2 (Yx1 parts[i])).1].length≤lim)=true:=by simp [lim]; omega
      have e1:(Yn2 (Yx1 parts[i])).2=true:=by simp [Yn2,c]
      have e2:(Yn2 (Yx1 parts[i])).1=Yx1 parts[i]:=by simp [Yn2,c]
      rw [hb,e1,e2,YHr,Ykr,Yjr,Ymr c]
      have hle:=YWf parts[i]
      rw [Y4g s parts h4 hp k (i+1) _ (by omega) (by simp; omega) (by
        intro x hx
        rcases YDr.1 hx with hx | hx
        · exact hr x hx
        · have:x=Yx1 parts[i]:=by simpa using hx
          subst this; omega) h1]
      cases YB2 (parts.drop (i+1)) <;> simp [YO2]

theorem Ybg (s:List UInt8) (parts:List (List UInt8)) (h4:parts.length≤4) (hp:∀ x∈parts,x.length≤1073741824):∀ (k i:Nat) (r:List Int),i+k=parts.length→r.length=i→(∀ x∈r,0≤x∧x≤1099511627776)→1≤parts.length→
    Z7 s (i:Int) parts r=some (YO2 r (YB2 (parts.drop i)))
  | 0,i,r,hk,hl,hr,h1=> by
    have hi:i=parts.length:=by omega
    subst hi
    rw [YKb]
    simp only [Yc,YJr,decide_false,Ykr]
    rw [YBp s r (by omega) (by omega) hr]
    simp [YB2,YO2]
  | k+1,i,r,hk,hl,hr,h1=> by
    have hi:i < parts.length:=by omega
    have hw:IntKind.i64.wrap ((i:Int)+1)=((i+1:Nat):Int):=by rw [w64 (by omega) (by omega)]; omega
    have hget:List.getD parts (Int.toNat (i:Int)) (Ty.zero .str)=parts[i]:=by
      rw [Ypr,Yyr,Yzr hi]; rfl
    rw [YKb]
    simp only [Yc,hi,decide_true,Yjr,Yj,hget,hw,YEm _ (hp _ (List.getElem_mem hi)),Ylr]
    rw [Yur hi,YB2]
    by_cases c:Yx1 parts[i] < 0
    · simp [c,YO2]
    · have hb:decide (r.length+[Yx1 parts[i]].length≤lim)=true:=by simp [lim]; omega
      rw [hb,Yir c,Ykr,Yjr,Ymr c]
      have hle:=YWf parts[i]
      rw [Ybg s parts h4 hp k (i+1) _ (by omega) (by simp; omega) (by
        intro x hx
        rcases YDr.1 hx with hx | hx
        · exact hr x hx
        · have:x=Yx1 parts[i]:=by simpa using hx
          subst this; omega) h1]
      cases YB2 (parts.drop (i+1)) <;> simp [YO2]

def ipOf (s:List UInt8):Int×Int:=if 4 < (YV s).length then (0,3) else YO2 [] (YB2 (YV s))
theorem Yvk (s:List UInt8) (hs:s.length≤1073741823):YE8 s=some (ipOf s):=by
  rw [Yuk,YVh,Yqd s (by omega)]
  simp only [Ylr]
  unfold ipOf
  by_cases c:4 < (YV s).length
  · rw [show decide ((((YV s).length:Nat):Int) > 4)=true from by simp; omega,Yjr,Ynr c]
  · rw [show decide ((((YV s).length:Nat):Int) > 4)=false from by simp; omega,Ykr,Ymr c]
    exact Y4g s (YV s) (by omega) (fun x hx=> by have:=Yna s x hx; omega) (YV s).length 0 [] (by omega) rfl (fun x hx=> by cases hx) (Yy5 s)
theorem Yqm (s:List UInt8) (hs:s.length≤1073741823):Yi5 s=some (ipOf s):=by
  rw [Ypm,Yai,Ybe s (by omega)]
  simp only [Ylr]
  unfold ipOf
  by_cases c:4 < (YV s).length
  · rw [show decide ((((YV s).length:Nat):Int) > 4)=true from by simp; omega,Yjr,Ynr c]
  · rw [show decide ((((YV s).length:Nat):Int) > 4)=false from by simp; omega,Ykr,Ymr c]
    exact Ybg s (YV s) (by omega) (fun x hx=> by have:=Yna s x hx; omega) (YV s).length 0 [] (by omega) rfl (fun x hx=> by cases hx) (Yy5 s)
end Go.Abs
namespace Go.Abs
set_option autoImplicit false

theorem YI9 (l:List UInt8) (i:Nat):((⟨l.toArray⟩:ByteArray).get! i)=l.getD i 0:=by
  show l.toArray[i]! =_
  simp [Yyr,getElem!_def]
  cases l[i]? <;> rfl

theorem YX6 (s:List UInt8) (i:Nat) (h:(s.getD i 0).toNat < 128):Yx s i=((s.getD i 0).toNat,1):=by
  unfold Yx Utf8.decode
  simp only [Nat.add_zero,YI9]
  rw [Ynr h]

theorem YMe (s:List UInt8) (i:Nat) (h:128≤(s.getD i 0).toNat):128≤(Yx s i).1:=by
  unfold Yx Utf8.decode
  simp only [Nat.add_zero,YI9]
  rw [Ymr (by omega)]
  have hr:Utf8.runeError=65533:=rfl
  split
  · split <;> simp only <;> omega
  · split
    · split
      · rename_i h1; simp only [Yor,YAr] at h1; simp only; omega
      · simp only; omega
    · split
      · split
        · rename_i h1; simp only [Yor,YAr] at h1; simp only; omega
        · simp only; omega
      · simp only; omega

def YI (of:List UInt8) (c:Int):Bool:=of.any fun b=> c==Y7 b

theorem Yea (s of t:List UInt8) (i c:Int) (n:Nat) (hof:∀ b∈of,b.toNat < 128):∀ (k j:Nat) (fl:Bool),j+k=of.length→
    Zn1 s of i c fl t n of j=Zn1 s of i c (fl||YI (of.drop j) c) t n of of.length
  | 0,j,fl,hk=> by
    have:j=of.length:=by omega
    subst this
    simp [YI]
  | k+1,j,fl,hk=> by
    have hj:j < of.length:=by omega
    have hget:of.getD j 0=of[j]:=by rw [Yyr,Yzr hj]; rfl
    have hd:Yx of j=(of[j].toNat,1):=by
      rw [YX6 of j (by rw [hget]; exact hof _ (List.getElem_mem hj)),hget]
    rw [Ykc]
    simp only [Yhr hj,Yjr,hd]
    rw [Yur hj]
    cases fl with
    | true=>
      rw [Yjr,Yea s of t i c n hof k (j+1) true (by omega)]
      simp
    | false=>
      rw [Ykr,Yea s of t i c n hof k (j+1) _ (by omega)]
      rfl

theorem Yfa (s of:List UInt8) (c w:Int) (hof:∀ b∈of,b.toNat < 128):∀ (k j:Nat) (fl:Bool),j+k=of.length→
    Zq1 s of c w fl of j=Zq1 s of c w (fl||YI (of.drop j) c) of of.length
  | 0,j,fl,hk=> by
    have:j=of.length:=by omega
    subst this
    simp [YI]
  | k+1,j,fl,hk=> by
    have hj:j < of.length:=by omega
    have hget:of.getD j 0=of[j]:=by rw [Yyr,Yzr hj]; rfl
    have hd:Yx of j=(of[j].toNat,1):=by
      rw [YX6 of j (by rw [hget]; exact hof _ (List.getElem_mem hj)),hget]
    rw [Yuc]
    simp only [Yhr hj,Yjr,hd]
    rw [Yur hj]
    cases fl with
    | true=>
      rw [Yjr,Yfa s of c w hof k (j+1) true (by omega)]
      simp
    | false=>
      rw [Ykr,Yfa s of c w hof k (j+1) _ (by omega)]
      rfl

theorem Yb7 (of:List UInt8) (hof:∀ b∈of,b.toNat < 128) (c:Int) (h:128≤c):YI of c=false:=by
  unfold YI
  rw [List.any_eq_false]
  intro b hb
  have:=hof b hb
  simp only [Y7,beq_iff_eq]
  omega

theorem Y5g (s of:List UInt8) (hof:∀ b∈of,b.toNat < 128) (hs:s.length≤1073741824):∀ (k n:Nat),n+k=s.length→
    Zm1 s of s n=some ((s.drop n).dropWhile fun b=> YI of (Y7 b))
  | 0,n,hk=> by
    have:n=s.length:=by omega
    subst this
    rw [Yic]; simp
  | k+1,n,hk=> by
    have hn:n < s.length:=by omega
    have hget:s.getD n 0=s[n]:=by rw [Yyr,Yzr hn]; rfl
    rw [Yic,Yhr hn,Yjr,Yea s of s _ _ _ hof of.length 0 false (by omega),List.drop_zero,YFr,Ykc]
    rw [show decide (of.length < of.length)=false from by simp,Ykr,Yur hn]
    by_cases ha:s[n].toNat < 128
    · have hd:=YX6 s n (by rw [hget]; exact ha)
      rw [hget] at hd
      rw [hd]
      show (bif !(YI of (Y7 s[n])) then _ else _)=_
      rw [List.dropWhile_cons]
      cases hin:YI of (Y7 s[n]) with
      | true=>
        rw [Ynr rfl]
        exact Y5g s of hof hs k (n+1) (by omega)
      | false=>
        rw [YIr,Yjr,Yj1 (by omega),Yjr,YN1,Ymr (by simp),Yur hn]
    · have hd:=YMe s n (by rw [hget]; omega)
      have h1:YI of (((Yx s n).1:Nat):Int)=false:=Yb7 of hof _ (by omega)
      have h2:YI of (Y7 s[n])=false:=Yb7 of hof _ (by unfold Y7; omega)
      rw [h1,YIr,Yjr,Yj1 (by omega),Yjr,YN1,List.dropWhile_cons,h2,Ymr (by simp),Yur hn]

theorem YIk (s of:List UInt8) (hof:∀ b∈of,b.toNat < 128) (hs:s.length≤1073741824):YJ8 (s,of)=some (s.dropWhile fun b=> YI of (Y7 b)):=by
  rw [YHk,Y8j]
  exact Y5g s of hof hs s.length 0 (by omega)

theorem YNo (l:List UInt8) (b:UInt8) (h:128≤b.toNat):128≤(Lib.decodeLastL (l++[b])).1:=by
  unfold Lib.decodeLastL
  have hr:Utf8.runeError=65533:=rfl
  have hlast:(l++[b]).getD ((l++[b]).length - 1) 0=b:=by simp
  rw [Ymr (by simp),hlast,Ymr (by omega)]
  simp only
  split
  · rename_i hd
    generalize Lib.lastStart (l++[b])=st at hd ⊢
    unfold Lib.decodeL at hd ⊢
    rcases Nat.lt_or_ge (((l++[b]).drop st).getD 0 0).toNat 128 with hlt | hge
    · have e:=YX6 ((l++[b]).drop st) 0 hlt
      unfold Yx at e
      rw [e] at hd
      simp only [Yrr,Yqr,Yvr] at hd
      have hst:st=l.length:=by omega
      subst hst
      simp at hlt
      omega
    · exact YMe ((l++[b]).drop st) 0 hge
  · simp only; omega

theorem Y6g (of:List UInt8) (hof:∀ b∈of,b.toNat < 128):∀ (k:Nat) (s:List UInt8),s.length=k→s.length≤1073741824→∃ r,Zp1 s of=some r∧(r=[]↔s.all (fun b=> YI of (Y7 b))=true)
  | 0,s,hk,hs=> by
    have:s=[]:=List.eq_nil_of_length_eq_zero hk
    subst this
    exact ⟨[],by rw [Yrc]; rfl,by simp⟩
  | k+1,s,hk,hs=> by
    obtain ⟨l,b,rfl⟩:∃ l b,s=l++[b]:=by
      have hne:s≠[]:=by intro e; rw [e] at hk; cases hk
      exact ⟨s.dropLast,s.getLast hne,(List.dropLast_concat_getLast hne).symm⟩
    have hl:l.length=k:=by simpa using hk
    rw [Yrc,show decide ((((l++[b]).length:Nat):Int) > 0)=true from by simp,Yjr,Y4n]
    rw [Y24,show decide ((l++[b]).length≤9223372036854775807)=true from Yhr (by omega),Yjr,Ylr]
    rw [Yfa _ of _ _ hof of.length 0 false (by omega),List.drop_zero,YFr,Yuc,show decide (of.length < of.length)=false from by simp,Ykr]
    by_cases ha:b.toNat < 128
    · have hd:Lib.decodeLastL (l++[b])=(b.toNat,1):=by
        unfold Lib.decodeLastL
        have hlast:(l++[b]).getD ((l++[b]).length - 1) 0=b:=by simp
        rw [Ymr (by simp),hlast,Ynr ha]
      rw [hd]
      show ∃ r,(bif !(YI of (Y7 b)) then _ else _)=some r∧_
      cases hin:YI of (Y7 b) with
      | false=>
        exact ⟨l++[b],rfl,by simp [hin]⟩
      | true=>
        have hw:IntKind.i64.wrap ((((l++[b]).length:Nat):Int) - ((1:Nat):Int))=((l.length:Nat):Int):=by
          simp only [Yrr,Yqr,Yvr]
          rw [w64 (by omega) (by omega)]; omega
        rw [YHr,Ykr,hw]
        have hc:Yi none (some ((l.length:Nat):Int)) (l++[b]).length=true:=by simp [Yi]; omega
        have hcl:Yl none (some ((l.length:Nat):Int)) (l++[b])=l:=by simp [Yl]
        rw [hc,Yjr,hcl]
        obtain ⟨r,h1,h2⟩:=Y6g of hof k l hl (by simp at hs; omega)
        exact ⟨r,h1,by rw [h2]; simp [hin]⟩
    · have h1:=YNo l b (by omega)
      have h2:YI of (((Lib.decodeLastL (l++[b])).1:Nat):Int)=false:=Yb7 of hof _ (by omega)
      have h3:YI of (Y7 b)=false:=Yb7 of hof _ (by unfold Y7; omega)
      rw [h2]
      exact ⟨l++[b],rfl,by simp [h3]⟩

theorem Ya6 (s of:List UInt8) (hof:∀ b∈of,b.toNat < 128) (hs:s.length≤1073741824):Yc4 (s,of)=some (s.all fun b=> YI of (Y7 b)):=by
  rw [YDk,YSh,YIk s of hof hs]
  simp only [Ylr]
  have hle:(s.dropWhile fun b=> YI of (Y7 b)).length≤s.length:=by
    exact (List.dropWhile_suffix _).length_le
  rw [YJk,Yjj]
  obtain ⟨r,h1,h2⟩:=Y6g of hof _ (s.dropWhile fun b=> YI of (Y7 b)) rfl (by omega)
  rw [h1]
  simp only [Ylr]
  have key:(r=[])↔s.all (fun b=> YI of (Y7 b))=true:=by
    rw [h2]
    clear h1 h2 hle hs
    induction s with
    | nil=> simp
    | cons b l ih=>
      rw [List.dropWhile_cons]
      split
      · rename_i h; rw [ih,List.all_cons,h,Bool.true_and]
      · rename_i h; simp [h]
  cases hr:(r==[]) with
  | true=>
    have:r=[]:=by simpa using hr
    rw [key.1 this]
  | false=>
    have:¬(r=[]):=by simpa using hr
    cases ha:s.all (fun b=> YI of (Y7 b)) with
    | true=> exact absurd (key.2 ha) this
    | false=> rfl
end Go.Abs
namespace Go.Abs
set_option autoImplicit false

def digs:List UInt8:=[48,49,50,51,52,53,54,55,56,57]
def YC (b:UInt8):Bool:=decide (48≤Y7 b∧Y7 b≤57)
theorem Y4p:(List.range 256).all (fun n=> (YI hexs (Y7 (lowB (UInt8.ofNat n)))==decide (0≤nib (Y7 (UInt8.ofNat n))))&&((YI digs (Y7 (lowB (UInt8.ofNat n)))==YC (UInt8.ofNat n))&&
    (((lowB (UInt8.ofNat n)==48)==(Y7 (UInt8.ofNat n)==48))&&(((lowB (UInt8.ofNat n)==120)==isX (UInt8.ofNat n))&&(!(isX (UInt8.ofNat n)&&YC (UInt8.ofNat n)))))))=true:=by kernel_rfl
theorem Ym7 (b:UInt8):YI hexs (Y7 (lowB b))=decide (0≤nib (Y7 b))∧YI digs (Y7 (lowB b))=YC b∧(lowB b==48)=(Y7 b==48)∧(lowB b==120)=isX b∧(isX b&&YC b)=false:=by
  refine Y86 (p:=fun b=> YI hexs (Y7 (lowB b))=decide (0≤nib (Y7 b))∧YI digs (Y7 (lowB b))=YC b∧(lowB b==48)=(Y7 b==48)∧(lowB b==120)=isX b∧(isX b&&YC b)=false) (fun n hn=> ?_) b
  have:=List.all_eq_true.1 Y4p n (List.mem_range.2 hn)
  simp only [Yor,Bool.not_eq_true',beq_iff_eq] at this
  exact ⟨this.1,this.2.1,this.2.2.1,this.2.2.2.1,this.2.2.2.2⟩

def Yv4 (x:List UInt8):Bool:=match x with
  | a::b::l=> if Y7 a=48∧isX b=true then l.all fun b=> decide (0≤nib (Y7 b)) else (a::b::l).all YC
  | [a]=> YC a
  | []=> false

theorem Yja (s x:List UInt8) (hx:x.length≤1073741824) (al:Bool):∀ (k i:Nat) (hex:Bool),i+k=x.length→
    Zj s x al hex (i:Int)=some (al||(hex&&(x.drop i).all fun b=> decide (0≤nib (Y7 b))))
  | 0,i,hex,hk=> by
    have:i=x.length:=by omega
    subst this
    rw [Y36]
    simp only [Yc,YJr,decide_false,Ykr,List.drop_length,List.all_nil,Bool.and_true]
    cases al <;> rfl
  | k+1,i,hex,hk=> by
    have hi:i < x.length:=by omega
    have hw:IntKind.i64.wrap ((i:Int)+1)=((i+1:Nat):Int):=by rw [w64 (by omega) (by omega)]; omega
    have hget:x.getD (Int.toNat (i:Int)) 0=x[i]:=by
      rw [Ypr,Yyr,Yzr hi]; rfl
    have hb:=Yv2 x[i]
    rw [Y36]
    simp only [Yc,hi,decide_true,Yjr,Yj,hget,hw]
    rw [Yur hi,List.all_cons]
    cases hex with
    | true=>
      rw [Yjr,show ((x[i].toNat:Nat):Int)=Y7 x[i] from rfl,YU8 _ hb.1 hb.2]
      simp only [Ylr]
      rw [Yja s x hx al k (i+1) _ (by omega)]
      rfl
    | false=>
      rw [Ykr,Yja s x hx al k (i+1) _ (by omega)]
      rfl

def Y97 (x:List UInt8):Bool:=match x with
  | a::b::_=> decide (Y7 a=48)&&isX b
  | _=> false

theorem YK9 (a b:UInt8) (l:List UInt8):Y97 (a::b::l)=(decide (Y7 a=48)&&isX b):=rfl
theorem YPn (a b:UInt8) (l:List UInt8):Yv4 (a::b::l)=if Y7 a=48∧isX b=true then l.all (fun b=> decide (0≤nib (Y7 b))) else (a::b::l).all YC:=rfl

theorem Yy7 (s x:List UInt8) (hx:x.length≤1073741824):∀ (k i:Nat) (al:Bool),i+k=x.length→
    Zi s x al (i:Int)=some ((al&&(x.drop i).all YC)||(Y97 x&&(x.drop 2).all fun b=> decide (0≤nib (Y7 b))))
  | 0,i,al,hk=> by
    have:i=x.length:=by omega
    subst this
    rw [Ybc]
    simp only [Yc,YJr,decide_false,Ykr,List.drop_length,List.all_nil,Bool.and_true]
    match x,hx with
    | [],_=>
      rw [show decide (((([]:List UInt8).length:Nat):Int)≥2)=false from rfl,Ykr,Y36]
      cases al <;> rfl
    | [a],_=>
      rw [YG9,Ykr,Y36]
      cases al <;> rfl
    | a::b::l,hx=>
      rw [YH9,Yjr,YF4,Yjr,get0]
      have v:=fun hex=> Yja s (a::b::l) hx al l.length 2 hex (by simp; omega)
      rw [show ((2:Nat):Int)=2 from rfl] at v
      simp only [YM9,Yjr,get1,v]
      by_cases h48:Y7 a=48
      · rw [show (Y7 a==48)=true from by simpa using h48,Yjr]
        rw [YK9,Yhr h48]
        by_cases hxx:Y7 b=120
        · rw [show (Y7 b==120)=true from by simpa using hxx,Yjr,show isX b=true from by simp [isX,hxx]]; simp
        · rw [show (Y7 b==120)=false from by simpa using hxx,Ykr,show isX b=(Y7 b==88) from by simp [isX,hxx],Bool.true_and]
      · rw [show (Y7 a==48)=false from by simpa using h48,Ykr]
        rw [YK9,Yir h48]; simp
  | k+1,i,al,hk=> by
    have hi:i < x.length:=by omega
    have hw:IntKind.i64.wrap ((i:Int)+1)=((i+1:Nat):Int):=by rw [w64 (by omega) (by omega)]; omega
    have hget:x.getD (Int.toNat (i:Int)) 0=x[i]:=by
      rw [Ypr,Yyr,Yzr hi]; rfl
    rw [Ybc]
    simp only [Yc,hi,decide_true,Yjr,Yj,hget,hw]
    rw [Yur hi,List.all_cons,show ((x[i].toNat:Nat):Int)=Y7 x[i] from rfl]
    cases al with
    | true=>
      rw [Yjr]
      by_cases c:(48:Int)≤Y7 x[i]
      · rw [show decide (Y7 x[i]≥48)=true from by simpa using c,Yjr,Yy7 s x hx k (i+1) _ (by omega)]
        have:YC x[i]=decide (Y7 x[i]≤57):=by simp [YC,c]
        rw [this,Bool.true_and]
      · rw [show decide (Y7 x[i]≥48)=false from by simpa using c,Ykr,Yy7 s x hx k (i+1) _ (by omega)]
        have:YC x[i]=false:=by simp [YC]; omega
        rw [this]; rfl
    | false=>
      rw [Ykr,Yy7 s x hx k (i+1) _ (by omega)]
      rfl

theorem YQn (x:List UInt8):(((!(x==[]))&&x.all YC)||(Y97 x&&(x.drop 2).all fun b=> decide (0≤nib (Y7 b))))=Yv4 x:=by
  match x with
  | []=> rfl
  | [a]=> simp [Yv4,Y97]
  | a::b::l=>
    rw [YK9,YPn]
    by_cases h:Y7 a=48∧isX b=true
    · rw [Ynr h,Yhr h.1,h.2]
      have hd:YC b=false:=by
        have:=(Ym7 b).2.2.2.2
        rw [h.2,Bool.true_and] at this; exact this
      simp [hd]
    · rw [Ymr h]
      have:(decide (Y7 a=48)&&isX b)=false:=by
        cases hx:isX b with
        | false=> simp
        | true=> simp; intro e; exact h ⟨e,hx⟩
      rw [this,Bool.false_and,Bool.or_false]
      rfl

theorem YFf (l:List (List UInt8)) (h1:1≤l.length) (h2:l.length≤1073741825):IntKind.i64.wrap ((l.length:Int) - 1)=((l.length - 1:Nat):Int):=by rw [w64 (by omega) (by omega)]; omega

def Yg3 (s:List UInt8):List UInt8:=(YV s).getD ((YV s).length - 1) []
theorem YDf (s:List UInt8):(Yg3 s).length≤s.length:=by
  unfold Yg3
  have h1:=Yy5 s
  rw [Yyr,Yzr (by omega)]
  exact Yna s _ (List.getElem_mem _)

def YR3 (s:List UInt8):Bool:=if s=[] then false else Yv4 (Yg3 s)

theorem Yom (s:List UInt8) (hs:s.length≤1073741823):Yh5 s=some (YR3 s):=by
  rw [Ynm,YSi]
  unfold YR3
  by_cases h:s=[]
  · subst h; rfl
  · rw [show (s==([]:List UInt8))=false from by simpa using h,Ykr,Ymr h,Ybe s (by omega)]
    simp only [Ylr]
    have h1:=Yy5 s
    have h2:=Ylg s
    rw [YFf _ h1 (by omega),Yj,Yhr (by omega:(YV s).length - 1 < (YV s).length),Yjr,Ypr]
    have hl:=YDf s
    have:=Yy7 s (Yg3 s) (by omega) (Yg3 s).length 0 (!(Yg3 s==[])) (by omega)
    refine this.trans ?_
    rw [List.drop_zero,YQn]

theorem Ylo:∀ b∈hexs,b.toNat < 128:=by decide
theorem Yw9:∀ b∈digs,b.toNat < 128:=by decide

theorem Yq8 (x:List UInt8):((x.map lowB).all fun b=> YI hexs (Y7 b))=(x.all fun b=> decide (0≤nib (Y7 b)))∧((x.map lowB).all fun b=> YI digs (Y7 b))=x.all YC:=by
  induction x with
  | nil=> exact ⟨rfl,rfl⟩
  | cons b l ih=>
    obtain ⟨f1,f2,_⟩:=Ym7 b
    simp only [YEr,List.all_cons,f1,f2,ih.1,ih.2,and_self]

theorem Yde (y p:List UInt8) (hy:y.length≤1073741824) (hp:p.length≤1073741824):Yk4 (y,p)=some (decide (p.length≤y.length)&&(y.take p.length==p)):=by
  rw [YQm,YMh,YVk,Y2j]
  by_cases h:p.length≤y.length
  · rw [show decide (((y.length:Nat):Int)≥((p.length:Nat):Int))=true from by simp; omega,Yjr]
    have hc:Yi none (some ((p.length:Nat):Int)) y.length=true:=by simp [Yi]; omega
    rw [hc,Yjr,Yhr h,Bool.true_and]
    have:Yl none (some ((p.length:Nat):Int)) y=y.take p.length:=by simp [Yl]
    rw [this]; rfl
  · rw [show decide (((y.length:Nat):Int)≥((p.length:Nat):Int))=false from by simp; omega,Ykr,Yir h]; rfl

theorem Ytk (s:List UInt8) (hs:s.length≤1073741823):YD8 s=some (YR3 s):=by
  rw [Ysk,YPi]
  unfold YR3
  by_cases h:s=[]
  · subst h; rfl
  · rw [show (s==([]:List UInt8))=false from by simpa using h,Ykr,Ymr h,Yqd s (by omega)]
    simp only [Ylr]
    have h1:=Yy5 s
    have h2:=Ylg s
    rw [YFf _ h1 (by omega),Yj,Yhr (by omega:(YV s).length - 1 < (YV s).length),Yjr,Ypr]
    have hl:=YDf s
    rw [show List.getD (YV s) ((YV s).length - 1) (Ty.zero .str)=Yg3 s from rfl,Ye4 _ (by omega)]
    simp only [Ylr]
    generalize Yg3 s=x at hl ⊢
    have hx:x.length≤1073741823:=by omega
    rw [Yde _ _ (by simp; omega) (by simp)]
    simp only [Ylr]
    match x,hx with
    | [],_=> rfl
    | [a],hx=>
      rw [show (decide (([48,120]:List UInt8).length≤([a].map lowB).length)&&(([a].map lowB).take ([48,120]:List UInt8).length==[48,120]))=false from rfl,Ykr]
      rw [show (!(([a].map lowB)==([]:List UInt8)))=true from rfl,Yjr]
      have:=Ya6 ([a].map lowB) digs Yw9 (by simp)
      rw [show ([48,49,50,51,52,53,54,55,56,57]:List UInt8)=digs from rfl,this,(Yq8 [a]).2]
      simp [Yv4]
    | a::b::l,hx=>
      have e1:(decide (([48,120]:List UInt8).length≤((a::b::l).map lowB).length)&&(((a::b::l).map lowB).take ([48,120]:List UInt8).length==[48,120]))=((Y7 a==48)&&isX b):=by
        obtain ⟨_,_,f3,_,_⟩:=Ym7 a
        obtain ⟨_,_,_,f4,_⟩:=Ym7 b
        rw [←f3,←f4]
        rw [show decide (([48,120]:List UInt8).length≤((a::b::l).map lowB).length)=true from by simp,Bool.true_and]
        rw [show ((a::b::l).map lowB).take ([48,120]:List UInt8).length=[lowB a,lowB b] from rfl]
        simp
      rw [e1]
      have e2:Yv4 (a::b::l)=if Y7 a=48∧isX b=true then l.all (fun b=> decide (0≤nib (Y7 b))) else (a::b::l).all YC:=rfl
      rw [e2]
      by_cases c:Y7 a=48∧isX b=true
      · rw [Ynr c,show ((Y7 a==48)&&isX b)=true from by simp [c.1,c.2],Yjr]
        rw [show Yi (some (2:Int)) none ((a::b::l).map lowB).length=true from Yj1 (f:=2) (by simp),Yjr]
        rw [show Yl (some (2:Int)) none ((a::b::l).map lowB)=l.map lowB from YN1 2 _]
        have:=Ya6 (l.map lowB) hexs Ylo (by simp at hx ⊢; omega)
        rw [show ([48,49,50,51,52,53,54,55,56,57,97,98,99,100,101,102]:List UInt8)=hexs from rfl,this,(Yq8 l).1]
        rfl
      · rw [Ymr c,show ((Y7 a==48)&&isX b)=false from by
          cases hb:isX b with
          | false=> simp
          | true=> simp; intro e; exact c ⟨e,hb⟩,Ykr]
        rw [show (!(((a::b::l).map lowB)==([]:List UInt8)))=true from rfl,Yjr]
        have:=Ya6 ((a::b::l).map lowB) digs Yw9 (by simp at hx ⊢; omega)
        rw [show ([48,49,50,51,52,53,54,55,56,57]:List UInt8)=digs from rfl,this,(Yq8 (a::b::l)).2]
        rfl
end Go.Abs
