/- Part L5 of the proof: see the last text of the claim. No condition of its own. -/
import Derived.Test.YtddagflhafkbnaaGreatDoorL4
set_option linter.all false
set_option autoImplicit false
namespace Go.Abs
def YU4 (s:List UInt8):Nat->Nat->Option Nat
 | 0,_=> none
 | n+1,k=> if 127 < bat s k then some k else YU4 s n (k+1)
def Y24 (s:List UInt8):List UInt8×(Int×Int):=match YU4 s s.length 0 with
 | some k=> ([],(31,(k:Int)))
 | none=> decV s (YF (s.take (Ys s s.length).toNat)).length s.length (Ys s s.length+1).toNat 0 128 72 (YF (s.take (Ys s s.length).toNat))
theorem Y3j (s:List UInt8) (hs:s.length<=1073741824) (f:Nat) (at':Nat) (hf:s.length<=at'+f) (hat:at'<=s.length):Z03 s (at':Int) 0 0 128 72=Zz2 s (at':Int) 0 0 128 72 []:=by
 rw [Ywe,Ys5]
 rfl
theorem YWb (s:List UInt8) (hs:s.length<=1073741824):∀ (n k:Nat),k+n=s.length->(Zw2 s (s.length:Int) (k:Int)=some (match YU4 s n k with
  | some k=> ([],(31,(k:Int)))
  | none=> decV s (YF (s.take (Ys s s.length).toNat)).length s.length (Ys s s.length+1).toNat 0 128 72 (YF (s.take (Ys s s.length).toNat))))
 | 0,k,h=> by
  have hk:k=s.length:=by omega
  subst hk
  have hl:=YKc s s.length
  rw [Yta,Yl,YLm (Ycn _),YNm,Yoh s hs,YOm,w64 (x:=Ys s s.length+1) (by omega) (by omega)]
  unfold YU4
  dsimp only
  by_cases c:Ys s s.length+1 > 0
  ·have hn:((Ys s s.length).toNat:Int)=Ys s s.length:=Int.toNat_of_nonneg (by omega)
   have hsl:(YF (s.take (Ys s s.length).toNat)).length<=(Ys s s.length).toNat:=by
    have:=YL6 (s.take (Ys s s.length).toNat)
    rw [Y4n] at this; omega
   rw [YKm c,YMm,w64 (by omega) (by omega),show Ys s s.length+1 - 1=(((Ys s s.length).toNat:Nat):Int) from by omega,show Yh none (some (((Ys s s.length).toNat:Nat):Int)) s.length=true from by simp [Yh]; omega,YMm,
    show Yn none (some (((Ys s s.length).toNat:Nat):Int)) s=s.take (Ys s s.length).toNat from (by show List.take (Int.toNat (((Ys s s.length).toNat:Nat):Int)) s=_; rw [YSm]),show decide ((s.take (Ys s s.length).toNat).length<=lim)=true from YKm (by rw [Y4n]; simp only [lim]; omega),YMm,YJd,Ycg]
   rw [show Ys s s.length+1=(((Ys s s.length+1).toNat:Nat):Int) from by omega]
   have:=YVb s (YF (s.take (Ys s s.length).toNat)).length hs s.length (Ys s s.length+1).toNat 0 128 72 (YF (s.take (Ys s s.length).toNat)) (by omega) (by omega) (by omega) (by omega) (by omega) (by omega) (by omega) (by omega)
   rw [this]
   rw [show (((Ys s s.length+1).toNat:Nat):Int).toNat=(Ys s s.length+1).toNat from by omega]
  ·have he:Ys s s.length=-1:=by omega
   rw [YLm c,YNm,Yeg,he]
   have h5:=Y3j s hs s.length 0 (by omega) (by omega)
   have h4:=YVb s 0 hs s.length 0 0 128 72 [] (by omega) (by omega) (by omega) (by omega) (by omega) (by omega) (by omega) (by simp)
   have hz:((0:Nat):Int)=0:=rfl
   rw [hz] at h5 h4
   rw [show (-1:Int)+1=0 from rfl,hz,h5,h4]
   rfl
 | n+1,k,h=> by
  have hk:k < s.length:=by omega
  have hw:IntKind.i64.wrap ((k:Int)+1)=((k+1:Nat):Int):=by rw [w64 (by omega) (by omega)]; omega
  rw [Yta,Yl,YKm hk,YMm,Ym,YKm hk,YMm,YSm,show (((s.getD k 0).toNat:Nat):Int)=bat s k from rfl,hw]
  unfold YU4
  by_cases c:127 < bat s k
  ·rw [show decide (bat s k > 127)=true from YKm c,YMm,YQm c]
  ·rw [show decide (bat s k > 127)=false from YLm c,YNm,YPm c]
   exact YWb s hs n (k+1) (by omega)
theorem Ykb (s:List UInt8) (hs:s.length<=1073741824):YI5 s=some (Y24 s):=by
 rw [YXh,Y8g]
 exact YWb s hs s.length 0 (by omega)
def Yj1 (s:List UInt8):List UInt8×(Int×Int):=if 65536 < s.length then ([],(5,0)) else Y24 s
theorem YOh (s:List UInt8) (hs:s.length<=1073741824):YL7 s=some (Yj1 s):=by
 rw [YNh,Ydg]
 unfold Yj1
 by_cases c:65536 < s.length
 ·rw [show decide ((s.length:Int) > 65536)=true from YKm (by omega),YMm,YQm c]
 ·rw [show decide ((s.length:Int) > 65536)=false from YLm (by omega),YNm,YPm c,Ykb s hs]; rfl
def azv (n:Int):Int:=(((az36.getD n.toNat 0).toNat:Nat):Int)
def layV (bias:Int):Nat->Int->Int->List Int
 | 0,_,_=> []
 | f+1,q,k=> if q < thr k bias then [azv q] else azv (thr k bias+(q - thr k bias) % (36 - thr k bias))::layV bias f ((q - thr k bias) / (36 - thr k bias)) (k+36)
theorem Yy8 (bias:Int):∀ (f:Nat) (q k:Int),(layV bias f q k).length<=f
 | 0,_,_=> by simp [layV]
 | f+1,q,k=> by
  unfold layV
  split
  ·simp
  ·simp only [YTm]; have:=Yy8 bias f ((q - thr k bias) / (36 - thr k bias)) (k+36); omega
theorem in36 (n:Int) (h0:0<=n) (h1:n < 36):Yb n az36.length=true:=by
 unfold Yb; rw [YKm h0,YKm (by simp [az36]; omega)]; rfl
def Ym6:Nat->Int
 | 0=> 0
 | n+1=> 10*Ym6 n+9
theorem Yuk (bias:Int) (hb:0<=bias/\bias<=4096) (f:Nat):∀ (q k:Int) (r:List Int),0<=q->q<=Ym6 f->q<=1099511627776->0<=k->k<=1000000 - 36*(f:Int)->r.length+f<=4294967000->
  Z83 q bias k r=some (r++layV bias (f+1) q k):=by
 induction f with
 | zero=>
  intro q k r h0 h1 _ hk0 hk1 hr
  have ht:=YT6 k bias
  have h1:q<=0:=h1
  rw [YV9,YO7 k bias ⟨hk0,by omega⟩ hb,YOm]
  unfold layV
  rw [YKm (by omega:q < thr k bias),YMm,YQm (by omega)]
  rw [show ([(97:UInt8),(98:UInt8),(99:UInt8),(100:UInt8),(101:UInt8),(102:UInt8),(103:UInt8),(104:UInt8),(105:UInt8),(106:UInt8),(107:UInt8),(108:UInt8),(109:UInt8),(110:UInt8),(111:UInt8),(112:UInt8),(113:UInt8),(114:UInt8),(115:UInt8),(116:UInt8),(117:UInt8),(118:UInt8),(119:UInt8),(120:UInt8),(121:UInt8),(122:UInt8),(48:UInt8),(49:UInt8),(50:UInt8),(51:UInt8),(52:UInt8),(53:UInt8),(54:UInt8),(55:UInt8),(56:UInt8),(57:UInt8)]:List UInt8)=az36 from rfl,in36 q h0 (by omega),YMm]
  rw [show decide (r.length+[(((az36.getD q.toNat 0).toNat:Nat):Int)].length<=lim)=true from YKm (by simp [lim]; omega),YMm]; rfl
 | succ f ih=>
  intro q k r h0 h1 hb1 hk0 hk1 hr
  have ht:=YT6 k bias
  have h1:q<=10*Ym6 f+9:=h1
  rw [YV9,YO7 k bias ⟨hk0,by omega⟩ hb,YOm]
  rw [show ([(97:UInt8),(98:UInt8),(99:UInt8),(100:UInt8),(101:UInt8),(102:UInt8),(103:UInt8),(104:UInt8),(105:UInt8),(106:UInt8),(107:UInt8),(108:UInt8),(109:UInt8),(110:UInt8),(111:UInt8),(112:UInt8),(113:UInt8),(114:UInt8),(115:UInt8),(116:UInt8),(117:UInt8),(118:UInt8),(119:UInt8),(120:UInt8),(121:UInt8),(122:UInt8),(48:UInt8),(49:UInt8),(50:UInt8),(51:UInt8),(52:UInt8),(53:UInt8),(54:UInt8),(55:UInt8),(56:UInt8),(57:UInt8)]:List UInt8)=az36 from rfl]
  rw [layV]
  generalize thr k bias=t at ht ⊢
  by_cases c:q < t
  ·rw [YKm c,YMm,YQm c,in36 q h0 (by omega),YMm,show decide (r.length+[(((az36.getD q.toNat 0).toNat:Nat):Int)].length<=lim)=true from YKm (by simp [lim]; omega),YMm]; rfl
  ·have m0:0<=(q - t) % (36 - t):=Int.emod_nonneg _ (by omega)
   have m1:(q - t) % (36 - t) < 36 - t:=Int.emod_lt_of_pos _ (by omega)
   have d0:0<=(q - t) / (36 - t):=Int.ediv_nonneg (by omega) (by omega)
   have d1:(q - t) / (36 - t)<=(q - t) / 10:=by
    apply Int.le_ediv_of_mul_le (by omega)
    have:=Int.ediv_mul_le (q - t) (b:=36 - t) (by omega)
    have h2:(q - t) / (36 - t)*10<=(q - t) / (36 - t)*(36 - t):=Int.mul_le_mul_of_nonneg_left (by omega) d0
    omega
   rw [YLm c,YNm,YPm c,w64 (x:=36 - t) (by omega) (by omega),show (36 - t !=0)=true from bne_iff_ne.2 (by omega),YMm,w64 (x:=q - t) (by omega) (by omega),Int.tmod_eq_emod_of_nonneg (by omega),Yin (by omega),
    w64 (x:=t+(q - t) % (36 - t)) (by omega) (by omega),w64 (x:=(q - t) / (36 - t)) (by omega) (by omega),w64 (x:=k+36) (by omega) (by omega),in36 _ (by omega) (by omega),YMm,
    show decide (r.length+[(((az36.getD (t+(q - t) % (36 - t)).toNat 0).toNat:Nat):Int)].length<=lim)=true from YKm (by simp [lim]; omega),YMm,YMm]
   rw [ih _ _ _ d0 (by omega) (by omega) (by omega) (by omega) (by simp; omega),YVm]
   rfl
theorem Yxk:1099511627776<=Ym6 13:=by decide
def Yy3 (q bias:Int):List Int:=layV bias 14 q 36
theorem YZh (r:List Int) (q bias:Int) (h0:0<=q) (h1:q<=1099511627776) (hb:0<=bias/\bias<=4096) (hr:r.length<=4294966000):YN7 (r,q,bias)=some (r++Yy3 q bias):=by
 have:=Yxk
 rw [YYh,YSe]
 exact Yuk bias hb 13 q 36 r h0 (by omega) h1 (by omega) (by omega) (by omega)
end Go.Abs
namespace Go.Abs
def YI (n:Int):Int->List Int->Int
 | m,[]=> m
 | m,r::l=> YI n (if n<=r/\r < m then r else m) l
structure EncS where
 told:Nat
 bias:Int
 delta:Int
 out:List Int
def YQ (n:Int) (plain:Nat):List Int->EncS->EncS
 | [],x=> x
 | r::l,x=>
  if r=n then YQ n plain l ⟨x.told+1,Y42 x.delta ((x.told+1:Nat):Int) (((x.told:Nat):Int)==((plain:Nat):Int)),0,x.out++Yy3 x.delta x.bias⟩
  else if r < n then YQ n plain l ⟨x.told,x.bias,x.delta+1,x.out⟩
  else YQ n plain l x
def Ym4 (l:List Int) (plain:Nat):Nat->Int->EncS->List Int
 | 0,_,x=> x.out
 | f+1,n,x=>
  if l.length<=x.told then x.out
  else Ym4 l plain f (YI n 1114112 l+1) ⟨(YQ (YI n 1114112 l) plain l ⟨x.told,x.bias,x.delta+(YI n 1114112 l - n)*((x.told+1:Nat):Int),x.out⟩).told,
   (YQ (YI n 1114112 l) plain l ⟨x.told,x.bias,x.delta+(YI n 1114112 l - n)*((x.told+1:Nat):Int),x.out⟩).bias,
   (YQ (YI n 1114112 l) plain l ⟨x.told,x.bias,x.delta+(YI n 1114112 l - n)*((x.told+1:Nat):Int),x.out⟩).delta+1,
   (YQ (YI n 1114112 l) plain l ⟨x.told,x.bias,x.delta+(YI n 1114112 l - n)*((x.told+1:Nat):Int),x.out⟩).out⟩
theorem YX4 (n:Int) (plain:Nat):∀ (l:List Int) (x:EncS),(YQ n plain l x).told=x.told+l.countP (fun r=> r==n)
 | [],x=> rfl
 | r::l,x=> by
  unfold YQ
  by_cases c:r=n
  ·rw [YQm c,YX4 n plain l,List.countP_cons]
   have e:(r==n)=true:=beq_iff_eq.2 c
   simp only [e,if_true]; omega
  ·have e:(r==n)=false:=YWm.2 c
   rw [YPm c]
   simp only [List.countP_cons,e]
   split
   ·rw [YX4 n plain l]; rfl
   ·rw [YX4 n plain l]; rfl
def Fine (x:EncS):Prop:=0<=x.delta/\(0<=x.bias/\x.bias<=4096)
theorem YW4 (n:Int) (plain:Nat):∀ (l:List Int) (x:EncS),Fine x->Fine (YQ n plain l x)/\(YQ n plain l x).delta<=x.delta+l.length/\((∃ r∈l,r=n)->(YQ n plain l x).delta<=l.length)/\(YQ n plain l x).out.length+14*x.told<=x.out.length+14*(YQ n plain l x).told
 | [],x,h=> by
  refine ⟨h,?_,?_,?_⟩
  ·simp [YQ]
  ·rintro ⟨r,hr,_⟩; cases hr
  ·unfold YQ; omega
 | r::l,x,h=> by
  unfold YQ
  by_cases c:r=n
  ·rw [YQm c]
   have hb:=Ye7 x.delta ((x.told+1:Nat):Int) (((x.told:Nat):Int)==((plain:Nat):Int)) h.1 (by omega)
   obtain ⟨h1,h2,h3,h4⟩:=YW4 n plain l ⟨x.told+1,Y42 x.delta ((x.told+1:Nat):Int) (((x.told:Nat):Int)==((plain:Nat):Int)),0,x.out++Yy3 x.delta x.bias⟩ ⟨Int.le_refl _,hb⟩
   have hl:=Yy8 x.bias 14 x.delta 36
   have hd:=h.1
   refine ⟨h1,?_,fun _=> ?_,?_⟩
   ·dsimp only at h2; simp only [YTm]; omega
   ·dsimp only at h2; simp only [YTm]; omega
   ·dsimp only at h4; rw [YUm] at h4; unfold Yy3 at h4; unfold Yy3; omega
  ·rw [YPm c]
   by_cases d:r < n
   ·rw [YQm d]
    obtain ⟨h1,h2,h3,h4⟩:=YW4 n plain l ⟨x.told,x.bias,x.delta+1,x.out⟩ ⟨by have:=h.1; dsimp only; omega,h.2⟩
    refine ⟨h1,?_,fun ⟨y,hy,e⟩=> ?_,h4⟩
    ·dsimp only at h2; simp only [YTm]; omega
    ·rcases Y0n.1 hy with rfl | hy
     ·exact absurd e c
     ·have:=h3 ⟨y,hy,e⟩; simp only [YTm]; omega
   ·rw [YPm d]
    obtain ⟨h1,h2,h3,h4⟩:=YW4 n plain l x h
    refine ⟨h1,?_,fun ⟨y,hy,e⟩=> ?_,h4⟩
    ·simp only [YTm]; omega
    ·rcases Y0n.1 hy with rfl | hy
     ·exact absurd e c
     ·have:=h3 ⟨y,hy,e⟩; simp only [YTm]; omega
theorem YYc (n:Int):∀ (l:List Int) (m:Int),YI n m l<=m/\(YI n m l=m\/(YI n m l∈l/\n<=YI n m l))/\∀ r∈l,n<=r->YI n m l<=r
 | [],m=> ⟨Int.le_refl _,.inl rfl,fun r hr=> by cases hr⟩
 | r::l,m=> by
  unfold YI
  obtain ⟨h1,h2,h3⟩:=YYc n l (if n<=r/\r < m then r else m)
  by_cases c:n<=r/\r < m
  ·rw [YQm c] at h1 h2 h3 ⊢
   refine ⟨by omega,?_,fun y hy hn=> ?_⟩
   ·rcases h2 with h2 | h2
    ·rw [h2]; exact .inr ⟨by simp,c.1⟩
    ·exact .inr ⟨List.mem_cons_of_mem _ h2.1,h2.2⟩
   ·rcases Y0n.1 hy with rfl | hy
    ·exact h1
    ·exact h3 y hy hn
  ·rw [YPm c] at h1 h2 h3 ⊢
   refine ⟨h1,?_,fun y hy hn=> ?_⟩
   ·rcases h2 with h2 | h2
    ·exact .inl h2
    ·exact .inr ⟨List.mem_cons_of_mem _ h2.1,h2.2⟩
   ·rcases Y0n.1 hy with rfl | hy
    ·omega
    ·exact h3 y hy hn
theorem YYi (l:List Int) (n m:Int) (hnm:n<=m) (h:∀ r∈l,n<=r->m<=r):l.countP (fun r=> decide (r < m+1))=l.countP (fun r=> decide (r < n))+l.countP (fun r=> r==m):=by
 induction l with
 | nil=> rfl
 | cons r l ih=>
  have ih:=ih (fun y hy=> h y (List.mem_cons_of_mem _ hy))
  have hr:=h r (by simp)
  simp only [List.countP_cons,ih]
  by_cases a:r < n
  ·have e1:decide (r < m+1)=true:=YKm (by omega)
   have e2:decide (r < n)=true:=YKm a
   have e3:(r==m)=false:=YWm.2 (by omega)
   simp only [e1,e2,e3,if_true,Bool.false_eq_true,if_false]; omega
  ·have:=hr (by omega)
   have e2:decide (r < n)=false:=YLm a
   by_cases b:r=m
   ·have e1:decide (r < m+1)=true:=YKm (by omega)
    have e3:(r==m)=true:=beq_iff_eq.2 b
    simp only [e1,e2,e3,if_true,Bool.false_eq_true,if_false]; omega
   ·have e1:decide (r < m+1)=false:=YLm (by omega)
    have e3:(r==m)=false:=YWm.2 b
    simp only [e1,e2,e3,Bool.false_eq_true,if_false]; omega
theorem YZi (l:List Int) (n:Int) (h:l.countP (fun r=> decide (r < n)) < l.length):∃ r∈l,n<=r:=by
 induction l with
 | nil=> simp at h
 | cons r l ih=>
  by_cases a:r < n
  ·rw [List.countP_cons,YQm (by simpa using a),YTm] at h
   obtain ⟨y,hy,e⟩:=ih (by omega)
   exact ⟨y,List.mem_cons_of_mem _ hy,e⟩
  ·exact ⟨r,by simp,by omega⟩
theorem YZc (l:List Int) (n:Int) (hl:∀ r∈l,r < 1114112) (h:l.countP (fun r=> decide (r < n)) < l.length):
  n<=YI n 1114112 l/\YI n 1114112 l < 1114112/\YI n 1114112 l∈l/\l.countP (fun r=> decide (r < YI n 1114112 l+1))=l.countP (fun r=> decide (r < n))+l.countP (fun r=> r==YI n 1114112 l)/\1<=l.countP (fun r=> r==YI n 1114112 l):=by
 obtain ⟨h1,h2,h3⟩:=YYc n l 1114112
 obtain ⟨y,hy,hn⟩:=YZi l n h
 have hm:=h3 y hy hn
 have hy':=hl y hy
 rcases h2 with h2 | ⟨h2,h4⟩
 ·omega
 ·refine ⟨h4,by omega,h2,YYi l n _ h4 h3,?_⟩
  exact List.countP_pos_iff.2 ⟨_,h2,by simp⟩
end Go.Abs
namespace Go.Abs
def YD (l:List Int):List Int:=l.filter fun r=> decide (r < 128)
theorem Yo6 (s:List UInt8) (told plain:Nat) (n bias delta:Int) (l out:List Int) (hl:l.length<=1048576):∀ (k i:Nat) (m:Int),i+k=l.length->
  Zl2 s (told:Int) (plain:Int) n bias delta m (l.length:Int) (i:Int) l out=
   Zm2 s (told:Int) (plain:Int) (YI n m (l.drop i)) bias (IntKind.i64.wrap (delta+(IntKind.i64.wrap ((IntKind.i64.wrap (IntKind.i32.wrap (YI n m (l.drop i) - n)))*(IntKind.i64.wrap ((told:Int)+1)))))) (l.length:Int) 0 l out
 | 0,i,m,h=> by
  have:i=l.length:=by omega
  subst this
  rw [Yea,Yl,YLm (Ycn _),YNm,List.drop_length]; rfl
 | k+1,i,m,h=> by
  have hi:i < l.length:=by omega
  have hw:IntKind.i64.wrap ((i:Int)+1)=((i+1:Nat):Int):=by rw [w64 (by omega) (by omega)]; omega
  have hg:List.getD l (Int.toNat (i:Int)) (Ty.zero (.int .i32))=l[i]:=by
   rw [YSm,Y1n,Y2n hi]; rfl
  rw [Yea,Yl,YKm hi,YMm,Ym,YKm hi,YMm,hg,hw,YXm hi,YI]
  by_cases a:n<=l[i]
  ·rw [show decide (l[i]>=n)=true from YKm a,YMm]
   by_cases b:l[i] < m
   ·rw [YKm b,YMm,YQm ⟨a,b⟩,Yo6 s told plain n bias delta l out hl k (i+1) _ (by omega)]
   ·rw [YLm b,YNm,YPm (fun h=> b h.2),Yo6 s told plain n bias delta l out hl k (i+1) _ (by omega)]
  ·rw [show decide (l[i]>=n)=false from YLm a,YNm,YPm (fun h=> a h.1),Yo6 s told plain n bias delta l out hl k (i+1) _ (by omega)]
theorem Yg6 (s:List UInt8) (plain:Nat) (n:Int) (l:List Int) (hl:l.length<=65536) (hn:0<=n/\n<=1114112):∀ (k i:Nat) (x:EncS),i+k=l.length->Fine x->x.delta+k<=1099511627776->x.told+k<=200000->x.out.length+14*k<=100000000->
  Zm2 s (x.told:Int) (plain:Int) n x.bias x.delta (l.length:Int) (i:Int) l x.out=
   Zk2 s ((YQ n plain (l.drop i) x).told:Int) (plain:Int) (IntKind.i32.wrap (n+1)) (YQ n plain (l.drop i) x).bias (IntKind.i64.wrap ((YQ n plain (l.drop i) x).delta+1)) l (YQ n plain (l.drop i) x).out
 | 0,i,x,h,_,_,_,_=> by
  have:i=l.length:=by omega
  subst this
  rw [Yga,Yl,YLm (Ycn _),YNm,List.drop_length]; rfl
 | k+1,i,x,h,hf,hd,ht,ho=> by
  have hi:i < l.length:=by omega
  have hw:IntKind.i64.wrap ((i:Int)+1)=((i+1:Nat):Int):=by rw [w64 (by omega) (by omega)]; omega
  have hg:List.getD l (Int.toNat (i:Int)) (Ty.zero (.int .i32))=l[i]:=by
   rw [YSm,Y1n,Y2n hi]; rfl
  obtain ⟨hd0,hb⟩:=hf
  rw [Yga,Yl,YKm hi,YMm,Ym,YKm hi,YMm,hg,YXm hi,YQ]
  by_cases a:l[i] < n
  ·rw [YKm a,YMm,YPm (by omega),YQm a,w64 (x:=x.delta+1) (by omega) (by omega),Yia,show (l[i]==n)=false from YWm.2 (by omega),YNm,hw]
   exact Yg6 s plain n l hl hn k (i+1) ⟨x.told,x.bias,x.delta+1,x.out⟩ (by omega) ⟨by dsimp only; omega,hb⟩ (by dsimp only; omega) (by dsimp only; omega) (by dsimp only; omega)
  ·rw [YLm a,YNm,Yia]
   by_cases b:l[i]=n
   ·have hlay:=Yy8 x.bias 14 x.delta 36
    have had:=Ye7 x.delta ((x.told+1:Nat):Int) (((x.told:Nat):Int)==((plain:Nat):Int)) hd0 (by omega)
    have hw2:IntKind.i64.wrap ((x.told:Int)+1)=((x.told+1:Nat):Int):=by rw [w64 (by omega) (by omega)]; omega
    rw [show (l[i]==n)=true from beq_iff_eq.2 b,YMm,YQm b,YZh _ _ _ hd0 (by omega) hb (by omega),YOm,hw2,Yhb _ _ _ hd0 (by omega) (by omega) (by omega),YOm,hw]
    exact Yg6 s plain n l hl hn k (i+1) ⟨x.told+1,Y42 x.delta ((x.told+1:Nat):Int) (((x.told:Nat):Int)==((plain:Nat):Int)),0,x.out++Yy3 x.delta x.bias⟩ (by omega) ⟨Int.le_refl _,had⟩ (by dsimp only; omega) (by dsimp only; omega) (by dsimp only; rw [YUm]; unfold Yy3; omega)
   ·rw [show (l[i]==n)=false from YWm.2 b,YNm,YPm b,YPm a,hw]
    exact Yg6 s plain n l hl hn k (i+1) x (by omega) ⟨hd0,hb⟩ (by omega) (by omega) (by omega)
def YP2 (out:List Int):List UInt8×Int:=if (Y24 (Yx out)).2.1=32 then ([],32) else (Yx out,0)
theorem Ycl (s:List UInt8) (plain:Nat) (l:List Int) (hl:l.length<=65536) (hr:∀ r∈l,0<=r/\r < 1114112) (f:Nat):∀ (n:Int) (x:EncS),l.length<=x.told+f->x.told=l.countP (fun r=> decide (r < n))->Fine x->x.delta<=65537->x.out.length<=65537+14*x.told->0<=n->n<=1114112->
  Zk2 s (x.told:Int) (plain:Int) n x.bias x.delta l x.out=some (YP2 (Ym4 l plain f n x)):=by
 have fin:∀ (n:Int) (x:EncS),l.length<=x.told->x.out.length<=65537+14*x.told->x.told<=65536->Zk2 s (x.told:Int) (plain:Int) n x.bias x.delta l x.out=some (YP2 x.out):=by
  intro n x h ho ht
  have hso:(Yx x.out).length=x.out.length:=by unfold Yx; rw [List.length_map]
  rw [Yaa,Yl,YLm (by omega),YNm,Ykb _ (by omega),YOm]
  unfold YP2
  by_cases c:(Y24 (Yx x.out)).2.1=32
  ·rw [show ((Y24 (Yx x.out)).2.1==32)=true from beq_iff_eq.2 c,YMm,YQm c,c]
  ·rw [show ((Y24 (Yx x.out)).2.1==32)=false from YWm.2 c,YNm,YPm c]
 have cle:∀ n:Int,l.countP (fun r=> decide (r < n))<=l.length:=fun n=> List.countP_le_length
 induction f with
 | zero=>
  intro n x h1 h2 _ _ ho _ _
  have:=cle n
  exact fin n x (by omega) ho (by omega)
 | succ f ih=>
  intro n x h1 h2 hf hd ho hn0 hn1
  have hc:=cle n
  unfold Ym4
  by_cases c:l.length<=x.told
  ·rw [YQm c]; exact fin n x c ho (by omega)
  ·rw [YPm c]
   obtain ⟨m1,m2,m3,m4,m5⟩:=YZc l n (fun r h=> (hr r h).2) (by omega)
   have hml:=Yo6 s x.told plain n x.bias x.delta l x.out (by omega) l.length 0 1114112 (by omega)
   rw [List.drop_zero] at hml
   generalize YI n 1114112 l=m at m1 m2 m3 m4 m5 hml ⊢
   have hp:=Yq6 (a:=m - n) (b:=((x.told+1:Nat):Int)) (A:=1114112) (B:=65537) (by omega) (by omega) (by omega) (by omega)
   have hdx:=hf.1
   have hw2:IntKind.i64.wrap ((x.told:Int)+1)=((x.told+1:Nat):Int):=by rw [w64 (by omega) (by omega)]; omega
   rw [Yaa,Yl,YKm (by omega),YMm]
   rw [show ((0:Nat):Int)=0 from rfl] at hml
   rw [hml,w32 (by omega) (by omega),w64 (x:=m - n) (by omega) (by omega),hw2,w64 (x:=(m - n)*((x.told+1:Nat):Int)) (by omega) (by omega),w64 (x:=x.delta+(m - n)*((x.told+1:Nat):Int)) (by omega) (by omega)]
   have hin:=Yg6 s plain m l hl ⟨by omega,by omega⟩ l.length 0 ⟨x.told,x.bias,x.delta+(m - n)*((x.told+1:Nat):Int),x.out⟩ (by omega) ⟨by dsimp only; omega,hf.2⟩ (by dsimp only; omega) (by dsimp only; omega) (by dsimp only; omega)
   rw [List.drop_zero,show ((0:Nat):Int)=0 from rfl] at hin
   obtain ⟨f1,f2,f3,f4⟩:=YW4 m plain l ⟨x.told,x.bias,x.delta+(m - n)*((x.told+1:Nat):Int),x.out⟩ ⟨by dsimp only; omega,hf.2⟩
   have f3:=f3 ⟨m,m3,rfl⟩
   have ft:=YX4 m plain l ⟨x.told,x.bias,x.delta+(m - n)*((x.told+1:Nat):Int),x.out⟩
   refine hin.trans ?_
   generalize YQ m plain l ⟨x.told,x.bias,x.delta+(m - n)*((x.told+1:Nat):Int),x.out⟩=y at f1 f2 f3 f4 ft ⊢
   dsimp only at f4 ft
   have hd1:=f1.1
   have hcl:=cle (m+1)
   rw [w32 (by omega) (by omega),w64 (by omega) (by omega)]
   exact ih (m+1) ⟨y.told,y.bias,y.delta+1,y.out⟩ (by dsimp only; omega) (by dsimp only; omega) ⟨by dsimp only; omega,f1.2⟩ (by dsimp only; omega) (by dsimp only; omega) (by omega) (by omega)
theorem Yo9 (s:List UInt8) (l:List Int) (hl:l.length<=65536) (hr:∀ r∈l,0<=r/\r < 1114112):∀ (k i:Nat) (out:List Int),i+k=l.length->out.length<=i->
  Zi2 s (l.length:Int) (i:Int) l out=Zj2 s ((out++YD (l.drop i)).length:Int) ((out++YD (l.drop i)).length:Int) l (if (out++YD (l.drop i)).length=0 then out++YD (l.drop i) else (out++YD (l.drop i))++[45])
 | 0,i,out,h,ho=> by
  have:i=l.length:=by omega
  subst this
  rw [Y8a,Yl,YLm (Ycn _),YNm,List.drop_length]
  rw [show out++YD []=out from by simp [YD]]
  by_cases c:out.length=0
  ·rw [show decide ((out.length:Int) > 0)=false from YLm (by omega),YNm,YQm c]
  ·rw [show decide ((out.length:Int) > 0)=true from YKm (by omega),YMm,YPm c,show decide (out.length+[(45:Int)].length<=lim)=true from YKm (by simp [lim]; omega),YMm]
 | k+1,i,out,h,ho=> by
  have hi:i < l.length:=by omega
  have hw:IntKind.i64.wrap ((i:Int)+1)=((i+1:Nat):Int):=by rw [w64 (by omega) (by omega)]; omega
  have hg:List.getD l (Int.toNat (i:Int)) (Ty.zero (.int .i32))=l[i]:=by
   rw [YSm,Y1n,Y2n hi]; rfl
  have hx:=hr l[i] (List.getElem_mem hi)
  have hs:YD (l.drop i)=if l[i] < 128 then l[i]::YD (l.drop (i+1)) else YD (l.drop (i+1)):=by
   unfold YD
   rw [YXm hi,List.filter_cons]
   by_cases a:l[i] < 128
   ·rw [YQm (YKm a),YQm a]
   ·rw [YPm (by simpa using a),YPm a]
  rw [Y8a,Yl,YKm hi,YMm,Ym,YKm hi,YMm,hg,hw,hs]
  by_cases a:l[i] < 128
  ·rw [YKm a,YMm,YQm a,w8 hx.1 (by omega),show decide (out.length+[l[i]].length<=lim)=true from YKm (by simp [lim]; omega),YMm,Yo9 s l hl hr k (i+1) _ (by omega) (by simp; omega),YVm]
   rfl
  ·rw [YLm a,YNm,YPm a,Yo9 s l hl hr k (i+1) _ (by omega) (by omega)]
def YO4 (l:List Int):List Int:=Ym4 l (YD l).length l.length 128 ⟨(YD l).length,72,0,if (YD l).length=0 then YD l else YD l++[45]⟩
def Yz1 (s:List UInt8):List UInt8×Int:=if (Y93 s).1=false then ([],21) else if 65536 < s.length then ([],5) else YP2 (YO4 (YF s))
theorem YK6 {r:Int} (h:scal r=true):0<=r/\r < 1114112:=by
 have:=of_decide_eq_true h; omega
theorem Yk9 (s:List UInt8):∀ r∈YF s,scal r=true:=by
 have:∀ (n k:Nat),∀ x∈pcs s n k,scal x.2.1=true:=by
  intro n
  induction n with
  | zero=> intro k x h; cases h
  | succ n ih=>
   intro k x h
   unfold pcs at h
   split at h
   ·rcases Y0n.1 h with rfl | h
    ·dsimp only; exact Yj9 s k
    ·exact ih _ x h
   ·cases h
 intro r hr
 obtain ⟨x,hx,rfl⟩:=List.mem_map.1 hr
 exact this _ _ x hx
theorem YP6 (l:List Int):(YD l).length=l.countP (fun r=> decide (r < 128)):=by
 unfold YD; rw [List.countP_eq_length_filter]
theorem YQh (s:List UInt8):YM7 s=some (Yz1 s):=by
 rw [YPh,Yqf,YDb,YOm]
 unfold Yz1
 cases hv:(Y93 s).1 with
 | false=> rw [Ybn,YMm,YQm rfl]
 | true=>
  rw [Yan,YNm,YPm (by simp)]
  by_cases c:65536 < s.length
  ·rw [show decide ((s.length:Int) > 65536)=true from YKm (by omega),YMm,YQm c]
  ·rw [show decide ((s.length:Int) > 65536)=false from YLm (by omega),YNm,YPm c,show decide (s.length<=lim)=true from YKm (by simp only [lim]; omega),YMm,YJd]
   have hl:=YL6 s
   have hr:∀ r∈YF s,0<=r/\r < 1114112:=fun r h=> YK6 (Yk9 s r h)
   generalize YF s=l at hl hr ⊢
   have h1:=Yo9 s l (by omega) hr l.length 0 [] (by omega) (by simp)
   rw [List.drop_zero,Yen,show ((0:Nat):Int)=0 from rfl] at h1
   have hsl:(YD l).length<=l.length:=by rw [YP6]; exact List.countP_le_length
   rw [h1,Yxf]
   exact Ycl s (YD l).length l (by omega) hr l.length 128 ⟨(YD l).length,72,0,if (YD l).length=0 then YD l else YD l++[45]⟩ (by dsimp only; omega) (YP6 l) ⟨by dsimp only; omega,by dsimp only; omega⟩ (by dsimp only; omega) (by dsimp only; split; omega; rw [YUm]; simp only [YTm,YYm]; omega) (by omega) (by omega)
end Go.Abs
namespace Go.Abs
theorem Yr2 (b:UInt8):UInt8.ofNat (Y9 b).toNat=b:=by
 unfold Y9; rw [YSm]; exact UInt8.ofNat_toNat
theorem Y82 {x:Int} (h0:0<=x) (h1:x<=255):Y9 (UInt8.ofNat x.toNat)=x:=by
 unfold Y9
 have e:(UInt8.ofNat x.toNat).toNat=x.toNat:=by rw [UInt8.toNat_ofNat']; omega
 rw [e]; omega
theorem YUa {a b:UInt8} (h:Y9 a=Y9 b):a=b:=by
 rw [<-Yr2 a,h,Yr2]
def rbs (r:Int):List UInt8:=Yx (Ym1 r)
theorem Yxl (r:Int):(rbs r).length=(Ym1 r).length:=by unfold rbs Yx; rw [List.length_map]
theorem Ysd (r:Int):1<=(rbs r).length/\(rbs r).length<=4:=by rw [Yxl]; exact Yv5 r
theorem YMl (s:List UInt8) (k:Nat) (r:Int) (h:r < 128) (b0:bat s k=r):Yj s k=(r,(1,false)):=by
 unfold Yj
 rw [YQm (show ut1 s k=true from YKm (by omega)),b0]
theorem YE8 {s:List UInt8} {k:Nat} (h:128<=bat s k):¬ut1 s k=true:=fun e=> by
 have:=of_decide_eq_true e; omega
theorem YNl (s:List UInt8) (k:Nat) (r:Int) (h0:128<=r) (h1:r < 2048) (hk:k+1 < s.length) (b0:bat s k=192+r / 64) (b1:bat s (k+1)=128+r % 64):Yj s k=(r,(2,false)):=by
 have hc:c2 s k=r:=by unfold c2; rw [b0,b1]; omega
 unfold Yj
 rw [YPm (YE8 (by omega)),YQm (show ut2 s k=true from YKm (by rw [hc,b0,b1]; omega)),hc]
theorem Y1d {s:List UInt8} {k:Nat} (h:224<=bat s k):¬ut2 s k=true:=fun e=> by
 have:=of_decide_eq_true e; omega
theorem YOk {s:List UInt8} {k:Nat} (h:240<=bat s k):¬ut3 s k=true:=fun e=> by
 unfold ut3 at e
 rw [YRm] at e
 have:=of_decide_eq_true e.1; omega
theorem YOl (s:List UInt8) (k:Nat) (r:Int) (hs:scal r=true) (h0:2048<=r) (h1:r < 65536) (hk:k+2 < s.length) (b0:bat s k=224+r / 4096) (b1:bat s (k+1)=128+r / 64 % 64) (b2:bat s (k+2)=128+r % 64):Yj s k=(r,(3,false)):=by
 have hc:c3 s k=r:=by unfold c3; rw [b0,b1,b2]; omega
 unfold Yj
 rw [YPm (YE8 (by omega)),YPm (Y1d (by omega)),YQm (show ut3 s k=true from by unfold ut3; rw [hc,hs,Bool.and_true]; exact YKm (by rw [b0,b1,b2]; omega)),hc]
theorem YPl (s:List UInt8) (k:Nat) (r:Int) (hs:scal r=true) (h0:65536<=r) (h1:r < 1114112) (hk:k+3 < s.length) (b0:bat s k=240+r / 262144) (b1:bat s (k+1)=128+r / 4096 % 64) (b2:bat s (k+2)=128+r / 64 % 64) (b3:bat s (k+3)=128+r % 64):Yj s k=(r,(4,false)):=by
 have hc:c4 s k=r:=by unfold c4; rw [b0,b1,b2,b3]; omega
 unfold Yj
 rw [YPm (YE8 (by omega)),YPm (Y1d (by omega)),YPm (YOk (by omega)),YQm (show ut4 s k=true from by unfold ut4; rw [hc,hs,Bool.and_true]; exact YKm (by rw [b0,b1,b2,b3]; omega)),hc]
theorem rbs1 {r:Int} (a:r < 128):rbs r=[UInt8.ofNat r.toNat]:=by unfold rbs Ym1; rw [YQm a]; rfl
theorem rbs2 {r:Int} (a:¬r < 128) (b:r < 2048):rbs r=[UInt8.ofNat (192+r / 64).toNat,UInt8.ofNat (128+r % 64).toNat]:=by unfold rbs Ym1; rw [YPm a,YQm b]; rfl
theorem rbs3 {r:Int} (a:¬r < 128) (b:¬r < 2048) (c:r < 65536):rbs r=[UInt8.ofNat (224+r / 4096).toNat,UInt8.ofNat (128+r / 64 % 64).toNat,UInt8.ofNat (128+r % 64).toNat]:=by unfold rbs Ym1; rw [YPm a,YPm b,YQm c]; rfl
theorem rbs4 {r:Int} (a:¬r < 128) (b:¬r < 2048) (c:¬r < 65536):rbs r=[UInt8.ofNat (240+r / 262144).toNat,UInt8.ofNat (128+r / 4096 % 64).toNat,UInt8.ofNat (128+r / 64 % 64).toNat,UInt8.ofNat (128+r % 64).toNat]:=by unfold rbs Ym1; rw [YPm a,YPm b,YPm c]; rfl
theorem YQl (r:Int) (h:scal r=true) (t:List UInt8):Yj (rbs r++t) 0=(r,((((rbs r).length:Nat):Int),false)):=by
 have hr:=YK6 h
 by_cases a:r < 128
 ·rw [rbs1 a]
  exact YMl _ 0 r a (Y82 (by omega) (by omega))
 by_cases b:r < 2048
 ·rw [rbs2 a b]
  exact YNl _ 0 r (by omega) b (by simp) (Y82 (by omega) (by omega)) (Y82 (by omega) (by omega))
 by_cases c:r < 65536
 ·rw [rbs3 a b c]
  exact YOl _ 0 r h (by omega) c (by simp) (Y82 (by omega) (by omega)) (Y82 (by omega) (by omega)) (Y82 (by omega) (by omega))
 ·rw [rbs4 a b c]
  exact YPl _ 0 r h (by omega) (by omega) (by simp) (Y82 (by omega) (by omega)) (Y82 (by omega) (by omega)) (Y82 (by omega) (by omega)) (Y82 (by omega) (by omega))
theorem YRl (s:List UInt8) (k:Nat) (r:Int) (h:scal r=true) (t:List UInt8) (hk:k<=s.length) (e:s.drop k=rbs r++t):Yj s k=(r,((((rbs r).length:Nat):Int),false)):=by
 rw [<-YEd s k hk,e]; exact YQl r h t
theorem Y9j (s:List UInt8) (k:Nat) (hk:k < s.length) (h:(Yj s k).2.2=false):s.drop k=rbs (Yj s k).1++s.drop (k+wd s k):=by
 have hb0:=Yj2 s k
 have hb1:=Yj2 s (k+1)
 have hb2:=Yj2 s (k+2)
 have hb3:=Yj2 s (k+3)
 obtain ⟨d0,e0⟩:=Yb2 s k hk
 have f0:s[k]=UInt8.ofNat (bat s k).toNat:=by rw [<-e0,Yr2]
 unfold wd
 by_cases q1:ut1 s k=true
 ·have hr:Yj s k=(bat s k,(1,false)):=by unfold Yj; rw [YQm q1]
  have:=of_decide_eq_true q1
  rw [hr,rbs1 this,d0,f0]; rfl
 by_cases q2:ut2 s k=true
 ·have hr:Yj s k=(c2 s k,(2,false)):=by unfold Yj; rw [YPm q1,YQm q2]
  obtain ⟨g1,g2,g3,g4⟩:=of_decide_eq_true q2
  obtain ⟨d1,e1⟩:=Yb2 s (k+1) g1
  have f1:s[k+1]=UInt8.ofNat (bat s (k+1)).toNat:=by rw [<-e1,Yr2]
  have hc:c2 s k < 2048:=by unfold c2; omega
  have h1:192+c2 s k / 64=bat s k:=by unfold c2; omega
  have h2:128+c2 s k % 64=bat s (k+1):=by unfold c2; omega
  rw [hr,rbs2 (by omega) hc,h1,h2,d0,d1,f0,f1]; rfl
 by_cases q3:ut3 s k=true
 ·have hr:Yj s k=(c3 s k,(3,false)):=by unfold Yj; rw [YPm q1,YPm q2,YQm q3]
  unfold ut3 at q3
  rw [YRm] at q3
  obtain ⟨g1,g2,g3,g4,g5⟩:=of_decide_eq_true q3.1
  obtain ⟨d1,e1⟩:=Yb2 s (k+1) (by omega)
  obtain ⟨d2,e2⟩:=Yb2 s (k+2) g1
  have f1:s[k+1]=UInt8.ofNat (bat s (k+1)).toNat:=by rw [<-e1,Yr2]
  have f2:s[k+2]=UInt8.ofNat (bat s (k+2)).toNat:=by rw [<-e2,Yr2]
  have hc:c3 s k < 65536:=by unfold c3; omega
  have h1:224+c3 s k / 4096=bat s k:=by unfold c3; omega
  have h2:128+c3 s k / 64 % 64=bat s (k+1):=by unfold c3; omega
  have h3:128+c3 s k % 64=bat s (k+2):=by unfold c3; omega
  rw [hr,rbs3 (by omega) (by omega) hc,h1,h2,h3,d0,d1,d2,f0,f1,f2]; rfl
 by_cases q4:ut4 s k=true
 ·have hr:Yj s k=(c4 s k,(4,false)):=by unfold Yj; rw [YPm q1,YPm q2,YPm q3,YQm q4]
  unfold ut4 at q4
  rw [YRm] at q4
  obtain ⟨g1,g2,g3,g4,g5,g6⟩:=of_decide_eq_true q4.1
  obtain ⟨d1,e1⟩:=Yb2 s (k+1) (by omega)
  obtain ⟨d2,e2⟩:=Yb2 s (k+2) (by omega)
  obtain ⟨d3,e3⟩:=Yb2 s (k+3) g1
  have f1:s[k+1]=UInt8.ofNat (bat s (k+1)).toNat:=by rw [<-e1,Yr2]
  have f2:s[k+2]=UInt8.ofNat (bat s (k+2)).toNat:=by rw [<-e2,Yr2]
  have f3:s[k+3]=UInt8.ofNat (bat s (k+3)).toNat:=by rw [<-e3,Yr2]
  have h1:240+c4 s k / 262144=bat s k:=by unfold c4; omega
  have h2:128+c4 s k / 4096 % 64=bat s (k+1):=by unfold c4; omega
  have h3:128+c4 s k / 64 % 64=bat s (k+2):=by unfold c4; omega
  have h4:128+c4 s k % 64=bat s (k+3):=by unfold c4; omega
  rw [hr,rbs4 (by omega) (by omega) (by omega),h1,h2,h3,h4,d0,d1,d2,d3,f0,f1,f2,f3]; rfl
 ·exfalso
  have hr:Yj s k=(65533,(1,true)):=by unfold Yj; rw [YPm q1,YPm q2,YPm q3,YPm q4]
  rw [hr] at h; cases h
end Go.Abs
namespace Go.Abs
def pvs (s:List UInt8) (n k:Nat):List Int:=(pcs s n k).map (·.2.1)
theorem Yv2 (r:Int) (l:List Int):Yk (r::l)=rbs r++Yk l:=by
 unfold Yk rbs Yx Yu2; rw [List.flatMap_cons,List.map_append]
theorem Yw2:Yk []=[]:=rfl
theorem YM3:∀ a b:List Int,Yk (a++b)=Yk a++Yk b
 | [],b=> rfl
 | r::a,b=> by rw [List.cons_append,Yv2,Yv2,YM3 a b,YVm]
theorem Y1e:∀ l:List Int,(Yk l).length<=4*l.length
 | []=> by simp [Yw2]
 | r::l=> by
  have:=Y1e l
  have:=Ysd r
  rw [Yv2,YUm,YTm]; omega
def YJ6 (l:List Int):Prop:=∀ r∈l,scal r=true
theorem YXl {r:Int} {l:List Int} (h:YJ6 (r::l)):scal r=true/\YJ6 l:=⟨h r (by simp),fun x hx=> h x (by simp [hx])⟩
theorem YWl (s:List UInt8):YJ6 (YF s):=Yk9 s
theorem Y2e (s:List UInt8):∀ (n k:Nat),s.length<=k+n->k<=s.length->Yc2 (pcs s n k)=none->Yk (pvs s n k)=s.drop k
 | 0,k,hn,hk,h=> by
  rw [List.drop_eq_nil_of_le (by omega)]; rfl
 | n+1,k,hn,hk,h=> by
  rw [pcs] at h
  unfold pvs
  rw [pcs]
  by_cases c:k < s.length
  ·obtain ⟨w1,w2,w3,_⟩:=Y12 s k c
   have e1:s.length<=k+wd s k+n:=by clear h; omega
   rw [YQm c] at h ⊢
   have key:∀ (x:Nat×(Int×(Int×Bool))) (l:List (Nat×(Int×(Int×Bool)))),Yc2 (x::l)=none->x.2.2.2=false/\Yc2 l=none:=by
    intro x l hx
    rw [Yc2] at hx
    cases hb:x.2.2.2 with
    | false=> rw [hb] at hx; exact ⟨rfl,hx⟩
    | true=> rw [hb] at hx; cases hx
   obtain ⟨h2,h⟩:=key _ _ h
   dsimp only at h2
   have ih:=Y2e s n (k+wd s k) e1 w3 h
   have hd:=Y9j s k c h2
   unfold pvs at ih
   rw [Y7n]
   dsimp only
   generalize hA:s.drop (k+wd s k)=A at hd ih
   generalize (Yj s k).1=r at hd ⊢
   rw [hd,Yv2,ih]
  ·rw [YPm c,List.drop_eq_nil_of_le (by omega)]; rfl
theorem Ynm (s:List UInt8) (h:(Y93 s).1=true):Yk (YF s)=s:=by
 have:Yc2 (pcs s s.length 0)=none:=by
  unfold Y93 Y95 at h
  cases hf:Yc2 (pcs s s.length 0) with
  | none=> rfl
  | some k=> rw [hf] at h; cases h
 exact Y2e s s.length 0 (by omega) (by omega) this
theorem Yzm (r:Int) (h:scal r=true):Utf8.valid r=true:=by
 have h:=of_decide_eq_true h
 unfold Utf8.valid
 simp only [Bool.or_eq_true,YRm,Y3n]; omega
theorem ofN {x:Int} {n:Nat} (h:x=(n:Int)):UInt8.ofNat x.toNat=UInt8.ofNat n:=by rw [h,YSm]
theorem Ygj (r:Int) (h:scal r=true):Ya1 r=rbs r:=by
 have hr:=YK6 h
 have hv:=Yzm r h
 unfold Ya1 Utf8.encode
 rw [YQm hv]
 by_cases a:r.toNat < 128
 ·rw [rbs1 (by omega),YQm a]
 ·rw [YPm a]
  by_cases b:r.toNat < 2048
  ·rw [rbs2 (by omega) (by omega),YQm b,ofN (n:=192+r.toNat / 64) (by omega),ofN (n:=128+r.toNat % 64) (by omega)]
  ·rw [YPm b]
   by_cases c:r.toNat < 65536
   ·rw [rbs3 (by omega) (by omega) (by omega),YQm c,ofN (n:=224+r.toNat / 4096) (by omega),ofN (n:=128+r.toNat / 64 % 64) (by omega),ofN (n:=128+r.toNat % 64) (by omega)]
   ·rw [YPm c,rbs4 (by omega) (by omega) (by omega),ofN (n:=240+r.toNat / 262144) (by omega),ofN (n:=128+r.toNat / 4096 % 64) (by omega),ofN (n:=128+r.toNat / 64 % 64) (by omega),ofN (n:=128+r.toNat % 64) (by omega)]
def lowS (s:List UInt8):List UInt8:=s.map lowB
theorem YFk (s:List UInt8):(lowS s).length=s.length:=List.length_map ..
end Go.Abs
namespace Go.Abs
def okI (c:Int):Prop:=0<=c/\c < 128/\c≠46/\¬(65<=c/\c<=90)
instance (c:Int):Decidable (okI c):=by unfold okI; infer_instance
theorem Ybl (plain:Nat) (l:List Int) (hl:l.length<=65536) (hr:∀ r∈l,0<=r/\r < 1114112) (f:Nat):∀ (n:Int) (x:EncS),x.told=l.countP (fun r=> decide (r < n))->Fine x->x.out.length<=65537+14*x.told->0<=n->n<=1114112->
  (Ym4 l plain f n x).length<=65537+14*l.length:=by
 have cle:∀ n:Int,l.countP (fun r=> decide (r < n))<=l.length:=fun n=> List.countP_le_length
 induction f with
 | zero=>
  intro n x h2 _ ho _ _
  have:=cle n
  show x.out.length<=_
  omega
 | succ f ih=>
  intro n x h2 hf ho hn0 hn1
  have hc:=cle n
  unfold Ym4
  by_cases c:l.length<=x.told
  ·rw [YQm c]; omega
  ·rw [YPm c]
   obtain ⟨m1,m2,m3,m4,m5⟩:=YZc l n (fun r h=> (hr r h).2) (by omega)
   generalize YI n 1114112 l=m at m1 m2 m3 m4 m5 ⊢
   have hp:=Yq6 (a:=m - n) (b:=((x.told+1:Nat):Int)) (A:=1114112) (B:=65537) (by omega) (by omega) (by omega) (by omega)
   have hdx:=hf.1
   obtain ⟨f1,f2,f3,f4⟩:=YW4 m plain l ⟨x.told,x.bias,x.delta+(m - n)*((x.told+1:Nat):Int),x.out⟩ ⟨by dsimp only; omega,hf.2⟩
   have ft:=YX4 m plain l ⟨x.told,x.bias,x.delta+(m - n)*((x.told+1:Nat):Int),x.out⟩
   generalize YQ m plain l ⟨x.told,x.bias,x.delta+(m - n)*((x.told+1:Nat):Int),x.out⟩=y at f1 f2 f3 f4 ft ⊢
   dsimp only at f4 ft
   have hd1:=f1.1
   exact ih (m+1) ⟨y.told,y.bias,y.delta+1,y.out⟩ (by dsimp only; omega) ⟨by dsimp only; omega,f1.2⟩ (by dsimp only; omega) (by omega) (by omega)
theorem Yfj (l:List Int) (hl:l.length<=65536) (hr:∀ r∈l,0<=r/\r < 1114112):(YO4 l).length<=1048576:=by
 have hsl:(YD l).length<=l.length:=by rw [YP6]; exact List.countP_le_length
 have:=Ybl (YD l).length l hl hr l.length 128 ⟨(YD l).length,72,0,if (YD l).length=0 then YD l else YD l++[45]⟩ (YP6 l) ⟨by dsimp only; omega,by dsimp only; omega⟩ (by dsimp only; split; omega; rw [YUm]; simp only [YTm,YYm]; omega) (by omega) (by omega)
 unfold YO4; omega
theorem Yej (out:List Int):((YP2 out).2≠0/\(YP2 out).1=[])\/YP2 out=(Yx out,0):=by
 unfold YP2; split
 ·exact .inl ⟨by simp,rfl⟩
 ·exact .inr rfl
theorem YE9 (s:List UInt8):((Yz1 s).2≠0/\(Yz1 s).1=[])\/(Yz1 s=(Yx (YO4 (YF s)),0)/\(Y93 s).1=true/\s.length<=65536):=by
 unfold Yz1
 split
 ·exact .inl ⟨by simp,rfl⟩
 ·rename_i hv
  split
  ·exact .inl ⟨by simp,rfl⟩
  ·rename_i hl
   rcases Yej (YO4 (YF s)) with h | h
   ·exact .inl h
   ·exact .inr ⟨h,by simpa using hv,by omega⟩
theorem YF9 (s:List UInt8):(Yz1 s).1.length<=1048576:=by
 rcases YE9 s with ⟨_,e⟩ | ⟨e,_,hl⟩
 ·rw [e]; simp
 ·rw [e]
  have h1:=YL6 s
  have:=Yfj (YF s) (by omega) (fun r h=> YK6 (Yk9 s r h))
  simp only [Yx,List.length_map]; exact this
def xn:List UInt8:=[120,110,45,45]
def YA1 (s:List UInt8):List UInt8×Int:=if (Yz1 s).2≠0 then ([],(Yz1 s).2) else if YG2 s=true then (s,0) else (xn++(Yz1 s).1,0)
theorem bne0 {x:Int}:(x !=0)=decide (x≠0):=by
 by_cases h:x=0
 ·rw [h]; rfl
 ·rw [YKm h]; exact bne_iff_ne.2 h
theorem Ygb (s:List UInt8):YG5 s=some (YA1 s):=by
 have hl:=YF9 s
 rw [YRh,Y1g,YQh,YOm,bne0]
 unfold YA1
 by_cases a:(Yz1 s).2≠0
 ·rw [YKm a,YMm,YQm a]
 ·rw [YLm a,YNm,YPm a,Yjb,YOm]
  cases YG2 s with
  | true=> rw [YMm,YQm rfl]
  | false=>
   rw [YNm,YPm (by simp),show decide (([120,110,45,45]:List UInt8).length+(Yz1 s).1.length<=2 ^ 62)=true from YKm (by simp only [YTm,YYm]; omega),YMm]; rfl
theorem YI9 (s:List UInt8):(YA1 s).1.length<=1048580:=by
 have hl:=YF9 s
 unfold YA1
 split
 ·simp
 ·rename_i h
  split
  ·rcases YE9 s with ⟨h1,_⟩ | ⟨_,_,h2⟩
   ·exact absurd h1 h
   ·dsimp only; omega
  ·simp only [xn,YUm,YTm,YYm]; omega
end Go.Abs
namespace Go.Abs
def YB1 (s:List UInt8):List UInt8×Int:=
 if s.length < 4 then (s,0) else if lowS (s.take 4)≠xn then (s,0)
 else if (Yj1 (s.drop 4)).2.1≠0 then ([],(Yj1 (s.drop 4)).2.1)
 else if (YA1 (Yj1 (s.drop 4)).1).2≠0 then ([],31)
 else if YG2 (Yj1 (s.drop 4)).1=true then ([],31)
 else if lowS (YA1 (Yj1 (s.drop 4)).1).1≠lowS s then ([],31)
 else ((Yj1 (s.drop 4)).1,0)
theorem Yuh (a b:List UInt8) (ha:a.length<=1073741824) (hb:b.length<=1073741824):YG7 (a,b)=some (lowS a==lowS b):=by
 rw [Yth,Yve]
 simp only
 rw [YV3 a ha,YOm,YV3 b hb,YOm]; rfl
theorem YTh (s:List UInt8) (hs:s.length<=1073741824):YD4 s=some (YB1 s):=by
 rw [YSh,Yef]
 unfold YB1
 by_cases a:s.length < 4
 ·rw [show decide ((s.length:Int) < 4)=true from YKm (by omega),YMm,YQm a]
 ·rw [show decide ((s.length:Int) < 4)=false from YLm (by omega),YNm,YPm a,show Yh none (some (4:Int)) s.length=true from by simp [Yh]; omega,YMm,
   show Yn none (some (4:Int)) s=s.take 4 from rfl,YV3 _ (by rw [Y4n]; omega),YOm,show (List.map lowB (List.take 4 s))=lowS (s.take 4) from rfl]
  by_cases b:lowS (s.take 4)=xn
  ·rw [show (!(lowS (s.take 4)==([120,110,45,45]:List UInt8)))=false from by rw [b]; rfl,YNm,YPm (fun h=> h b),show Yh (some (4:Int)) none s.length=true from Yo1 (f:=4) (by omega),YMm,
    show Yn (some (4:Int)) none s=s.drop 4 from rfl,YOh _ (by rw [Y5n]; omega),YOm,bne0]
   by_cases c:(Yj1 (s.drop 4)).2.1≠0
   ·rw [YKm c,YMm,YQm c]
   ·rw [YLm c,YNm,YPm c,Ygb,YOm,bne0]
    by_cases d:(YA1 (Yj1 (s.drop 4)).1).2≠0
    ·rw [YKm d,YMm,YQm d]
    ·have:=YI9 (Yj1 (s.drop 4)).1
     rw [YLm d,YNm,YPm d,Yjb,YOm]
     cases YG2 (Yj1 (s.drop 4)).1 with
     | true=> rw [YMm,YQm rfl]
     | false=>
      rw [YNm,YPm (by simp),Yuh _ _ (by omega) hs,YOm]
      by_cases e:lowS (YA1 (Yj1 (s.drop 4)).1).1=lowS s
      ·rw [e,YPm (fun h=> h rfl),show (!(lowS s==lowS s))=false from by simp,YNm]
      ·rw [YQm e,show (!(lowS (YA1 (Yj1 (s.drop 4)).1).1==lowS s))=true from by simp [e],YMm]
  ·rw [show (!(lowS (s.take 4)==([120,110,45,45]:List UInt8)))=true from by simp only [Bool.not_eq_true',YWm]; exact b,YMm,YQm b]
def isXn (s:List UInt8):Bool:=decide (4<=s.length)&&(s.take 4==xn)
def YI1 (t:List UInt8) (last:Bool):List UInt8×Int:=
 if 63 < t.length then ([],53) else if t=[]/\last=false then ([],53)
 else if isXn t=true then (if (YB1 t).2≠0 then ([],53) else if has (YB1 t).1 65533=true then ([],53) else if Y56 (YB1 t).1=true then ([],53) else (t,0))
 else (t,0)
def YC (s:List UInt8) (last:Bool):List UInt8×Int:=
 if YG2 (lowS s)=false/\has (lowS s) 65533=false then (if (YA1 (lowS s)).2≠0 then ([],53) else YI1 (YA1 (lowS s)).1 last)
 else if has (lowS s) 65533=true then ([],53) else YI1 (lowS s) last
theorem Yjk (t:List UInt8) (ht:t.length<=1073741824):((YX3 (t,([(120:UInt8),(110:UInt8),(45:UInt8),(45:UInt8)]:List UInt8))).bind fun y0=>
      bif y0 then
       (YD4 t).bind fun y1=>
        bif (y1.2 !=(0:Int)) then
         some (([]:List UInt8),(53:Int))
        else
         (YU3 (y1.1,(65533:Int))).bind fun y2=>
          bif y2 then
           some (([]:List UInt8),(53:Int))
          else
           (YG4 (y1.1,())).bind fun y3=>
            bif (decide (y3>=(0:Int))) then
             some (([]:List UInt8),(53:Int))
            else
             some (t,(0:Int))
      else
       some (t,(0:Int)))=some (if isXn t=true then (if (YB1 t).2≠0 then ([],53) else if has (YB1 t).1 65533=true then ([],53) else if Y56 (YB1 t).1=true then ([],53) else (t,0))
 else (t,0)):=by
 rw [Yob t _ ht (by simp),YOm,show (decide (([(120:UInt8),(110:UInt8),(45:UInt8),(45:UInt8)]:List UInt8).length<=t.length)&&(t.take ([(120:UInt8),(110:UInt8),(45:UInt8),(45:UInt8)]:List UInt8).length==[(120:UInt8),(110:UInt8),(45:UInt8),(45:UInt8)]))=isXn t from rfl]
 cases isXn t with
 | false=> rfl
 | true=>
  rw [YMm,YQm rfl,YTh t ht,YOm,bne0]
  by_cases c:(YB1 t).2≠0
  ·rw [YKm c,YMm,YQm c]
  ·rw [YLm c,YNm,YPm c,Y0b,YOm]
   cases has (YB1 t).1 65533 with
   | true=> rw [YMm,YQm rfl]
   | false=>
    obtain ⟨y,h1,h2⟩:=YMg (YB1 t).1
    rw [YNm,YPm (by simp),h1,YOm,h2]
    cases Y56 (YB1 t).1 with
    | true=> rw [YMm,YQm rfl]
    | false=> rw [YNm,YPm (by simp)]
theorem YJc (t:List UInt8) (last:Bool) (ht:t.length<=1073741824):Zc1 t last false=some (YI1 t last):=by
 rw [Yc7,YNm]
 unfold YI1
 by_cases a:63 < t.length
 ·rw [show decide ((t.length:Int) > 63)=true from YKm (by omega),YMm,YQm a]
 ·rw [show decide ((t.length:Int) > 63)=false from YLm (by omega),YNm,YPm a,Yjk t ht]
  cases t with
  | nil=>
   rw [show (([]:List UInt8)==[])=true from rfl,YMm]
   cases last with
   | false=> rw [Ybn,YMm,YQm ⟨rfl,rfl⟩]
   | true=> rw [Yan,YNm,YPm (show ¬(([]:List UInt8)=[]/\true=false) from fun h=> by cases h.2)]
  | cons b t=> rw [show ((b::t)==[])=false from rfl,YNm,YPm (show ¬(b::t=[]/\last=false) from fun h=> by cases h.1)]
theorem Ych (s:List UInt8) (last:Bool) (hs:s.length<=1073741824):YA4 (s,last)=some (YC s last):=by
 have h1:=YFk s
 have h2:=YI9 (lowS s)
 rw [Ybh,Y7f]
 simp only
 rw [YV3 s hs,YOm,show List.map lowB s=lowS s from rfl,Y0b,YOm,Y5h,YOm,Ygb,YOm,bne0]
 unfold YC
 cases YG2 (lowS s) with
 | true=>
  rw [Yan,YNm,YPm (fun h=> by cases h.1)]
  cases has (lowS s) 65533 with
  | true=> rw [YQm rfl,Yc7,YMm]
  | false=> rw [YPm (by simp),YJc _ _ (by omega)]
 | false=>
  rw [Ybn,YMm]
  cases has (lowS s) 65533 with
  | true=> rw [Yan,YNm,YPm (fun h=> by cases h.2),YQm rfl,Yc7,YMm]
  | false=>
   rw [Ybn,YMm,YQm ⟨rfl,rfl⟩]
   by_cases c:(YA1 (lowS s)).2≠0
   ·rw [YKm c,YMm,YQm c]
   ·rw [YLm c,YNm,YPm c,YJc _ _ (by omega)]
end Go.Abs
