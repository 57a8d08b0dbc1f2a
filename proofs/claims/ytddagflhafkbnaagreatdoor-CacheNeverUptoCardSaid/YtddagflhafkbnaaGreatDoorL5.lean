/- Part L5 of the proof: see the last text of the claim. No condition of its own. -/
import Derived.Test.YtddagflhafkbnaaGreatDoorL4
set_option linter.all false
set_option autoImplicit false
namespace Go.Abs
def YT1 (s:List UInt8):Nat->Nat->Option Nat
 | 0,_=> none
 | n+1,k=> if 127 < bat s k then some k else YT1 s n (k+1)
def Yn1 (s:List UInt8):List UInt8×(Int×Int):=match YT1 s s.length 0 with
 | some k=> ([],(31,(k:Int)))
 | none=> decV s (Yq (s.take (Yp s s.length).toNat)).length s.length (Yp s s.length+1).toNat 0 128 72 (Yq (s.take (Yp s s.length).toNat))
theorem YYp (s:List UInt8) (hs:s.length<=1073741824) (f:Nat) (at':Nat) (hf:s.length<=at'+f) (hat:at'<=s.length):Zs3 s (at':Int) 0 0 128 72=Zr3 s (at':Int) 0 0 128 72 []:=by
 rw [Yhl,YJ6]
 rfl
theorem YMf (s:List UInt8) (hs:s.length<=1073741824):∀ (n k:Nat),k+n=s.length->(Zo3 s (s.length:Int) (k:Int)=some (match YT1 s n k with
  | some k=> ([],(31,(k:Int)))
  | none=> decV s (Yq (s.take (Yp s s.length).toNat)).length s.length (Yp s s.length+1).toNat 0 128 72 (Yq (s.take (Yp s s.length).toNat))))
 | 0,k,h=> by
  have hk:k=s.length:=by omega
  subst hk
  have hl:=YY7 s s.length
  rw [Ypd,Yg,Yfu (YGu _),Yhu,Y2n s hs,Yiu,w64 (x:=Yp s s.length+1) (by omega) (by omega)]
  unfold YT1
  dsimp only
  by_cases c:Yp s s.length+1 > 0
  ·have hn:((Yp s s.length).toNat:Int)=Yp s s.length:=Int.toNat_of_nonneg (by omega)
   have hsl:(Yq (s.take (Yp s s.length).toNat)).length<=(Yp s s.length).toNat:=by
    have:=YP3 (s.take (Yp s s.length).toNat)
    rw [Yyu] at this; omega
   rw [Yeu c,Ygu,w64 (by omega) (by omega),show Yp s s.length+1 - 1=(((Yp s s.length).toNat:Nat):Int) from by omega,show Yi none (some (((Yp s s.length).toNat:Nat):Int)) s.length=true from by simp [Yi]; omega,Ygu,
    show Ym none (some (((Yp s s.length).toNat:Nat):Int)) s=s.take (Yp s s.length).toNat from (by show List.take (Int.toNat (((Yp s s.length).toNat:Nat):Int)) s=_; rw [Ymu]),show decide ((s.take (Yp s s.length).toNat).length<=lim)=true from Yeu (by rw [Yyu]; simp only [lim]; omega),Ygu,Y1i,YYk]
   rw [show Yp s s.length+1=(((Yp s s.length+1).toNat:Nat):Int) from by omega]
   have:=YLf s (Yq (s.take (Yp s s.length).toNat)).length hs s.length (Yp s s.length+1).toNat 0 128 72 (Yq (s.take (Yp s s.length).toNat)) (by omega) (by omega) (by omega) (by omega) (by omega) (by omega) (by omega) (by omega)
   rw [this]
   rw [show (((Yp s s.length+1).toNat:Nat):Int).toNat=(Yp s s.length+1).toNat from by omega]
  ·have he:Yp s s.length=-1:=by omega
   rw [Yfu c,Yhu,Y5l,he]
   have h5:=YYp s hs s.length 0 (by omega) (by omega)
   have h4:=YLf s 0 hs s.length 0 0 128 72 [] (by omega) (by omega) (by omega) (by omega) (by omega) (by omega) (by omega) (by simp)
   have hz:((0:Nat):Int)=0:=rfl
   rw [hz] at h5 h4
   rw [show (-1:Int)+1=0 from rfl,hz,h5,h4]
   rfl
 | n+1,k,h=> by
  have hk:k < s.length:=by omega
  have hw:IntKind.i64.wrap ((k:Int)+1)=((k+1:Nat):Int):=by rw [w64 (by omega) (by omega)]; omega
  rw [Ypd,Yg,Yeu hk,Ygu,Yj,Yeu hk,Ygu,Ymu,show (((s.getD k 0).toNat:Nat):Int)=bat s k from rfl,hw]
  unfold YT1
  by_cases c:127 < bat s k
  ·rw [show decide (bat s k > 127)=true from Yeu c,Ygu,Yku c]
  ·rw [show decide (bat s k > 127)=false from Yfu c,Yhu,Yju c]
   exact YMf s hs n (k+1) (by omega)
theorem YEe (s:List UInt8) (hs:s.length<=1073741824):Y37 s=some (Yn1 s):=by
 rw [Yzn,YOk]
 exact YMf s hs s.length 0 (by omega)
def YT (s:List UInt8):List UInt8×(Int×Int):=if 65536 < s.length then ([],(5,0)) else Yn1 s
theorem Yqn (s:List UInt8) (hs:s.length<=1073741824):YC9 s=some (YT s):=by
 rw [Ypn,Y4l]
 unfold YT
 by_cases c:65536 < s.length
 ·rw [show decide ((s.length:Int) > 65536)=true from Yeu (by omega),Ygu,Yku c]
 ·rw [show decide ((s.length:Int) > 65536)=false from Yfu (by omega),Yhu,Yju c,YEe s hs]; rfl
def azv (n:Int):Int:=(((az36.getD n.toNat 0).toNat:Nat):Int)
def layV (bias:Int):Nat->Int->Int->List Int
 | 0,_,_=> []
 | f+1,q,k=> if q < thr k bias then [azv q] else azv (thr k bias+(q - thr k bias) % (36 - thr k bias))::layV bias f ((q - thr k bias) / (36 - thr k bias)) (k+36)
theorem YZ7 (bias:Int):∀ (f:Nat) (q k:Int),(layV bias f q k).length<=f
 | 0,_,_=> by simp [layV]
 | f+1,q,k=> by
  unfold layV
  split
  ·simp
  ·simp only [Ynu]; have:=YZ7 bias f ((q - thr k bias) / (36 - thr k bias)) (k+36); omega
theorem in36 (n:Int) (h0:0<=n) (h1:n < 36):Ya n az36.length=true:=by
 unfold Ya; rw [Yeu h0,Yeu (by simp [az36]; omega)]; rfl
def Yb5:Nat->Int
 | 0=> 0
 | n+1=> 10*Yb5 n+9
theorem Ykr (bias:Int) (hb:0<=bias/\bias<=4096) (f:Nat):∀ (q k:Int) (r:List Int),0<=q->q<=Yb5 f->q<=1099511627776->0<=k->k<=1000000 - 36*(f:Int)->r.length+f<=4294967000->
  Z04 q bias k r=some (r++layV bias (f+1) q k):=by
 induction f with
 | zero=>
  intro q k r h0 h1 _ hk0 hk1 hr
  have ht:=YT3 k bias
  have h1:q<=0:=h1
  rw [Ync,YF9 k bias ⟨hk0,by omega⟩ hb,Yiu]
  unfold layV
  rw [Yeu (by omega:q < thr k bias),Ygu,Yku (by omega)]
  rw [show ([(97:UInt8),(98:UInt8),(99:UInt8),(100:UInt8),(101:UInt8),(102:UInt8),(103:UInt8),(104:UInt8),(105:UInt8),(106:UInt8),(107:UInt8),(108:UInt8),(109:UInt8),(110:UInt8),(111:UInt8),(112:UInt8),(113:UInt8),(114:UInt8),(115:UInt8),(116:UInt8),(117:UInt8),(118:UInt8),(119:UInt8),(120:UInt8),(121:UInt8),(122:UInt8),(48:UInt8),(49:UInt8),(50:UInt8),(51:UInt8),(52:UInt8),(53:UInt8),(54:UInt8),(55:UInt8),(56:UInt8),(57:UInt8)]:List UInt8)=az36 from rfl,in36 q h0 (by omega),Ygu]
  rw [show decide (r.length+[(((az36.getD q.toNat 0).toNat:Nat):Int)].length<=lim)=true from Yeu (by simp [lim]; omega),Ygu]; rfl
 | succ f ih=>
  intro q k r h0 h1 hb1 hk0 hk1 hr
  have ht:=YT3 k bias
  have h1:q<=10*Yb5 f+9:=h1
  rw [Ync,YF9 k bias ⟨hk0,by omega⟩ hb,Yiu]
  rw [show ([(97:UInt8),(98:UInt8),(99:UInt8),(100:UInt8),(101:UInt8),(102:UInt8),(103:UInt8),(104:UInt8),(105:UInt8),(106:UInt8),(107:UInt8),(108:UInt8),(109:UInt8),(110:UInt8),(111:UInt8),(112:UInt8),(113:UInt8),(114:UInt8),(115:UInt8),(116:UInt8),(117:UInt8),(118:UInt8),(119:UInt8),(120:UInt8),(121:UInt8),(122:UInt8),(48:UInt8),(49:UInt8),(50:UInt8),(51:UInt8),(52:UInt8),(53:UInt8),(54:UInt8),(55:UInt8),(56:UInt8),(57:UInt8)]:List UInt8)=az36 from rfl]
  rw [layV]
  generalize thr k bias=t at ht ⊢
  by_cases c:q < t
  ·rw [Yeu c,Ygu,Yku c,in36 q h0 (by omega),Ygu,show decide (r.length+[(((az36.getD q.toNat 0).toNat:Nat):Int)].length<=lim)=true from Yeu (by simp [lim]; omega),Ygu]; rfl
  ·have m0:0<=(q - t) % (36 - t):=Int.emod_nonneg _ (by omega)
   have m1:(q - t) % (36 - t) < 36 - t:=Int.emod_lt_of_pos _ (by omega)
   have d0:0<=(q - t) / (36 - t):=Int.ediv_nonneg (by omega) (by omega)
   have d1:(q - t) / (36 - t)<=(q - t) / 10:=by
    apply Int.le_ediv_of_mul_le (by omega)
    have:=Int.ediv_mul_le (q - t) (b:=36 - t) (by omega)
    have h2:(q - t) / (36 - t)*10<=(q - t) / (36 - t)*(36 - t):=Int.mul_le_mul_of_nonneg_left (by omega) d0
    omega
   rw [Yfu c,Yhu,Yju c,w64 (x:=36 - t) (by omega) (by omega),show (36 - t !=0)=true from bne_iff_ne.2 (by omega),Ygu,w64 (x:=q - t) (by omega) (by omega),Int.tmod_eq_emod_of_nonneg (by omega),YMu (by omega),
    w64 (x:=t+(q - t) % (36 - t)) (by omega) (by omega),w64 (x:=(q - t) / (36 - t)) (by omega) (by omega),w64 (x:=k+36) (by omega) (by omega),in36 _ (by omega) (by omega),Ygu,
    show decide (r.length+[(((az36.getD (t+(q - t) % (36 - t)).toNat 0).toNat:Nat):Int)].length<=lim)=true from Yeu (by simp [lim]; omega),Ygu,Ygu]
   rw [ih _ _ _ d0 (by omega) (by omega) (by omega) (by omega) (by simp; omega),Ypu]
   rfl
theorem YPg:1099511627776<=Yb5 13:=by decide
def Ya3 (q bias:Int):List Int:=layV bias 14 q 36
theorem YBn (r:List Int) (q bias:Int) (h0:0<=q) (h1:q<=1099511627776) (hb:0<=bias/\bias<=4096) (hr:r.length<=4294966000):YE9 (r,q,bias)=some (r++Ya3 q bias):=by
 have:=YPg
 rw [YAn,YRl]
 exact Ykr bias hb 13 q 36 r h0 (by omega) h1 (by omega) (by omega) (by omega)
end Go.Abs
namespace Go.Abs
def YJ (n:Int):Int->List Int->Int
 | m,[]=> m
 | m,r::l=> YJ n (if n<=r/\r < m then r else m) l
structure EncS where
 told:Nat
 bias:Int
 delta:Int
 out:List Int
def YN (n:Int) (plain:Nat):List Int->EncS->EncS
 | [],x=> x
 | r::l,x=>
  if r=n then YN n plain l ⟨x.told+1,Yh1 x.delta ((x.told+1:Nat):Int) (((x.told:Nat):Int)==((plain:Nat):Int)),0,x.out++Ya3 x.delta x.bias⟩
  else if r < n then YN n plain l ⟨x.told,x.bias,x.delta+1,x.out⟩
  else YN n plain l x
def YA2 (l:List Int) (plain:Nat):Nat->Int->EncS->List Int
 | 0,_,x=> x.out
 | f+1,n,x=>
  if l.length<=x.told then x.out
  else YA2 l plain f (YJ n 1114112 l+1) ⟨(YN (YJ n 1114112 l) plain l ⟨x.told,x.bias,x.delta+(YJ n 1114112 l - n)*((x.told+1:Nat):Int),x.out⟩).told,
   (YN (YJ n 1114112 l) plain l ⟨x.told,x.bias,x.delta+(YJ n 1114112 l - n)*((x.told+1:Nat):Int),x.out⟩).bias,
   (YN (YJ n 1114112 l) plain l ⟨x.told,x.bias,x.delta+(YJ n 1114112 l - n)*((x.told+1:Nat):Int),x.out⟩).delta+1,
   (YN (YJ n 1114112 l) plain l ⟨x.told,x.bias,x.delta+(YJ n 1114112 l - n)*((x.told+1:Nat):Int),x.out⟩).out⟩
theorem Y85 (n:Int) (plain:Nat):∀ (l:List Int) (x:EncS),(YN n plain l x).told=x.told+l.countP (fun r=> r==n)
 | [],x=> rfl
 | r::l,x=> by
  unfold YN
  by_cases c:r=n
  ·rw [Yku c,Y85 n plain l,List.countP_cons]
   have e:(r==n)=true:=Y7v.2 c
   simp only [e,if_true]; omega
  ·have e:(r==n)=false:=Yqu.2 c
   rw [Yju c]
   simp only [List.countP_cons,e]
   split
   ·rw [Y85 n plain l]; rfl
   ·rw [Y85 n plain l]; rfl
def Fine (x:EncS):Prop:=0<=x.delta/\(0<=x.bias/\x.bias<=4096)
theorem Y75 (n:Int) (plain:Nat):∀ (l:List Int) (x:EncS),Fine x->Fine (YN n plain l x)/\(YN n plain l x).delta<=x.delta+l.length/\((∃ r∈l,r=n)->(YN n plain l x).delta<=l.length)/\(YN n plain l x).out.length+14*x.told<=x.out.length+14*(YN n plain l x).told
 | [],x,h=> by
  refine ⟨h,?_,?_,?_⟩
  ·simp [YN]
  ·rintro ⟨r,hr,_⟩; cases hr
  ·unfold YN; omega
 | r::l,x,h=> by
  unfold YN
  by_cases c:r=n
  ·rw [Yku c]
   have hb:=Y34 x.delta ((x.told+1:Nat):Int) (((x.told:Nat):Int)==((plain:Nat):Int)) h.1 (by omega)
   obtain ⟨h1,h2,h3,h4⟩:=Y75 n plain l ⟨x.told+1,Yh1 x.delta ((x.told+1:Nat):Int) (((x.told:Nat):Int)==((plain:Nat):Int)),0,x.out++Ya3 x.delta x.bias⟩ ⟨Int.le_refl _,hb⟩
   have hl:=YZ7 x.bias 14 x.delta 36
   have hd:=h.1
   refine ⟨h1,?_,fun _=> ?_,?_⟩
   ·dsimp only at h2; simp only [Ynu]; omega
   ·dsimp only at h2; simp only [Ynu]; omega
   ·dsimp only at h4; rw [You] at h4; unfold Ya3 at h4; unfold Ya3; omega
  ·rw [Yju c]
   by_cases d:r < n
   ·rw [Yku d]
    obtain ⟨h1,h2,h3,h4⟩:=Y75 n plain l ⟨x.told,x.bias,x.delta+1,x.out⟩ ⟨by have:=h.1; dsimp only; omega,h.2⟩
    refine ⟨h1,?_,fun ⟨y,hy,e⟩=> ?_,h4⟩
    ·dsimp only at h2; simp only [Ynu]; omega
    ·rcases Yuu.1 hy with rfl | hy
     ·exact absurd e c
     ·have:=h3 ⟨y,hy,e⟩; simp only [Ynu]; omega
   ·rw [Yju d]
    obtain ⟨h1,h2,h3,h4⟩:=Y75 n plain l x h
    refine ⟨h1,?_,fun ⟨y,hy,e⟩=> ?_,h4⟩
    ·simp only [Ynu]; omega
    ·rcases Yuu.1 hy with rfl | hy
     ·exact absurd e c
     ·have:=h3 ⟨y,hy,e⟩; simp only [Ynu]; omega
theorem Y38 (n:Int):∀ (l:List Int) (m:Int),YJ n m l<=m/\(YJ n m l=m\/(YJ n m l∈l/\n<=YJ n m l))/\∀ r∈l,n<=r->YJ n m l<=r
 | [],m=> ⟨Int.le_refl _,.inl rfl,fun r hr=> by cases hr⟩
 | r::l,m=> by
  unfold YJ
  obtain ⟨h1,h2,h3⟩:=Y38 n l (if n<=r/\r < m then r else m)
  by_cases c:n<=r/\r < m
  ·rw [Yku c] at h1 h2 h3 ⊢
   refine ⟨by omega,?_,fun y hy hn=> ?_⟩
   ·rcases h2 with h2 | h2
    ·rw [h2]; exact .inr ⟨by simp,c.1⟩
    ·exact .inr ⟨Y0v _ h2.1,h2.2⟩
   ·rcases Yuu.1 hy with rfl | hy
    ·exact h1
    ·exact h3 y hy hn
  ·rw [Yju c] at h1 h2 h3 ⊢
   refine ⟨h1,?_,fun y hy hn=> ?_⟩
   ·rcases h2 with h2 | h2
    ·exact .inl h2
    ·exact .inr ⟨Y0v _ h2.1,h2.2⟩
   ·rcases Yuu.1 hy with rfl | hy
    ·omega
    ·exact h3 y hy hn
theorem YTp (l:List Int) (n m:Int) (hnm:n<=m) (h:∀ r∈l,n<=r->m<=r):l.countP (fun r=> decide (r < m+1))=l.countP (fun r=> decide (r < n))+l.countP (fun r=> r==m):=by
 induction l with
 | nil=> rfl
 | cons r l ih=>
  have ih:=ih (fun y hy=> h y (Y0v _ hy))
  have hr:=h r (by simp)
  simp only [List.countP_cons,ih]
  by_cases a:r < n
  ·have e1:decide (r < m+1)=true:=Yeu (by omega)
   have e2:decide (r < n)=true:=Yeu a
   have e3:(r==m)=false:=Yqu.2 (by omega)
   simp only [e1,e2,e3,if_true,YSu,if_false]; omega
  ·have:=hr (by omega)
   have e2:decide (r < n)=false:=Yfu a
   by_cases b:r=m
   ·have e1:decide (r < m+1)=true:=Yeu (by omega)
    have e3:(r==m)=true:=Y7v.2 b
    simp only [e1,e2,e3,if_true,YSu,if_false]; omega
   ·have e1:decide (r < m+1)=false:=Yfu (by omega)
    have e3:(r==m)=false:=Yqu.2 b
    simp only [e1,e2,e3,YSu,if_false]; omega
theorem YDf (l:List Int) (n:Int) (h:l.countP (fun r=> decide (r < n)) < l.length):∃ r∈l,n<=r:=by
 induction l with
 | nil=> simp at h
 | cons r l ih=>
  by_cases a:r < n
  ·rw [List.countP_cons,Yku (by simpa using a),Ynu] at h
   obtain ⟨y,hy,e⟩:=ih (by omega)
   exact ⟨y,Y0v _ hy,e⟩
  ·exact ⟨r,by simp,by omega⟩
theorem YTa (l:List Int) (n:Int) (hl:∀ r∈l,r < 1114112) (h:l.countP (fun r=> decide (r < n)) < l.length):
  n<=YJ n 1114112 l/\YJ n 1114112 l < 1114112/\YJ n 1114112 l∈l/\l.countP (fun r=> decide (r < YJ n 1114112 l+1))=l.countP (fun r=> decide (r < n))+l.countP (fun r=> r==YJ n 1114112 l)/\1<=l.countP (fun r=> r==YJ n 1114112 l):=by
 obtain ⟨h1,h2,h3⟩:=Y38 n l 1114112
 obtain ⟨y,hy,hn⟩:=YDf l n h
 have hm:=h3 y hy hn
 have hy':=hl y hy
 rcases h2 with h2 | ⟨h2,h4⟩
 ·omega
 ·refine ⟨h4,by omega,h2,YTp l n _ h4 h3,?_⟩
  exact List.countP_pos_iff.2 ⟨_,h2,by simp⟩
end Go.Abs
namespace Go.Abs
def Ys (l:List Int):List Int:=l.filter fun r=> decide (r < 128)
theorem Y48 (s:List UInt8) (told plain:Nat) (n bias delta:Int) (l out:List Int) (hl:l.length<=1048576):∀ (k i:Nat) (m:Int),i+k=l.length->
  Zd3 s (told:Int) (plain:Int) n bias delta m (l.length:Int) (i:Int) l out=
   Ze3 s (told:Int) (plain:Int) (YJ n m (l.drop i)) bias (IntKind.i64.wrap (delta+(IntKind.i64.wrap ((IntKind.i64.wrap (IntKind.i32.wrap (YJ n m (l.drop i) - n)))*(IntKind.i64.wrap ((told:Int)+1)))))) (l.length:Int) 0 l out
 | 0,i,m,h=> by
  have:i=l.length:=by omega
  subst this
  rw [YVc,Yg,Yfu (YGu _),Yhu,YUu]; rfl
 | k+1,i,m,h=> by
  have hi:i < l.length:=by omega
  have hw:IntKind.i64.wrap ((i:Int)+1)=((i+1:Nat):Int):=by rw [w64 (by omega) (by omega)]; omega
  have hg:List.getD l (Int.toNat (i:Int)) (Ty.zero (.int .i32))=l[i]:=by
   rw [Ymu,Yvu,Ywu hi]; rfl
  rw [YVc,Yg,Yeu hi,Ygu,Yj,Yeu hi,Ygu,hg,hw,Yru hi,YJ]
  by_cases a:n<=l[i]
  ·rw [show decide (l[i]>=n)=true from Yeu a,Ygu]
   by_cases b:l[i] < m
   ·rw [Yeu b,Ygu,Yku ⟨a,b⟩,Y48 s told plain n bias delta l out hl k (i+1) _ (by omega)]
   ·rw [Yfu b,Yhu,Yju (fun h=> b h.2),Y48 s told plain n bias delta l out hl k (i+1) _ (by omega)]
  ·rw [show decide (l[i]>=n)=false from Yfu a,Yhu,Yju (fun h=> a h.1),Y48 s told plain n bias delta l out hl k (i+1) _ (by omega)]
theorem YU7 (s:List UInt8) (plain:Nat) (n:Int) (l:List Int) (hl:l.length<=65536) (hn:0<=n/\n<=1114112):∀ (k i:Nat) (x:EncS),i+k=l.length->Fine x->x.delta+k<=1099511627776->x.told+k<=200000->x.out.length+14*k<=100000000->
  Ze3 s (x.told:Int) (plain:Int) n x.bias x.delta (l.length:Int) (i:Int) l x.out=
   Zc3 s ((YN n plain (l.drop i) x).told:Int) (plain:Int) (IntKind.i32.wrap (n+1)) (YN n plain (l.drop i) x).bias (IntKind.i64.wrap ((YN n plain (l.drop i) x).delta+1)) l (YN n plain (l.drop i) x).out
 | 0,i,x,h,_,_,_,_=> by
  have:i=l.length:=by omega
  subst this
  rw [Y0d,Yg,Yfu (YGu _),Yhu,YUu]; rfl
 | k+1,i,x,h,hf,hd,ht,ho=> by
  have hi:i < l.length:=by omega
  have hw:IntKind.i64.wrap ((i:Int)+1)=((i+1:Nat):Int):=by rw [w64 (by omega) (by omega)]; omega
  have hg:List.getD l (Int.toNat (i:Int)) (Ty.zero (.int .i32))=l[i]:=by
   rw [Ymu,Yvu,Ywu hi]; rfl
  obtain ⟨hd0,hb⟩:=hf
  rw [Y0d,Yg,Yeu hi,Ygu,Yj,Yeu hi,Ygu,hg,Yru hi,YN]
  by_cases a:l[i] < n
  ·rw [Yeu a,Ygu,Yju (by omega),Yku a,w64 (x:=x.delta+1) (by omega) (by omega),Y3d,show (l[i]==n)=false from Yqu.2 (by omega),Yhu,hw]
   exact YU7 s plain n l hl hn k (i+1) ⟨x.told,x.bias,x.delta+1,x.out⟩ (by omega) ⟨by dsimp only; omega,hb⟩ (by dsimp only; omega) (by dsimp only; omega) (by dsimp only; omega)
  ·rw [Yfu a,Yhu,Y3d]
   by_cases b:l[i]=n
   ·have hlay:=YZ7 x.bias 14 x.delta 36
    have had:=Y34 x.delta ((x.told+1:Nat):Int) (((x.told:Nat):Int)==((plain:Nat):Int)) hd0 (by omega)
    have hw2:IntKind.i64.wrap ((x.told:Int)+1)=((x.told+1:Nat):Int):=by rw [w64 (by omega) (by omega)]; omega
    rw [show (l[i]==n)=true from Y7v.2 b,Ygu,Yku b,YBn _ _ _ hd0 (by omega) hb (by omega),Yiu,hw2,YBe _ _ _ hd0 (by omega) (by omega) (by omega),Yiu,hw]
    exact YU7 s plain n l hl hn k (i+1) ⟨x.told+1,Yh1 x.delta ((x.told+1:Nat):Int) (((x.told:Nat):Int)==((plain:Nat):Int)),0,x.out++Ya3 x.delta x.bias⟩ (by omega) ⟨Int.le_refl _,had⟩ (by dsimp only; omega) (by dsimp only; omega) (by dsimp only; rw [You]; unfold Ya3; omega)
   ·rw [show (l[i]==n)=false from Yqu.2 b,Yhu,Yju b,Yju a,hw]
    exact YU7 s plain n l hl hn k (i+1) x (by omega) ⟨hd0,hb⟩ (by omega) (by omega) (by omega)
def YO2 (out:List Int):List UInt8×Int:=if (Yn1 (Yn out)).2.1=32 then ([],32) else (Yn out,0)
theorem Ycs (s:List UInt8) (plain:Nat) (l:List Int) (hl:l.length<=65536) (hr:∀ r∈l,0<=r/\r < 1114112) (f:Nat):∀ (n:Int) (x:EncS),l.length<=x.told+f->x.told=l.countP (fun r=> decide (r < n))->Fine x->x.delta<=65537->x.out.length<=65537+14*x.told->0<=n->n<=1114112->
  Zc3 s (x.told:Int) (plain:Int) n x.bias x.delta l x.out=some (YO2 (YA2 l plain f n x)):=by
 have fin:∀ (n:Int) (x:EncS),l.length<=x.told->x.out.length<=65537+14*x.told->x.told<=65536->Zc3 s (x.told:Int) (plain:Int) n x.bias x.delta l x.out=some (YO2 x.out):=by
  intro n x h ho ht
  have hso:(Yn x.out).length=x.out.length:=by unfold Yn; rw [YVu]
  rw [YQc,Yg,Yfu (by omega),Yhu,YEe _ (by omega),Yiu]
  unfold YO2
  by_cases c:(Yn1 (Yn x.out)).2.1=32
  ·rw [show ((Yn1 (Yn x.out)).2.1==32)=true from Y7v.2 c,Ygu,Yku c,c]
  ·rw [show ((Yn1 (Yn x.out)).2.1==32)=false from Yqu.2 c,Yhu,Yju c]
 have cle:∀ n:Int,l.countP (fun r=> decide (r < n))<=l.length:=fun n=> List.countP_le_length
 induction f with
 | zero=>
  intro n x h1 h2 _ _ ho _ _
  have:=cle n
  exact fin n x (by omega) ho (by omega)
 | succ f ih=>
  intro n x h1 h2 hf hd ho hn0 hn1
  have hc:=cle n
  unfold YA2
  by_cases c:l.length<=x.told
  ·rw [Yku c]; exact fin n x c ho (by omega)
  ·rw [Yju c]
   obtain ⟨m1,m2,m3,m4,m5⟩:=YTa l n (fun r h=> (hr r h).2) (by omega)
   have hml:=Y48 s x.told plain n x.bias x.delta l x.out (by omega) l.length 0 1114112 (by omega)
   rw [YZu] at hml
   generalize YJ n 1114112 l=m at m1 m2 m3 m4 m5 hml ⊢
   have hp:=Ys4 (a:=m - n) (b:=((x.told+1:Nat):Int)) (A:=1114112) (B:=65537) (by omega) (by omega) (by omega) (by omega)
   have hdx:=hf.1
   have hw2:IntKind.i64.wrap ((x.told:Int)+1)=((x.told+1:Nat):Int):=by rw [w64 (by omega) (by omega)]; omega
   rw [YQc,Yg,Yeu (by omega),Ygu]
   rw [show ((0:Nat):Int)=0 from rfl] at hml
   rw [hml,w32 (by omega) (by omega),w64 (x:=m - n) (by omega) (by omega),hw2,w64 (x:=(m - n)*((x.told+1:Nat):Int)) (by omega) (by omega),w64 (x:=x.delta+(m - n)*((x.told+1:Nat):Int)) (by omega) (by omega)]
   have hin:=YU7 s plain m l hl ⟨by omega,by omega⟩ l.length 0 ⟨x.told,x.bias,x.delta+(m - n)*((x.told+1:Nat):Int),x.out⟩ (by omega) ⟨by dsimp only; omega,hf.2⟩ (by dsimp only; omega) (by dsimp only; omega) (by dsimp only; omega)
   rw [YZu,show ((0:Nat):Int)=0 from rfl] at hin
   obtain ⟨f1,f2,f3,f4⟩:=Y75 m plain l ⟨x.told,x.bias,x.delta+(m - n)*((x.told+1:Nat):Int),x.out⟩ ⟨by dsimp only; omega,hf.2⟩
   have f3:=f3 ⟨m,m3,rfl⟩
   have ft:=Y85 m plain l ⟨x.told,x.bias,x.delta+(m - n)*((x.told+1:Nat):Int),x.out⟩
   refine hin.trans ?_
   generalize YN m plain l ⟨x.told,x.bias,x.delta+(m - n)*((x.told+1:Nat):Int),x.out⟩=y at f1 f2 f3 f4 ft ⊢
   dsimp only at f4 ft
   have hd1:=f1.1
   have hcl:=cle (m+1)
   rw [w32 (by omega) (by omega),w64 (by omega) (by omega)]
   exact ih (m+1) ⟨y.told,y.bias,y.delta+1,y.out⟩ (by dsimp only; omega) (by dsimp only; omega) ⟨by dsimp only; omega,f1.2⟩ (by dsimp only; omega) (by dsimp only; omega) (by omega) (by omega)
theorem YIb (s:List UInt8) (l:List Int) (hl:l.length<=65536) (hr:∀ r∈l,0<=r/\r < 1114112):∀ (k i:Nat) (out:List Int),i+k=l.length->out.length<=i->
  Za3 s (l.length:Int) (i:Int) l out=Zb3 s ((out++Ys (l.drop i)).length:Int) ((out++Ys (l.drop i)).length:Int) l (if (out++Ys (l.drop i)).length=0 then out++Ys (l.drop i) else (out++Ys (l.drop i))++[45])
 | 0,i,out,h,ho=> by
  have:i=l.length:=by omega
  subst this
  rw [YKc,Yg,Yfu (YGu _),Yhu,YUu]
  rw [show out++Ys []=out from by simp [Ys]]
  by_cases c:out.length=0
  ·rw [show decide ((out.length:Int) > 0)=false from Yfu (by omega),Yhu,Yku c]
  ·rw [show decide ((out.length:Int) > 0)=true from Yeu (by omega),Ygu,Yju c,show decide (out.length+[(45:Int)].length<=lim)=true from Yeu (by simp [lim]; omega),Ygu]
 | k+1,i,out,h,ho=> by
  have hi:i < l.length:=by omega
  have hw:IntKind.i64.wrap ((i:Int)+1)=((i+1:Nat):Int):=by rw [w64 (by omega) (by omega)]; omega
  have hg:List.getD l (Int.toNat (i:Int)) (Ty.zero (.int .i32))=l[i]:=by
   rw [Ymu,Yvu,Ywu hi]; rfl
  have hx:=hr l[i] (List.getElem_mem hi)
  have hs:Ys (l.drop i)=if l[i] < 128 then l[i]::Ys (l.drop (i+1)) else Ys (l.drop (i+1)):=by
   unfold Ys
   rw [Yru hi,List.filter_cons]
   by_cases a:l[i] < 128
   ·rw [Yku (Yeu a),Yku a]
   ·rw [Yju (by simpa using a),Yju a]
  rw [YKc,Yg,Yeu hi,Ygu,Yj,Yeu hi,Ygu,hg,hw,hs]
  by_cases a:l[i] < 128
  ·rw [Yeu a,Ygu,Yku a,w8 hx.1 (by omega),show decide (out.length+[l[i]].length<=lim)=true from Yeu (by simp [lim]; omega),Ygu,YIb s l hl hr k (i+1) _ (by omega) (by simp; omega),Ypu]
   rfl
  ·rw [Yfu a,Yhu,Yju a,YIb s l hl hr k (i+1) _ (by omega) (by omega)]
def YS1 (l:List Int):List Int:=YA2 l (Ys l).length l.length 128 ⟨(Ys l).length,72,0,if (Ys l).length=0 then Ys l else Ys l++[45]⟩
def Yb1 (s:List UInt8):List UInt8×Int:=if (YM1 s).1=false then ([],21) else if 65536 < s.length then ([],5) else YO2 (YS1 (Yq s))
theorem YE2 {r:Int} (h:scal r=true):0<=r/\r < 1114112:=by
 have:=YQu h; omega
theorem Ym6 (s:List UInt8):∀ r∈Yq s,scal r=true:=by
 have:∀ (n k:Nat),∀ x∈pcs s n k,scal x.2.1=true:=by
  intro n
  induction n with
  | zero=> intro k x h; cases h
  | succ n ih=>
   intro k x h
   unfold pcs at h
   split at h
   ·rcases Yuu.1 h with rfl | h
    ·dsimp only; exact YEb s k
    ·exact ih _ x h
   ·cases h
 intro r hr
 obtain ⟨x,hx,rfl⟩:=List.mem_map.1 hr
 exact this _ _ x hx
theorem Yt5 (l:List Int):(Ys l).length=l.countP (fun r=> decide (r < 128)):=by
 unfold Ys; rw [List.countP_eq_length_filter]
theorem Ysn (s:List UInt8):YD9 s=some (Yb1 s):=by
 rw [Yrn,YIj,Yqf,Yiu]
 unfold Yb1
 cases hv:(YM1 s).1 with
 | false=> rw [YFu,Ygu,Yku rfl]
 | true=>
  rw [YEu,Yhu,Yju (by simp)]
  by_cases c:65536 < s.length
  ·rw [show decide ((s.length:Int) > 65536)=true from Yeu (by omega),Ygu,Yku c]
  ·rw [show decide ((s.length:Int) > 65536)=false from Yfu (by omega),Yhu,Yju c,show decide (s.length<=lim)=true from Yeu (by simp only [lim]; omega),Ygu,Y1i]
   have hl:=YP3 s
   have hr:∀ r∈Yq s,0<=r/\r < 1114112:=fun r h=> YE2 (Ym6 s r h)
   generalize Yq s=l at hl hr ⊢
   have h1:=YIb s l (by omega) hr l.length 0 [] (by omega) (by simp)
   rw [YZu,YIu,show ((0:Nat):Int)=0 from rfl] at h1
   have hsl:(Ys l).length<=l.length:=by rw [Yt5]; exact List.countP_le_length
   rw [h1,YUj]
   exact Ycs s (Ys l).length l (by omega) hr l.length 128 ⟨(Ys l).length,72,0,if (Ys l).length=0 then Ys l else Ys l++[45]⟩ (by dsimp only; omega) (Yt5 l) ⟨by dsimp only; omega,by dsimp only; omega⟩ (by dsimp only; omega) (by dsimp only; split; omega; rw [You]; simp only [Ynu,Ysu]; omega) (by omega) (by omega)
end Go.Abs
namespace Go.Abs
theorem Yy2 (b:UInt8):UInt8.ofNat (Y9 b).toNat=b:=by
 unfold Y9; rw [Ymu]; exact UInt8.ofNat_toNat
theorem YI1 {x:Int} (h0:0<=x) (h1:x<=255):Y9 (UInt8.ofNat x.toNat)=x:=by
 unfold Y9
 have e:(UInt8.ofNat x.toNat).toNat=x.toNat:=by rw [UInt8.toNat_ofNat']; omega
 rw [e]; omega
theorem Ys3 {a b:UInt8} (h:Y9 a=Y9 b):a=b:=by
 rw [<-Yy2 a,h,Yy2]
def rbs (r:Int):List UInt8:=Yn (Yu r)
theorem YBs (r:Int):(rbs r).length=(Yu r).length:=by unfold rbs Yn; rw [YVu]
theorem Ym8 (r:Int):1<=(rbs r).length/\(rbs r).length<=4:=by rw [YBs]; exact Y54 r
theorem Y3t (s:List UInt8) (k:Nat) (r:Int) (h:r < 128) (b0:bat s k=r):Yk s k=(r,(1,false)):=by
 unfold Yk
 rw [Yku (show ut1 s k=true from Yeu (by omega)),b0]
theorem YVa {s:List UInt8} {k:Nat} (h:128<=bat s k):¬ut1 s k=true:=fun e=> by
 have:=YQu e; omega
theorem Y4t (s:List UInt8) (k:Nat) (r:Int) (h0:128<=r) (h1:r < 2048) (hk:k+1 < s.length) (b0:bat s k=192+r / 64) (b1:bat s (k+1)=128+r % 64):Yk s k=(r,(2,false)):=by
 have hc:c2 s k=r:=by unfold c2; rw [b0,b1]; omega
 unfold Yk
 rw [Yju (YVa (by omega)),Yku (show ut2 s k=true from Yeu (by rw [hc,b0,b1]; omega)),hc]
theorem Y1h {s:List UInt8} {k:Nat} (h:224<=bat s k):¬ut2 s k=true:=fun e=> by
 have:=YQu e; omega
theorem YKr {s:List UInt8} {k:Nat} (h:240<=bat s k):¬ut3 s k=true:=fun e=> by
 unfold ut3 at e
 rw [Ylu] at e
 have:=YQu e.1; omega
theorem Y5t (s:List UInt8) (k:Nat) (r:Int) (hs:scal r=true) (h0:2048<=r) (h1:r < 65536) (hk:k+2 < s.length) (b0:bat s k=224+r / 4096) (b1:bat s (k+1)=128+r / 64 % 64) (b2:bat s (k+2)=128+r % 64):Yk s k=(r,(3,false)):=by
 have hc:c3 s k=r:=by unfold c3; rw [b0,b1,b2]; omega
 unfold Yk
 rw [Yju (YVa (by omega)),Yju (Y1h (by omega)),Yku (show ut3 s k=true from by unfold ut3; rw [hc,hs,Bool.and_true]; exact Yeu (by rw [b0,b1,b2]; omega)),hc]
theorem Y6t (s:List UInt8) (k:Nat) (r:Int) (hs:scal r=true) (h0:65536<=r) (h1:r < 1114112) (hk:k+3 < s.length) (b0:bat s k=240+r / 262144) (b1:bat s (k+1)=128+r / 4096 % 64) (b2:bat s (k+2)=128+r / 64 % 64) (b3:bat s (k+3)=128+r % 64):Yk s k=(r,(4,false)):=by
 have hc:c4 s k=r:=by unfold c4; rw [b0,b1,b2,b3]; omega
 unfold Yk
 rw [Yju (YVa (by omega)),Yju (Y1h (by omega)),Yju (YKr (by omega)),Yku (show ut4 s k=true from by unfold ut4; rw [hc,hs,Bool.and_true]; exact Yeu (by rw [b0,b1,b2,b3]; omega)),hc]
theorem rbs1 {r:Int} (a:r < 128):rbs r=[UInt8.ofNat r.toNat]:=by unfold rbs Yu; rw [Yku a]; rfl
theorem rbs2 {r:Int} (a:¬r < 128) (b:r < 2048):rbs r=[UInt8.ofNat (192+r / 64).toNat,UInt8.ofNat (128+r % 64).toNat]:=by unfold rbs Yu; rw [Yju a,Yku b]; rfl
theorem rbs3 {r:Int} (a:¬r < 128) (b:¬r < 2048) (c:r < 65536):rbs r=[UInt8.ofNat (224+r / 4096).toNat,UInt8.ofNat (128+r / 64 % 64).toNat,UInt8.ofNat (128+r % 64).toNat]:=by unfold rbs Yu; rw [Yju a,Yju b,Yku c]; rfl
theorem rbs4 {r:Int} (a:¬r < 128) (b:¬r < 2048) (c:¬r < 65536):rbs r=[UInt8.ofNat (240+r / 262144).toNat,UInt8.ofNat (128+r / 4096 % 64).toNat,UInt8.ofNat (128+r / 64 % 64).toNat,UInt8.ofNat (128+r % 64).toNat]:=by unfold rbs Yu; rw [Yju a,Yju b,Yju c]; rfl
theorem Y7t (r:Int) (h:scal r=true) (t:List UInt8):Yk (rbs r++t) 0=(r,((((rbs r).length:Nat):Int),false)):=by
 have hr:=YE2 h
 by_cases a:r < 128
 ·rw [rbs1 a]
  exact Y3t _ 0 r a (YI1 (by omega) (by omega))
 by_cases b:r < 2048
 ·rw [rbs2 a b]
  exact Y4t _ 0 r (by omega) b (by simp) (YI1 (by omega) (by omega)) (YI1 (by omega) (by omega))
 by_cases c:r < 65536
 ·rw [rbs3 a b c]
  exact Y5t _ 0 r h (by omega) c (by simp) (YI1 (by omega) (by omega)) (YI1 (by omega) (by omega)) (YI1 (by omega) (by omega))
 ·rw [rbs4 a b c]
  exact Y6t _ 0 r h (by omega) (by omega) (by simp) (YI1 (by omega) (by omega)) (YI1 (by omega) (by omega)) (YI1 (by omega) (by omega)) (YI1 (by omega) (by omega))
theorem YWh (s:List UInt8) (k:Nat) (r:Int) (h:scal r=true) (t:List UInt8) (hk:k<=s.length) (e:s.drop k=rbs r++t):Yk s k=(r,((((rbs r).length:Nat):Int),false)):=by
 rw [<-YVh s k hk,e]; exact Y7t r h t
theorem Y7q (s:List UInt8) (k:Nat) (hk:k < s.length) (h:(Yk s k).2.2=false):s.drop k=rbs (Yk s k).1++s.drop (k+wd s k):=by
 have hb0:=Yt s k
 have hb1:=Yt s (k+1)
 have hb2:=Yt s (k+2)
 have hb3:=Yt s (k+3)
 obtain ⟨d0,e0⟩:=Yx1 s k hk
 have f0:s[k]=UInt8.ofNat (bat s k).toNat:=by rw [<-e0,Yy2]
 unfold wd
 by_cases q1:ut1 s k=true
 ·have hr:Yk s k=(bat s k,(1,false)):=by unfold Yk; rw [Yku q1]
  have:=YQu q1
  rw [hr,rbs1 this,d0,f0]; rfl
 by_cases q2:ut2 s k=true
 ·have hr:Yk s k=(c2 s k,(2,false)):=by unfold Yk; rw [Yju q1,Yku q2]
  obtain ⟨g1,g2,g3,g4⟩:=YQu q2
  obtain ⟨d1,e1⟩:=Yx1 s (k+1) g1
  have f1:s[k+1]=UInt8.ofNat (bat s (k+1)).toNat:=by rw [<-e1,Yy2]
  have hc:c2 s k < 2048:=by unfold c2; omega
  have h1:192+c2 s k / 64=bat s k:=by unfold c2; omega
  have h2:128+c2 s k % 64=bat s (k+1):=by unfold c2; omega
  rw [hr,rbs2 (by omega) hc,h1,h2,d0,d1,f0,f1]; rfl
 by_cases q3:ut3 s k=true
 ·have hr:Yk s k=(c3 s k,(3,false)):=by unfold Yk; rw [Yju q1,Yju q2,Yku q3]
  unfold ut3 at q3
  rw [Ylu] at q3
  obtain ⟨g1,g2,g3,g4,g5⟩:=YQu q3.1
  obtain ⟨d1,e1⟩:=Yx1 s (k+1) (by omega)
  obtain ⟨d2,e2⟩:=Yx1 s (k+2) g1
  have f1:s[k+1]=UInt8.ofNat (bat s (k+1)).toNat:=by rw [<-e1,Yy2]
  have f2:s[k+2]=UInt8.ofNat (bat s (k+2)).toNat:=by rw [<-e2,Yy2]
  have hc:c3 s k < 65536:=by unfold c3; omega
  have h1:224+c3 s k / 4096=bat s k:=by unfold c3; omega
  have h2:128+c3 s k / 64 % 64=bat s (k+1):=by unfold c3; omega
  have h3:128+c3 s k % 64=bat s (k+2):=by unfold c3; omega
  rw [hr,rbs3 (by omega) (by omega) hc,h1,h2,h3,d0,d1,d2,f0,f1,f2]; rfl
 by_cases q4:ut4 s k=true
 ·have hr:Yk s k=(c4 s k,(4,false)):=by unfold Yk; rw [Yju q1,Yju q2,Yju q3,Yku q4]
  unfold ut4 at q4
  rw [Ylu] at q4
  obtain ⟨g1,g2,g3,g4,g5,g6⟩:=YQu q4.1
  obtain ⟨d1,e1⟩:=Yx1 s (k+1) (by omega)
  obtain ⟨d2,e2⟩:=Yx1 s (k+2) (by omega)
  obtain ⟨d3,e3⟩:=Yx1 s (k+3) g1
  have f1:s[k+1]=UInt8.ofNat (bat s (k+1)).toNat:=by rw [<-e1,Yy2]
  have f2:s[k+2]=UInt8.ofNat (bat s (k+2)).toNat:=by rw [<-e2,Yy2]
  have f3:s[k+3]=UInt8.ofNat (bat s (k+3)).toNat:=by rw [<-e3,Yy2]
  have h1:240+c4 s k / 262144=bat s k:=by unfold c4; omega
  have h2:128+c4 s k / 4096 % 64=bat s (k+1):=by unfold c4; omega
  have h3:128+c4 s k / 64 % 64=bat s (k+2):=by unfold c4; omega
  have h4:128+c4 s k % 64=bat s (k+3):=by unfold c4; omega
  rw [hr,rbs4 (by omega) (by omega) (by omega),h1,h2,h3,h4,d0,d1,d2,d3,f0,f1,f2,f3]; rfl
 ·exfalso
  have hr:Yk s k=(65533,(1,true)):=by unfold Yk; rw [Yju q1,Yju q2,Yju q3,Yju q4]
  rw [hr] at h; cases h
end Go.Abs
namespace Go.Abs
def pvs (s:List UInt8) (n k:Nat):List Int:=(pcs s n k).map (·.2.1)
theorem Yu1 (r:Int) (l:List Int):Yb (r::l)=rbs r++Yb l:=by
 unfold Yb rbs Yn YL1; rw [List.flatMap_cons,List.map_append]
theorem Y02:Yb []=[]:=rfl
theorem YS3:∀ a b:List Int,Yb (a++b)=Yb a++Yb b
 | [],b=> rfl
 | r::a,b=> by rw [List.cons_append,Yu1,Yu1,YS3 a b,Ypu]
theorem YSb:∀ l:List Int,(Yb l).length<=4*l.length
 | []=> by simp [Y02]
 | r::l=> by
  have:=YSb l
  have:=Ym8 r
  rw [Yu1,You,Ynu]; omega
theorem Yei:∀ l:List Int,l.length<=(Yb l).length
 | []=> by simp [Y02]
 | r::l=> by
  have:=Yei l
  have:=Ym8 r
  rw [Yu1,You,Ynu]; omega
def YP (l:List Int):Prop:=∀ r∈l,scal r=true
theorem Yv8 {r:Int} {l:List Int} (h:YP (r::l)):scal r=true/\YP l:=⟨h r (by simp),fun x hx=> h x (by simp [hx])⟩
theorem Yu8 (s:List UInt8):YP (Yq s):=Ym6 s
theorem Ysb:∀ (l:List Int) (s:List UInt8) (n k:Nat),YP l->s.length<=k+n->k<=s.length->s.drop k=Yb l->pvs s n k=l/\Y32 (pcs s n k)=none
 | [],s,n,k,hl,hn,hk,e=> by
  have:k=s.length:=by
   have:=congrArg List.length e
   rw [Yzu,Y02,Ysu] at this; omega
  subst this
  unfold pvs
  cases n with
  | zero=> exact ⟨rfl,rfl⟩
  | succ n=> rw [pcs,Yju (YGu _)]; exact ⟨rfl,rfl⟩
 | r::l,s,n,k,hl,hn,hk,e=> by
  obtain ⟨h1,h2⟩:=Yv8 hl
  have hb:=Ym8 r
  rw [Yu1] at e
  have hlen:=congrArg List.length e
  rw [Yzu,You] at hlen
  have hr:=YWh s k r h1 _ hk e
  have hw:wd s k=(rbs r).length:=by unfold wd; rw [hr]; simp
  have e2:s.drop (k+(rbs r).length)=Yb l:=by rw [<-List.drop_drop,e,List.drop_left]
  cases n with
  | zero=> omega
  | succ n=>
   obtain ⟨i1,i2⟩:=Ysb l s n (k+(rbs r).length) h2 (by omega) (by omega) e2
   unfold pvs at i1 ⊢
   rw [pcs,Yku (by omega),hw,hr,YBu,i1]
   exact ⟨rfl,i2⟩
theorem Yw8 (l:List Int) (h:YP l):Yq (Yb l)=l:=(Ysb l (Yb l) _ 0 h (by omega) (by omega) rfl).1
theorem Y2u (l:List Int) (h:YP l):(YM1 (Yb l)).1=true:=by
 unfold YM1 Y72
 rw [(Ysb l (Yb l) _ 0 h (by omega) (by omega) rfl).2]
theorem Ygi (s:List UInt8):∀ (n k:Nat),s.length<=k+n->k<=s.length->Y32 (pcs s n k)=none->Yb (pvs s n k)=s.drop k
 | 0,k,hn,hk,h=> by
  rw [YPu (by omega)]; rfl
 | n+1,k,hn,hk,h=> by
  rw [pcs] at h
  unfold pvs
  rw [pcs]
  by_cases c:k < s.length
  ·obtain ⟨w1,w2,w3,_⟩:=Y92 s k c
   have e1:s.length<=k+wd s k+n:=by clear h; omega
   rw [Yku c] at h ⊢
   have key:∀ (x:Nat×(Int×(Int×Bool))) (l:List (Nat×(Int×(Int×Bool)))),Y32 (x::l)=none->x.2.2.2=false/\Y32 l=none:=by
    intro x l hx
    rw [Y32] at hx
    cases hb:x.2.2.2 with
    | false=> rw [hb] at hx; exact ⟨rfl,hx⟩
    | true=> rw [hb] at hx; cases hx
   obtain ⟨h2,h⟩:=key _ _ h
   dsimp only at h2
   have ih:=Ygi s n (k+wd s k) e1 w3 h
   have hd:=Y7q s k c h2
   unfold pvs at ih
   rw [YBu]
   dsimp only
   generalize hA:s.drop (k+wd s k)=A at hd ih
   generalize (Yk s k).1=r at hd ⊢
   rw [hd,Yu1,ih]
  ·rw [Yju c,YPu (by omega)]; rfl
theorem Yfi (s:List UInt8) (h:(YM1 s).1=true):Yb (Yq s)=s:=by
 have:Y32 (pcs s s.length 0)=none:=by
  unfold YM1 Y72 at h
  cases hf:Y32 (pcs s s.length 0) with
  | none=> rfl
  | some k=> rw [hf] at h; cases h
 exact Ygi s s.length 0 (by omega) (by omega) this
theorem Y1u (r:Int) (h:scal r=true):Utf8.valid r=true:=by
 have h:=YQu h
 unfold Utf8.valid
 simp only [Bool.or_eq_true,Ylu,Yxu]; omega
theorem ofN {x:Int} {n:Nat} (h:x=(n:Int)):UInt8.ofNat x.toNat=UInt8.ofNat n:=by rw [h,Ymu]
theorem YWf (r:Int) (h:scal r=true):Yy1 r=rbs r:=by
 have hr:=YE2 h
 have hv:=Y1u r h
 unfold Yy1 Utf8.encode
 rw [Yku hv]
 by_cases a:r.toNat < 128
 ·rw [rbs1 (by omega),Yku a]
 ·rw [Yju a]
  by_cases b:r.toNat < 2048
  ·rw [rbs2 (by omega) (by omega),Yku b,ofN (n:=192+r.toNat / 64) (by omega),ofN (n:=128+r.toNat % 64) (by omega)]
  ·rw [Yju b]
   by_cases c:r.toNat < 65536
   ·rw [rbs3 (by omega) (by omega) (by omega),Yku c,ofN (n:=224+r.toNat / 4096) (by omega),ofN (n:=128+r.toNat / 64 % 64) (by omega),ofN (n:=128+r.toNat % 64) (by omega)]
   ·rw [Yju c,rbs4 (by omega) (by omega) (by omega),ofN (n:=240+r.toNat / 262144) (by omega),ofN (n:=128+r.toNat / 4096 % 64) (by omega),ofN (n:=128+r.toNat / 64 % 64) (by omega),ofN (n:=128+r.toNat % 64) (by omega)]
theorem YB8:∀ l:List Int,YP l->YT2 l=Yb l
 | [],_=> rfl
 | r::l,h=> by
  obtain ⟨h1,h2⟩:=Yv8 h
  rw [Yu1,<-YB8 l h2,<-YWf r h1]; rfl
theorem Yur:(List.range 26).all (fun n=> decide (bits Go.BinOp.xor IntKind.u8 ((n:Int)+65) 32=(n:Int)+97))=true:=by kernel_rfl
theorem Yv2 (x:Int):lowI x=if 65<=x/\x<=90 then x+32 else x:=by
 unfold lowI
 by_cases h:65<=x/\x<=90
 ·rw [Yku h,Yku h]
  have:=YQu (Y3v.1 Yur (x - 65).toNat (List.mem_range.2 (by omega)))
  rw [show (((x - 65).toNat:Nat):Int)+65=x from by omega] at this
  rw [this]; omega
 ·rw [Yju h,Yju h]
theorem YWg {x:Int} (h:128<=x):lowI x=x:=by rw [Yv2,Yju (by omega)]
theorem Ywr {x:Int} (h:scal x=true):scal (lowI x)=true:=by
 have h:=YQu h
 rw [Yv2]; split <;> exact Yeu (by omega)
theorem Yvr {x:Int} (h:0<=x/\x<=255):0<=lowI x/\lowI x<=255:=by rw [Yv2]; split <;> omega
theorem Yf9 (b:UInt8):Y9 (lowB b)=lowI (Y9 b):=by
 have:=Yvr (YK2 b)
 exact YI1 this.1 this.2
def lowS (s:List UInt8):List UInt8:=s.map lowB
theorem Y08 (s:List UInt8):(lowS s).length=s.length:=YVu ..
theorem Yxr (a b:List UInt8):lowS (a++b)=lowS a++lowS b:=List.map_append
theorem Yc3 {x:Int} (h0:128<=x) (h1:x<=255):lowB (UInt8.ofNat x.toNat)=UInt8.ofNat x.toNat:=
 Ys3 (by rw [Yf9,YI1 (by omega) h1,YWg h0])
theorem YAr (r:Int) (h:scal r=true):lowS (rbs r)=rbs (lowI r):=by
 have hr:=YE2 h
 by_cases a:r < 128
 ·have:lowI r < 128:=by rw [Yv2]; split <;> omega
  have h2:0<=lowI r:=by rw [Yv2]; split <;> omega
  rw [rbs1 a,rbs1 this]
  unfold lowS
  rw [YBu,List.map_nil]
  congr 1
  exact Ys3 (by rw [Yf9,YI1 hr.1 (by omega),YI1 h2 (by omega)])
 ·rw [YWg (by omega)]
  by_cases b:r < 2048
  ·rw [rbs2 a b]; unfold lowS
   rw [YBu,YBu,List.map_nil,Yc3 (by omega) (by omega),Yc3 (by omega) (by omega)]
  by_cases c:r < 65536
  ·rw [rbs3 a b c]; unfold lowS
   rw [YBu,YBu,YBu,List.map_nil,Yc3 (by omega) (by omega),Yc3 (by omega) (by omega),Yc3 (by omega) (by omega)]
  ·rw [rbs4 a b c]; unfold lowS
   rw [YBu,YBu,YBu,YBu,List.map_nil,Yc3 (by omega) (by omega),Yc3 (by omega) (by omega),Yc3 (by omega) (by omega),Yc3 (by omega) (by omega)]
theorem YRa:∀ l:List Int,YP l->lowS (Yb l)=Yb (l.map lowI)
 | [],_=> rfl
 | r::l,h=> by
  obtain ⟨h1,h2⟩:=Yv8 h
  rw [Yu1,Yxr,YAr r h1,YRa l h2,YBu,Yu1]
theorem YXg {l:List Int} (h:YP l):YP (l.map lowI):=by
 intro x hx
 obtain ⟨y,hy,rfl⟩:=List.mem_map.1 hx
 exact Ywr (h y hy)
theorem YL6 {s:List UInt8} (h:Yd1 s=true):∀ b∈s,Y9 b < 128:=by
 intro b hb
 unfold Yd1 at h
 rw [YXu,List.any_eq_false] at h
 have:=h b hb
 simp only [Yxu] at this; omega
theorem Yd9:∀ s:List UInt8,(∀ b∈s,Y9 b < 128)->Yb (s.map Y9)=s
 | [],_=> rfl
 | b::s,h=> by
  rw [YBu,Yu1,rbs1 (h b (by simp)),Yy2,Yd9 s (fun x hx=> h x (by simp [hx]))]; rfl
theorem Yc9 {s:List UInt8} (h:∀ b∈s,Y9 b < 128):YP (s.map Y9):=by
 intro x hx
 obtain ⟨b,hb,rfl⟩:=List.mem_map.1 hx
 have:=YK2 b
 have:=h b hb
 exact Yeu (by omega)
theorem Yr5 (s:List UInt8) (h:∀ b∈s,Y9 b < 128):Yq s=s.map Y9:=by
 have:=Yw8 (s.map Y9) (Yc9 h)
 rwa [Yd9 s h] at this
theorem Yqi (s:List UInt8) (h:∀ b∈s,Y9 b < 128):(YM1 s).1=true:=by
 have:=Y2u (s.map Y9) (Yc9 h)
 rwa [Yd9 s h] at this
end Go.Abs
namespace Go.Abs
def okI (c:Int):Prop:=0<=c/\c < 128/\c≠46/\¬(65<=c/\c<=90)
instance (c:Int):Decidable (okI c):=by unfold okI; infer_instance
theorem Y5m:(List.range 36).all (fun n=> decide (okI (azv (n:Int))))=true:=by kernel_rfl
theorem Y4e (n:Int):okI (azv n):=by
 by_cases c:n.toNat < 36
 ·have:=YQu (Y3v.1 Y5m n.toNat (List.mem_range.2 c))
  unfold azv at this ⊢
  rwa [Ymu] at this
 ·unfold azv
  rw [Yvu,List.getElem?_eq_none (by simp [az36]; omega)]
  decide
theorem YMg (bias:Int):∀ (f:Nat) (q k:Int),∀ c∈layV bias f q k,okI c
 | 0,_,_,c,h=> by cases h
 | f+1,q,k,c,h=> by
  unfold layV at h
  split at h
  ·rw [YNu.1 h]; exact Y4e _
  ·rcases Yuu.1 h with rfl | h
   ·exact Y4e _
   ·exact YMg bias f _ _ c h
theorem YT7 (n:Int) (plain:Nat):∀ (l:List Int) (x:EncS),(∀ c∈x.out,okI c)->∀ c∈(YN n plain l x).out,okI c
 | [],x,h=> h
 | r::l,x,h=> by
  unfold YN
  split
  ·refine YT7 n plain l _ fun c hc=> ?_
   rcases YAu.1 hc with hc | hc
   ·exact h c hc
   ·exact YMg _ _ _ _ c hc
  ·split
   ·exact YT7 n plain l _ h
   ·exact YT7 n plain l _ h
theorem Yah (l:List Int) (plain:Nat):∀ (f:Nat) (n:Int) (x:EncS),(∀ c∈x.out,okI c)->∀ c∈YA2 l plain f n x,okI c
 | 0,_,x,h=> h
 | f+1,n,x,h=> by
  unfold YA2
  split
  ·exact h
  ·exact Yah l plain f _ _ (YT7 _ _ _ _ h)
theorem Ybq (l:List Int) (h:∀ r∈l,r < 128->okI r):∀ c∈YS1 l,okI c:=by
 have hs:∀ c∈Ys l,okI c:=by
  intro c hc
  obtain ⟨h1,h2⟩:=List.mem_filter.1 hc
  exact h c h1 (YQu h2)
 unfold YS1
 apply Yah
 intro c hc
 dsimp only at hc
 split at hc
 ·exact hs c hc
 ·rcases YAu.1 hc with hc | hc
  ·exact hs c hc
  ·rw [YNu.1 hc]; decide
theorem Ybs (plain:Nat) (l:List Int) (hl:l.length<=65536) (hr:∀ r∈l,0<=r/\r < 1114112) (f:Nat):∀ (n:Int) (x:EncS),x.told=l.countP (fun r=> decide (r < n))->Fine x->x.out.length<=65537+14*x.told->0<=n->n<=1114112->
  (YA2 l plain f n x).length<=65537+14*l.length:=by
 have cle:∀ n:Int,l.countP (fun r=> decide (r < n))<=l.length:=fun n=> List.countP_le_length
 induction f with
 | zero=>
  intro n x h2 _ ho _ _
  have:=cle n
  show x.out.length<=_
  omega
 | succ f ih=>
  intro n x h2 hf ho hn0 hn1
  have hc:=cle n
  unfold YA2
  by_cases c:l.length<=x.told
  ·rw [Yku c]; omega
  ·rw [Yju c]
   obtain ⟨m1,m2,m3,m4,m5⟩:=YTa l n (fun r h=> (hr r h).2) (by omega)
   generalize YJ n 1114112 l=m at m1 m2 m3 m4 m5 ⊢
   have hp:=Ys4 (a:=m - n) (b:=((x.told+1:Nat):Int)) (A:=1114112) (B:=65537) (by omega) (by omega) (by omega) (by omega)
   have hdx:=hf.1
   obtain ⟨f1,f2,f3,f4⟩:=Y75 m plain l ⟨x.told,x.bias,x.delta+(m - n)*((x.told+1:Nat):Int),x.out⟩ ⟨by dsimp only; omega,hf.2⟩
   have ft:=Y85 m plain l ⟨x.told,x.bias,x.delta+(m - n)*((x.told+1:Nat):Int),x.out⟩
   generalize YN m plain l ⟨x.told,x.bias,x.delta+(m - n)*((x.told+1:Nat):Int),x.out⟩=y at f1 f2 f3 f4 ft ⊢
   dsimp only at f4 ft
   have hd1:=f1.1
   exact ih (m+1) ⟨y.told,y.bias,y.delta+1,y.out⟩ (by dsimp only; omega) ⟨by dsimp only; omega,f1.2⟩ (by dsimp only; omega) (by omega) (by omega)
theorem YVf (l:List Int) (hl:l.length<=65536) (hr:∀ r∈l,0<=r/\r < 1114112):(YS1 l).length<=1048576:=by
 have hsl:(Ys l).length<=l.length:=by rw [Yt5]; exact List.countP_le_length
 have:=Ybs (Ys l).length l hl hr l.length 128 ⟨(Ys l).length,72,0,if (Ys l).length=0 then Ys l else Ys l++[45]⟩ (Yt5 l) ⟨by dsimp only; omega,by dsimp only; omega⟩ (by dsimp only; split; omega; rw [You]; simp only [Ynu,Ysu]; omega) (by omega) (by omega)
 unfold YS1; omega
theorem Yaq (out:List Int):((YO2 out).2≠0/\(YO2 out).1=[])\/YO2 out=(Yn out,0):=by
 unfold YO2; split
 ·exact .inl ⟨by simp,rfl⟩
 ·exact .inr rfl
theorem Yz6 (s:List UInt8):((Yb1 s).2≠0/\(Yb1 s).1=[])\/(Yb1 s=(Yn (YS1 (Yq s)),0)/\(YM1 s).1=true/\s.length<=65536):=by
 unfold Yb1
 split
 ·exact .inl ⟨by simp,rfl⟩
 ·rename_i hv
  split
  ·exact .inl ⟨by simp,rfl⟩
  ·rename_i hl
   rcases Yaq (YS1 (Yq s)) with h | h
   ·exact .inl h
   ·exact .inr ⟨h,by simpa using hv,by omega⟩
theorem YGt {l:List Int} (h:∀ c∈l,okI c):∀ b∈Yn l,okI (Y9 b):=by
 intro b hb
 unfold Yn at hb
 obtain ⟨c,hc,rfl⟩:=List.mem_map.1 hb
 have:=h c hc
 rw [YI1 this.1 (by have:=this.2.1; omega)]; exact this
theorem YJi (s:List UInt8) (h:∀ r∈Yq s,r < 128->okI r):∀ b∈(Yb1 s).1,okI (Y9 b):=by
 rcases Yz6 s with ⟨_,e⟩ | ⟨e,_⟩
 ·rw [e]; intro b hb; cases hb
 ·rw [e]; exact YGt (Ybq _ h)
theorem YO8 (s:List UInt8):(Yb1 s).1.length<=1048576:=by
 rcases Yz6 s with ⟨_,e⟩ | ⟨e,_,hl⟩
 ·rw [e]; simp
 ·rw [e]
  have h1:=YP3 s
  have:=YVf (Yq s) (by omega) (fun r h=> YE2 (Ym6 s r h))
  simp only [Yn,YVu]; exact this
def xn:List UInt8:=[120,110,45,45]
def Yr (s:List UInt8):List UInt8×Int:=if (Yb1 s).2≠0 then ([],(Yb1 s).2) else if Yd1 s=true then (s,0) else (xn++(Yb1 s).1,0)
theorem bne0 {x:Int}:(x !=0)=decide (x≠0):=by
 by_cases h:x=0
 ·rw [h]; rfl
 ·rw [Yeu h]; exact bne_iff_ne.2 h
theorem YAe (s:List UInt8):Y17 s=some (Yr s):=by
 have hl:=YO8 s
 rw [Ytn,YCk,Ysn,Yiu,bne0]
 unfold Yr
 by_cases a:(Yb1 s).2≠0
 ·rw [Yeu a,Ygu,Yku a]
 ·rw [Yfu a,Yhu,Yju a,YDe,Yiu]
  cases Yd1 s with
  | true=> rw [Ygu,Yku rfl]
  | false=>
   rw [Yhu,Yju (by simp),show decide (([120,110,45,45]:List UInt8).length+(Yb1 s).1.length<=2 ^ 62)=true from Yeu (by simp only [Ynu,Ysu]; omega),Ygu]; rfl
theorem YA6 (s:List UInt8):(Yr s).1.length<=1048580:=by
 have hl:=YO8 s
 unfold Yr
 split
 ·simp
 ·rename_i h
  split
  ·rcases Yz6 s with ⟨h1,_⟩ | ⟨_,_,h2⟩
   ·exact absurd h1 h
   ·dsimp only; omega
  ·simp only [xn,You,Ynu,Ysu]; omega
theorem YXp (P:Int->Prop) (hP:∀ r,128<=r->P r) (s:List UInt8) (hsl:s.length<=1073741824) (plain:Nat) (f:Nat):∀ (at':Nat) (i n bias:Int) (l:List Int),at'<=s.length->0<=i->i<=2147483647->128<=n->n<=1114111->0<=bias/\bias<=4096->l.length<=at'->YP l->(∀ r∈l,P r)->
  ((decV s plain f at' i n bias l).2.1≠0/\(decV s plain f at' i n bias l).1=[])\/((decV s plain f at' i n bias l).2.1=0/\∃ l',(decV s plain f at' i n bias l).1=Yb l'/\YP l'/\(∀ r∈l',P r)/\l'.length<=s.length):=by
 induction f with
 | zero=>
  intro at' i n bias l hat _ _ _ _ _ hl hs hp
  exact .inr ⟨rfl,l,YB8 l hs,hs,hp,by omega⟩
 | succ f ih=>
  intro at' i n bias l hat hi0 hi1 hn0 hn1 hb hl hs hp
  unfold decV
  by_cases c:s.length<=at'
  ·rw [Yku c]; exact .inr ⟨rfl,l,YB8 l hs,hs,hp,by omega⟩
  ·rw [Yju c]
   have hfacts:=YXa s bias at' (s.length - at') at' i 1 36 hi0 (by omega) (by omega)
   generalize numV s bias at' (s.length - at') at' i 1 36=y at hfacts ⊢
   by_cases e:y.2.2.1=0
   ·obtain ⟨h1,h2,m,h3,h4,h5⟩:=hfacts e
    have q0:0<=y.1 / ((l.length+1:Nat):Int):=Int.ediv_nonneg (by omega) (by omega)
    have r0:0<=y.1 % ((l.length+1:Nat):Int):=Int.emod_nonneg _ (by omega)
    have r1:y.1 % ((l.length+1:Nat):Int) < ((l.length+1:Nat):Int):=Int.emod_lt_of_pos _ (by omega)
    have hb':=Y34 (y.1 - i) ((l.length+1:Nat):Int) (((l.length:Nat):Int)==((plain:Nat):Int)) (by omega) (by omega)
    rw [Yju (fun h=> h e)]
    by_cases g:1114111 < n+y.1 / ((l.length+1:Nat):Int)\/(55296<=n+y.1 / ((l.length+1:Nat):Int)/\n+y.1 / ((l.length+1:Nat):Int)<=57343)
    ·rw [Yku g]; exact .inl ⟨by simp,rfl⟩
    ·rw [Yju g,h3,Ymu]
     generalize y.1 / ((l.length+1:Nat):Int)=Q at q0 g ⊢
     generalize y.1 % ((l.length+1:Nat):Int)=M at r0 r1 ⊢
     generalize Yh1 (y.1 - i) ((l.length+1:Nat):Int) (((l.length:Nat):Int)==((plain:Nat):Int))=B at hb' ⊢
     have mem:∀ r∈ins l M.toNat (n+Q),r∈l\/r=n+Q:=by
      intro r hr
      unfold ins at hr
      rcases YAu.1 hr with hr | hr
      ·rcases YAu.1 hr with hr | hr
       ·exact .inl (List.mem_of_mem_take hr)
       ·exact .inr (YNu.1 hr)
      ·exact .inl (List.mem_of_mem_drop hr)
     refine ih m (M+1) (n+Q) B _ h5 (by omega) (by omega) (by omega) (by omega) hb' ?_ ?_ ?_
     ·rw [YKa _ _ _ (by omega)]; omega
     ·intro r hr
      rcases mem r hr with hr | rfl
      ·exact hs r hr
      ·exact Yeu (by omega)
     ·intro r hr
      rcases mem r hr with hr | rfl
      ·exact hp r hr
      ·exact hP _ (by omega)
   ·rw [Yku e]; exact .inl ⟨e,rfl⟩
end Go.Abs
namespace Go.Abs
theorem Yig (s:List UInt8):∀ (n k:Nat),YT1 s n k=none->∀ j,k<=j->j < k+n->bat s j<=127
 | 0,k,_,j,h1,h2=> by omega
 | n+1,k,h,j,h1,h2=> by
  unfold YT1 at h
  split at h
  ·cases h
  ·by_cases e:j=k
   ·subst e; omega
   ·exact Yig s n (k+1) h j (by omega) (by omega)
theorem YOq (s:List UInt8) (h:YT1 s s.length 0=none):∀ b∈s,Y9 b < 128:=by
 intro b hb
 obtain ⟨j,hj,rfl⟩:=List.mem_iff_getElem.1 hb
 have:=Yig s s.length 0 h j (by omega) (by omega)
 have:=(Yx1 s j hj).2
 omega
theorem YZp (P:Int->Prop) (hP:∀ r,128<=r->P r) (s:List UInt8) (hsl:s.length<=1073741824) (hp:∀ b∈s,P (Y9 b)):
  ((Yn1 s).2.1≠0/\(Yn1 s).1=[])\/((Yn1 s).2.1=0/\∃ l,(Yn1 s).1=Yb l/\YP l/\(∀ r∈l,P r)/\l.length<=s.length):=by
 unfold Yn1
 cases hh:YT1 s s.length 0 with
 | some k=> exact .inl ⟨by simp,rfl⟩
 | none=>
  have hb:=YOq s hh
  have hl:=YY7 s s.length
  have hb2:∀ b∈s.take (Yp s s.length).toNat,Y9 b < 128:=fun b h=> hb b (List.mem_of_mem_take h)
  have e:=Yr5 _ hb2
  dsimp only
  refine YXp P hP s hsl _ s.length (Yp s s.length+1).toNat 0 128 72 _ (by omega) (by omega) (by omega) (by omega) (by omega) (by omega) ?_ ?_ ?_
  ·rw [e,YVu,Yyu]; omega
  ·exact Yu8 _
  ·rw [e]
   intro r hr
   obtain ⟨b,h1,rfl⟩:=List.mem_map.1 hr
   exact hp b (List.mem_of_mem_take h1)
theorem YAi (P:Int->Prop) (hP:∀ r,128<=r->P r) (s:List UInt8) (hp:∀ b∈s,P (Y9 b)):
  ((YT s).2.1≠0/\(YT s).1=[])\/((YT s).2.1=0/\s.length<=65536/\∃ l,(YT s).1=Yb l/\YP l/\(∀ r∈l,P r)/\l.length<=s.length):=by
 unfold YT
 split
 ·exact .inl ⟨by simp,rfl⟩
 ·rcases YZp P hP s (by omega) hp with h | ⟨h1,h2⟩
  ·exact .inl h
  ·exact .inr ⟨h1,by omega,h2⟩
theorem Y8c (s:List UInt8):(YT s).1.length<=262144/\(YT s).1.length<=4*s.length:=by
 rcases YAi (fun _=> True) (fun _ _=> trivial) s (fun _ _=> trivial) with ⟨_,h⟩ | ⟨_,h0,l,h1,_,_,h2⟩
 ·rw [h]; simp
 ·rw [h1]
  have:=YSb l
  omega
def YK (s:List UInt8):List UInt8×Int:=
 if s.length < 4 then (s,0) else if lowS (s.take 4)≠xn then (s,0)
 else if (YT (s.drop 4)).2.1≠0 then ([],(YT (s.drop 4)).2.1)
 else if (Yr (YT (s.drop 4)).1).2≠0 then ([],31)
 else if Yd1 (YT (s.drop 4)).1=true then ([],31)
 else if lowS (Yr (YT (s.drop 4)).1).1≠lowS s then ([],31)
 else ((YT (s.drop 4)).1,0)
theorem Y7n (a b:List UInt8) (ha:a.length<=1073741824) (hb:b.length<=1073741824):Yy9 (a,b)=some (lowS a==lowS b):=by
 rw [Y6n,Ygl]
 simp only
 rw [YK4 a ha,Yiu,YK4 b hb,Yiu]; rfl
theorem Yvn (s:List UInt8) (hs:s.length<=1073741824):YB5 s=some (YK s):=by
 rw [Yun,Ynj]
 unfold YK
 by_cases a:s.length < 4
 ·rw [show decide ((s.length:Int) < 4)=true from Yeu (by omega),Ygu,Yku a]
 ·rw [show decide ((s.length:Int) < 4)=false from Yfu (by omega),Yhu,Yju a,show Yi none (some (4:Int)) s.length=true from by simp [Yi]; omega,Ygu,
   show Ym none (some (4:Int)) s=s.take 4 from rfl,YK4 _ (by rw [Yyu]; omega),Yiu,show (List.map lowB (List.take 4 s))=lowS (s.take 4) from rfl]
  by_cases b:lowS (s.take 4)=xn
  ·rw [show (!(lowS (s.take 4)==([120,110,45,45]:List UInt8)))=false from by rw [b]; rfl,Yhu,Yju (fun h=> h b),show Yi (some (4:Int)) none s.length=true from Yi1 (f:=4) (by omega),Ygu,
    show Ym (some (4:Int)) none s=s.drop 4 from rfl,Yqn _ (by rw [Yzu]; omega),Yiu,bne0]
   by_cases c:(YT (s.drop 4)).2.1≠0
   ·rw [Yeu c,Ygu,Yku c]
   ·rw [Yfu c,Yhu,Yju c,YAe,Yiu,bne0]
    by_cases d:(Yr (YT (s.drop 4)).1).2≠0
    ·rw [Yeu d,Ygu,Yku d]
    ·have:=YA6 (YT (s.drop 4)).1
     rw [Yfu d,Yhu,Yju d,YDe,Yiu]
     cases Yd1 (YT (s.drop 4)).1 with
     | true=> rw [Ygu,Yku rfl]
     | false=>
      rw [Yhu,Yju (by simp),Y7n _ _ (by omega) hs,Yiu]
      by_cases e:lowS (Yr (YT (s.drop 4)).1).1=lowS s
      ·rw [e,Yju (fun h=> h rfl),show (!(lowS s==lowS s))=false from by simp,Yhu]
      ·rw [Yku e,show (!(lowS (Yr (YT (s.drop 4)).1).1==lowS s))=true from by simp [e],Ygu]
  ·rw [show (!(lowS (s.take 4)==([120,110,45,45]:List UInt8)))=true from by simp only [YXu,Yqu]; exact b,Ygu,Yku b]
theorem YPi (s:List UInt8):(YK s).1.length<=4*s.length:=by
 have:=Y8c (s.drop 4)
 rw [Yzu] at this
 unfold YK
 repeat' split
 all_goals simp only [Ysu]
 all_goals omega
def isXn (s:List UInt8):Bool:=decide (4<=s.length)&&(s.take 4==xn)
def YB1 (t:List UInt8) (last:Bool):List UInt8×Int:=
 if 63 < t.length then ([],53) else if t=[]/\last=false then ([],53)
 else if isXn t=true then (if (YK t).2≠0 then ([],53) else if has (YK t).1 65533=true then ([],53) else if YX4 (YK t).1=true then ([],53) else (t,0))
 else (t,0)
def YG (s:List UInt8) (last:Bool):List UInt8×Int:=
 if Yd1 (lowS s)=false/\has (lowS s) 65533=false then (if (Yr (lowS s)).2≠0 then ([],53) else YB1 (Yr (lowS s)).1 last)
 else if has (lowS s) 65533=true then ([],53) else YB1 (lowS s) last
theorem Yer (t:List UInt8) (ht:t.length<=1073741824):((YO4 (t,([(120:UInt8),(110:UInt8),(45:UInt8),(45:UInt8)]:List UInt8))).bind fun y0=>
      bif y0 then
       (YB5 t).bind fun y1=>
        bif (y1.2 !=(0:Int)) then
         some (([]:List UInt8),(53:Int))
        else
         (YJ4 (y1.1,(65533:Int))).bind fun y2=>
          bif y2 then
           some (([]:List UInt8),(53:Int))
          else
           (YQ5 (y1.1,())).bind fun y3=>
            bif (decide (y3>=(0:Int))) then
             some (([]:List UInt8),(53:Int))
            else
             some (t,(0:Int))
      else
       some (t,(0:Int)))=some (if isXn t=true then (if (YK t).2≠0 then ([],53) else if has (YK t).1 65533=true then ([],53) else if YX4 (YK t).1=true then ([],53) else (t,0))
 else (t,0)):=by
 rw [Ybf t _ ht (by simp),Yiu,show (decide (([(120:UInt8),(110:UInt8),(45:UInt8),(45:UInt8)]:List UInt8).length<=t.length)&&(t.take ([(120:UInt8),(110:UInt8),(45:UInt8),(45:UInt8)]:List UInt8).length==[(120:UInt8),(110:UInt8),(45:UInt8),(45:UInt8)]))=isXn t from rfl]
 cases isXn t with
 | false=> rfl
 | true=>
  rw [Ygu,Yku rfl,Yvn t ht,Yiu,bne0]
  by_cases c:(YK t).2≠0
  ·rw [Yeu c,Ygu,Yku c]
  ·rw [Yfu c,Yhu,Yju c,Yke,Yiu]
   cases has (YK t).1 65533 with
   | true=> rw [Ygu,Yku rfl]
   | false=>
    obtain ⟨y,h1,h2⟩:=Yqm (YK t).1
    rw [Yhu,Yju (by simp),h1,Yiu,h2]
    cases YX4 (YK t).1 with
    | true=> rw [Ygu,Yku rfl]
    | false=> rw [Yhu,Yju (by simp)]
theorem YGg (t:List UInt8) (last:Bool) (ht:t.length<=1073741824):Z42 t last false=some (YB1 t last):=by
 rw [YX8,Yhu]
 unfold YB1
 by_cases a:63 < t.length
 ·rw [show decide ((t.length:Int) > 63)=true from Yeu (by omega),Ygu,Yku a]
 ·rw [show decide ((t.length:Int) > 63)=false from Yfu (by omega),Yhu,Yju a,Yer t ht]
  cases t with
  | nil=>
   rw [show (([]:List UInt8)==[])=true from rfl,Ygu]
   cases last with
   | false=> rw [YFu,Ygu,Yku ⟨rfl,rfl⟩]
   | true=> rw [YEu,Yhu,Yju (show ¬(([]:List UInt8)=[]/\true=false) from fun h=> by cases h.2)]
  | cons b t=> rw [show ((b::t)==[])=false from rfl,Yhu,Yju (show ¬(b::t=[]/\last=false) from fun h=> by cases h.1)]
theorem YQm (s:List UInt8) (last:Bool) (hs:s.length<=1073741824):Yz5 (s,last)=some (YG s last):=by
 have h1:=Y08 s
 have h2:=YA6 (lowS s)
 rw [YPm,Yaj]
 simp only
 rw [YK4 s hs,Yiu,show List.map lowB s=lowS s from rfl,Yke,Yiu,YJm,Yiu,YAe,Yiu,bne0]
 unfold YG
 cases Yd1 (lowS s) with
 | true=>
  rw [YEu,Yhu,Yju (fun h=> by cases h.1)]
  cases has (lowS s) 65533 with
  | true=> rw [Yku rfl,YX8,Ygu]
  | false=> rw [Yju (by simp),YGg _ _ (by omega)]
 | false=>
  rw [YFu,Ygu]
  cases has (lowS s) 65533 with
  | true=> rw [YEu,Yhu,Yju (fun h=> by cases h.2),Yku rfl,YX8,Ygu]
  | false=>
   rw [YFu,Ygu,Yku ⟨rfl,rfl⟩]
   by_cases c:(Yr (lowS s)).2≠0
   ·rw [Yeu c,Ygu,Yku c]
   ·rw [Yfu c,Yhu,Yju c,YGg _ _ (by omega)]
end Go.Abs
