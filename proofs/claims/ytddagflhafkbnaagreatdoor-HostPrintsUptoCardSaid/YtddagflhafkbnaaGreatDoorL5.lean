/- Part L5 of the proof: see the last text of the claim. No condition of its own. -/
import Derived.Test.YtddagflhafkbnaaGreatDoorL4
set_option linter.all false
set_option autoImplicit false
namespace Go.Abs
def YU1 (s:List UInt8):Nat->Nat->Option Nat
 | 0,_=> none
 | n+1,k=> if 127 < bat s k then some k else YU1 s n (k+1)
def Yo1 (s:List UInt8):List UInt8×(Int×Int):=match YU1 s s.length 0 with
 | some k=> ([],(31,(k:Int)))
 | none=> decV s (Yq (s.take (Yp s s.length).toNat)).length s.length (Yp s s.length+1).toNat 0 128 72 (Yq (s.take (Yp s s.length).toNat))
theorem Y1q (s:List UInt8) (hs:s.length<=1073741824) (f:Nat) (at':Nat) (hf:s.length<=at'+f) (hat:at'<=s.length):Z96 s (at':Int) 0 0 128 72=Z86 s (at':Int) 0 0 128 72 []:=by
 rw [Y5k,Yt6]
 rfl
theorem Y3g (s:List UInt8) (hs:s.length<=1073741824):∀ (n k:Nat),k+n=s.length->(Z56 s (s.length:Int) (k:Int)=some (match YU1 s n k with
  | some k=> ([],(31,(k:Int)))
  | none=> decV s (Yq (s.take (Yp s s.length).toNat)).length s.length (Yp s s.length+1).toNat 0 128 72 (Yq (s.take (Yp s s.length).toNat))))
 | 0,k,h=> by
  have hk:k=s.length:=by omega
  subst hk
  have hl:=YV7 s s.length
  rw [Yzc,Yg,Y6u (Yxu _),Y8u,Ybn s hs,Y9u,w64 (x:=Yp s s.length+1) (by omega) (by omega)]
  unfold YU1
  dsimp only
  by_cases c:Yp s s.length+1 > 0
  ·have hn:((Yp s s.length).toNat:Int)=Yp s s.length:=Int.toNat_of_nonneg (by omega)
   have hsl:(Yq (s.take (Yp s s.length).toNat)).length<=(Yp s s.length).toNat:=by
    have:=YH3 (s.take (Yp s s.length).toNat)
    rw [Ypu] at this; omega
   rw [Y5u c,Y7u,w64 (by omega) (by omega),show Yp s s.length+1 - 1=(((Yp s s.length).toNat:Nat):Int) from by omega,show Yi none (some (((Yp s s.length).toNat:Nat):Int)) s.length=true from by simp [Yi]; omega,Y7u,
    show Yl none (some (((Yp s s.length).toNat:Nat):Int)) s=s.take (Yp s s.length).toNat from (by show List.take (Int.toNat (((Yp s s.length).toNat:Nat):Int)) s=_; rw [Ydu]),show decide ((s.take (Yp s s.length).toNat).length<=lim)=true from Y5u (by rw [Ypu]; simp only [lim]; omega),Y7u,Ygi,YOj]
   rw [show Yp s s.length+1=(((Yp s s.length+1).toNat:Nat):Int) from by omega]
   have:=Y2g s (Yq (s.take (Yp s s.length).toNat)).length hs s.length (Yp s s.length+1).toNat 0 128 72 (Yq (s.take (Yp s s.length).toNat)) (by omega) (by omega) (by omega) (by omega) (by omega) (by omega) (by omega) (by omega)
   rw [this]
   rw [show (((Yp s s.length+1).toNat:Nat):Int).toNat=(Yp s s.length+1).toNat from by omega]
  ·have he:Yp s s.length=-1:=by omega
   rw [Y6u c,Y8u,YVj,he]
   have h5:=Y1q s hs s.length 0 (by omega) (by omega)
   have h4:=Y2g s 0 hs s.length 0 0 128 72 [] (by omega) (by omega) (by omega) (by omega) (by omega) (by omega) (by omega) (by simp)
   have hz:((0:Nat):Int)=0:=rfl
   rw [hz] at h5 h4
   rw [show (-1:Int)+1=0 from rfl,hz,h5,h4]
   rfl
 | n+1,k,h=> by
  have hk:k < s.length:=by omega
  have hw:IntKind.i64.wrap ((k:Int)+1)=((k+1:Nat):Int):=by rw [w64 (by omega) (by omega)]; omega
  rw [Yzc,Yg,Y5u hk,Y7u,Yj,Y5u hk,Y7u,Ydu,show (((s.getD k 0).toNat:Nat):Int)=bat s k from rfl,hw]
  unfold YU1
  by_cases c:127 < bat s k
  ·rw [show decide (bat s k > 127)=true from Y5u c,Y7u,Ybu c]
  ·rw [show decide (bat s k > 127)=false from Y6u c,Y8u,Yau c]
   exact Y3g s hs n (k+1) (by omega)
theorem YWe (s:List UInt8) (hs:s.length<=1073741824):YQ6 s=some (Yo1 s):=by
 rw [YGn,YFj]
 exact Y3g s hs s.length 0 (by omega)
def YT (s:List UInt8):List UInt8×(Int×Int):=if 65536 < s.length then ([],(5,0)) else Yo1 s
theorem Yxn (s:List UInt8) (hs:s.length<=1073741824):Yz9 s=some (YT s):=by
 rw [Ywn,YUj]
 unfold YT
 by_cases c:65536 < s.length
 ·rw [show decide ((s.length:Int) > 65536)=true from Y5u (by omega),Y7u,Ybu c]
 ·rw [show decide ((s.length:Int) > 65536)=false from Y6u (by omega),Y8u,Yau c,YWe s hs]; rfl
def azv (n:Int):Int:=(((az36.getD n.toNat 0).toNat:Nat):Int)
def layV (bias:Int):Nat->Int->Int->List Int
 | 0,_,_=> []
 | f+1,q,k=> if q < thr k bias then [azv q] else azv (thr k bias+(q - thr k bias) % (36 - thr k bias))::layV bias f ((q - thr k bias) / (36 - thr k bias)) (k+36)
theorem YW7 (bias:Int):∀ (f:Nat) (q k:Int),(layV bias f q k).length<=f
 | 0,_,_=> by simp [layV]
 | f+1,q,k=> by
  unfold layV
  split
  ·simp
  ·simp only [Yeu]; have:=YW7 bias f ((q - thr k bias) / (36 - thr k bias)) (k+36); omega
theorem in36 (n:Int) (h0:0<=n) (h1:n < 36):Ya n az36.length=true:=by
 unfold Ya; rw [Y5u h0,Y5u (by simp [az36]; omega)]; rfl
def Y85:Nat->Int
 | 0=> 0
 | n+1=> 10*Y85 n+9
theorem Yqr (bias:Int) (hb:0<=bias/\bias<=4096) (f:Nat):∀ (q k:Int) (r:List Int),0<=q->q<=Y85 f->q<=1099511627776->0<=k->k<=1000000 - 36*(f:Int)->r.length+f<=4294967000->
  Zh6 q bias k r=some (r++layV bias (f+1) q k):=by
 induction f with
 | zero=>
  intro q k r h0 h1 _ hk0 hk1 hr
  have ht:=YM3 k bias
  have h1:q<=0:=h1
  rw [Y8d,YC9 k bias ⟨hk0,by omega⟩ hb,Y9u]
  unfold layV
  rw [Y5u (by omega:q < thr k bias),Y7u,Ybu (by omega)]
  rw [show ([(97:UInt8),(98:UInt8),(99:UInt8),(100:UInt8),(101:UInt8),(102:UInt8),(103:UInt8),(104:UInt8),(105:UInt8),(106:UInt8),(107:UInt8),(108:UInt8),(109:UInt8),(110:UInt8),(111:UInt8),(112:UInt8),(113:UInt8),(114:UInt8),(115:UInt8),(116:UInt8),(117:UInt8),(118:UInt8),(119:UInt8),(120:UInt8),(121:UInt8),(122:UInt8),(48:UInt8),(49:UInt8),(50:UInt8),(51:UInt8),(52:UInt8),(53:UInt8),(54:UInt8),(55:UInt8),(56:UInt8),(57:UInt8)]:List UInt8)=az36 from rfl,in36 q h0 (by omega),Y7u]
  rw [show decide (r.length+[(((az36.getD q.toNat 0).toNat:Nat):Int)].length<=lim)=true from Y5u (by simp [lim]; omega),Y7u]; rfl
 | succ f ih=>
  intro q k r h0 h1 hb1 hk0 hk1 hr
  have ht:=YM3 k bias
  have h1:q<=10*Y85 f+9:=h1
  rw [Y8d,YC9 k bias ⟨hk0,by omega⟩ hb,Y9u]
  rw [show ([(97:UInt8),(98:UInt8),(99:UInt8),(100:UInt8),(101:UInt8),(102:UInt8),(103:UInt8),(104:UInt8),(105:UInt8),(106:UInt8),(107:UInt8),(108:UInt8),(109:UInt8),(110:UInt8),(111:UInt8),(112:UInt8),(113:UInt8),(114:UInt8),(115:UInt8),(116:UInt8),(117:UInt8),(118:UInt8),(119:UInt8),(120:UInt8),(121:UInt8),(122:UInt8),(48:UInt8),(49:UInt8),(50:UInt8),(51:UInt8),(52:UInt8),(53:UInt8),(54:UInt8),(55:UInt8),(56:UInt8),(57:UInt8)]:List UInt8)=az36 from rfl]
  rw [layV]
  generalize thr k bias=t at ht ⊢
  by_cases c:q < t
  ·rw [Y5u c,Y7u,Ybu c,in36 q h0 (by omega),Y7u,show decide (r.length+[(((az36.getD q.toNat 0).toNat:Nat):Int)].length<=lim)=true from Y5u (by simp [lim]; omega),Y7u]; rfl
  ·have m0:0<=(q - t) % (36 - t):=Int.emod_nonneg _ (by omega)
   have m1:(q - t) % (36 - t) < 36 - t:=Int.emod_lt_of_pos _ (by omega)
   have d0:0<=(q - t) / (36 - t):=Int.ediv_nonneg (by omega) (by omega)
   have d1:(q - t) / (36 - t)<=(q - t) / 10:=by
    apply Int.le_ediv_of_mul_le (by omega)
    have:=Int.ediv_mul_le (q - t) (b:=36 - t) (by omega)
    have h2:(q - t) / (36 - t)*10<=(q - t) / (36 - t)*(36 - t):=Int.mul_le_mul_of_nonneg_left (by omega) d0
    omega
   rw [Y6u c,Y8u,Yau c,w64 (x:=36 - t) (by omega) (by omega),show (36 - t !=0)=true from bne_iff_ne.2 (by omega),Y7u,w64 (x:=q - t) (by omega) (by omega),Int.tmod_eq_emod_of_nonneg (by omega),YDu (by omega),
    w64 (x:=t+(q - t) % (36 - t)) (by omega) (by omega),w64 (x:=(q - t) / (36 - t)) (by omega) (by omega),w64 (x:=k+36) (by omega) (by omega),in36 _ (by omega) (by omega),Y7u,
    show decide (r.length+[(((az36.getD (t+(q - t) % (36 - t)).toNat 0).toNat:Nat):Int)].length<=lim)=true from Y5u (by simp [lim]; omega),Y7u,Y7u]
   rw [ih _ _ _ d0 (by omega) (by omega) (by omega) (by omega) (by simp; omega),Ygu]
   rfl
theorem Y8h:1099511627776<=Y85 13:=by decide
def Y43 (q bias:Int):List Int:=layV bias 14 q 36
theorem YIn (r:List Int) (q bias:Int) (h0:0<=q) (h1:q<=1099511627776) (hb:0<=bias/\bias<=4096) (hr:r.length<=4294966000):YB9 (r,q,bias)=some (r++Y43 q bias):=by
 have:=Y8h
 rw [YHn,YAk]
 exact Yqr bias hb 13 q 36 r h0 (by omega) h1 (by omega) (by omega) (by omega)
end Go.Abs
namespace Go.Abs
def YJ (n:Int):Int->List Int->Int
 | m,[]=> m
 | m,r::l=> YJ n (if n<=r/\r < m then r else m) l
structure EncS where
 told:Nat
 bias:Int
 delta:Int
 out:List Int
def YO (n:Int) (plain:Nat):List Int->EncS->EncS
 | [],x=> x
 | r::l,x=>
  if r=n then YO n plain l ⟨x.told+1,Yh1 x.delta ((x.told+1:Nat):Int) (((x.told:Nat):Int)==((plain:Nat):Int)),0,x.out++Y43 x.delta x.bias⟩
  else if r < n then YO n plain l ⟨x.told,x.bias,x.delta+1,x.out⟩
  else YO n plain l x
def Yy2 (l:List Int) (plain:Nat):Nat->Int->EncS->List Int
 | 0,_,x=> x.out
 | f+1,n,x=>
  if l.length<=x.told then x.out
  else Yy2 l plain f (YJ n 1114112 l+1) ⟨(YO (YJ n 1114112 l) plain l ⟨x.told,x.bias,x.delta+(YJ n 1114112 l - n)*((x.told+1:Nat):Int),x.out⟩).told,
   (YO (YJ n 1114112 l) plain l ⟨x.told,x.bias,x.delta+(YJ n 1114112 l - n)*((x.told+1:Nat):Int),x.out⟩).bias,
   (YO (YJ n 1114112 l) plain l ⟨x.told,x.bias,x.delta+(YJ n 1114112 l - n)*((x.told+1:Nat):Int),x.out⟩).delta+1,
   (YO (YJ n 1114112 l) plain l ⟨x.told,x.bias,x.delta+(YJ n 1114112 l - n)*((x.told+1:Nat):Int),x.out⟩).out⟩
theorem Y25 (n:Int) (plain:Nat):∀ (l:List Int) (x:EncS),(YO n plain l x).told=x.told+l.countP (fun r=> r==n)
 | [],x=> rfl
 | r::l,x=> by
  unfold YO
  by_cases c:r=n
  ·rw [Ybu c,Y25 n plain l,List.countP_cons]
   have e:(r==n)=true:=beq_iff_eq.2 c
   simp only [e,if_true]; omega
  ·have e:(r==n)=false:=Yhu.2 c
   rw [Yau c]
   simp only [List.countP_cons,e]
   split
   ·rw [Y25 n plain l]; rfl
   ·rw [Y25 n plain l]; rfl
def Fine (x:EncS):Prop:=0<=x.delta/\(0<=x.bias/\x.bias<=4096)
theorem Y15 (n:Int) (plain:Nat):∀ (l:List Int) (x:EncS),Fine x->Fine (YO n plain l x)/\(YO n plain l x).delta<=x.delta+l.length/\((∃ r∈l,r=n)->(YO n plain l x).delta<=l.length)/\(YO n plain l x).out.length+14*x.told<=x.out.length+14*(YO n plain l x).told
 | [],x,h=> by
  refine ⟨h,?_,?_,?_⟩
  ·simp [YO]
  ·rintro ⟨r,hr,_⟩; cases hr
  ·unfold YO; omega
 | r::l,x,h=> by
  unfold YO
  by_cases c:r=n
  ·rw [Ybu c]
   have hb:=YX3 x.delta ((x.told+1:Nat):Int) (((x.told:Nat):Int)==((plain:Nat):Int)) h.1 (by omega)
   obtain ⟨h1,h2,h3,h4⟩:=Y15 n plain l ⟨x.told+1,Yh1 x.delta ((x.told+1:Nat):Int) (((x.told:Nat):Int)==((plain:Nat):Int)),0,x.out++Y43 x.delta x.bias⟩ ⟨Int.le_refl _,hb⟩
   have hl:=YW7 x.bias 14 x.delta 36
   have hd:=h.1
   refine ⟨h1,?_,fun _=> ?_,?_⟩
   ·dsimp only at h2; simp only [Yeu]; omega
   ·dsimp only at h2; simp only [Yeu]; omega
   ·dsimp only at h4; rw [Yfu] at h4; unfold Y43 at h4; unfold Y43; omega
  ·rw [Yau c]
   by_cases d:r < n
   ·rw [Ybu d]
    obtain ⟨h1,h2,h3,h4⟩:=Y15 n plain l ⟨x.told,x.bias,x.delta+1,x.out⟩ ⟨by have:=h.1; dsimp only; omega,h.2⟩
    refine ⟨h1,?_,fun ⟨y,hy,e⟩=> ?_,h4⟩
    ·dsimp only at h2; simp only [Yeu]; omega
    ·rcases Ylu.1 hy with rfl | hy
     ·exact absurd e c
     ·have:=h3 ⟨y,hy,e⟩; simp only [Yeu]; omega
   ·rw [Yau d]
    obtain ⟨h1,h2,h3,h4⟩:=Y15 n plain l x h
    refine ⟨h1,?_,fun ⟨y,hy,e⟩=> ?_,h4⟩
    ·simp only [Yeu]; omega
    ·rcases Ylu.1 hy with rfl | hy
     ·exact absurd e c
     ·have:=h3 ⟨y,hy,e⟩; simp only [Yeu]; omega
theorem Y08 (n:Int):∀ (l:List Int) (m:Int),YJ n m l<=m/\(YJ n m l=m\/(YJ n m l∈l/\n<=YJ n m l))/\∀ r∈l,n<=r->YJ n m l<=r
 | [],m=> ⟨Int.le_refl _,.inl rfl,fun r hr=> by cases hr⟩
 | r::l,m=> by
  unfold YJ
  obtain ⟨h1,h2,h3⟩:=Y08 n l (if n<=r/\r < m then r else m)
  by_cases c:n<=r/\r < m
  ·rw [Ybu c] at h1 h2 h3 ⊢
   refine ⟨by omega,?_,fun y hy hn=> ?_⟩
   ·rcases h2 with h2 | h2
    ·rw [h2]; exact .inr ⟨by simp,c.1⟩
    ·exact .inr ⟨List.mem_cons_of_mem _ h2.1,h2.2⟩
   ·rcases Ylu.1 hy with rfl | hy
    ·exact h1
    ·exact h3 y hy hn
  ·rw [Yau c] at h1 h2 h3 ⊢
   refine ⟨h1,?_,fun y hy hn=> ?_⟩
   ·rcases h2 with h2 | h2
    ·exact .inl h2
    ·exact .inr ⟨List.mem_cons_of_mem _ h2.1,h2.2⟩
   ·rcases Ylu.1 hy with rfl | hy
    ·omega
    ·exact h3 y hy hn
theorem YTp (l:List Int) (n m:Int) (hnm:n<=m) (h:∀ r∈l,n<=r->m<=r):l.countP (fun r=> decide (r < m+1))=l.countP (fun r=> decide (r < n))+l.countP (fun r=> r==m):=by
 induction l with
 | nil=> rfl
 | cons r l ih=>
  have ih:=ih (fun y hy=> h y (List.mem_cons_of_mem _ hy))
  have hr:=h r (by simp)
  simp only [List.countP_cons,ih]
  by_cases a:r < n
  ·have e1:decide (r < m+1)=true:=Y5u (by omega)
   have e2:decide (r < n)=true:=Y5u a
   have e3:(r==m)=false:=Yhu.2 (by omega)
   simp only [e1,e2,e3,if_true,Bool.false_eq_true,if_false]; omega
  ·have:=hr (by omega)
   have e2:decide (r < n)=false:=Y6u a
   by_cases b:r=m
   ·have e1:decide (r < m+1)=true:=Y5u (by omega)
    have e3:(r==m)=true:=beq_iff_eq.2 b
    simp only [e1,e2,e3,if_true,Bool.false_eq_true,if_false]; omega
   ·have e1:decide (r < m+1)=false:=Y6u (by omega)
    have e3:(r==m)=false:=Yhu.2 b
    simp only [e1,e2,e3,Bool.false_eq_true,if_false]; omega
theorem YTf (l:List Int) (n:Int) (h:l.countP (fun r=> decide (r < n)) < l.length):∃ r∈l,n<=r:=by
 induction l with
 | nil=> simp at h
 | cons r l ih=>
  by_cases a:r < n
  ·rw [List.countP_cons,Ybu (by simpa using a),Yeu] at h
   obtain ⟨y,hy,e⟩:=ih (by omega)
   exact ⟨y,List.mem_cons_of_mem _ hy,e⟩
  ·exact ⟨r,by simp,by omega⟩
theorem YSa (l:List Int) (n:Int) (hl:∀ r∈l,r < 1114112) (h:l.countP (fun r=> decide (r < n)) < l.length):
  n<=YJ n 1114112 l/\YJ n 1114112 l < 1114112/\YJ n 1114112 l∈l/\l.countP (fun r=> decide (r < YJ n 1114112 l+1))=l.countP (fun r=> decide (r < n))+l.countP (fun r=> r==YJ n 1114112 l)/\1<=l.countP (fun r=> r==YJ n 1114112 l):=by
 obtain ⟨h1,h2,h3⟩:=Y08 n l 1114112
 obtain ⟨y,hy,hn⟩:=YTf l n h
 have hm:=h3 y hy hn
 have hy':=hl y hy
 rcases h2 with h2 | ⟨h2,h4⟩
 ·omega
 ·refine ⟨h4,by omega,h2,YTp l n _ h4 h3,?_⟩
  exact List.countP_pos_iff.2 ⟨_,h2,by simp⟩
end Go.Abs
namespace Go.Abs
def Ys (l:List Int):List Int:=l.filter fun r=> decide (r < 128)
theorem Y18 (s:List UInt8) (told plain:Nat) (n bias delta:Int) (l out:List Int) (hl:l.length<=1048576):∀ (k i:Nat) (m:Int),i+k=l.length->
  Zu5 s (told:Int) (plain:Int) n bias delta m (l.length:Int) (i:Int) l out=
   Zv5 s (told:Int) (plain:Int) (YJ n m (l.drop i)) bias (IntKind.i64.wrap (delta+(IntKind.i64.wrap ((IntKind.i64.wrap (IntKind.i32.wrap (YJ n m (l.drop i) - n)))*(IntKind.i64.wrap ((told:Int)+1)))))) (l.length:Int) 0 l out
 | 0,i,m,h=> by
  have:i=l.length:=by omega
  subst this
  rw [YFd,Yg,Y6u (Yxu _),Y8u,List.drop_length]; rfl
 | k+1,i,m,h=> by
  have hi:i < l.length:=by omega
  have hw:IntKind.i64.wrap ((i:Int)+1)=((i+1:Nat):Int):=by rw [w64 (by omega) (by omega)]; omega
  have hg:List.getD l (Int.toNat (i:Int)) (Ty.zero (.int .i32))=l[i]:=by
   rw [Ydu,Ymu,Ynu hi]; rfl
  rw [YFd,Yg,Y5u hi,Y7u,Yj,Y5u hi,Y7u,hg,hw,Yiu hi,YJ]
  by_cases a:n<=l[i]
  ·rw [show decide (l[i]>=n)=true from Y5u a,Y7u]
   by_cases b:l[i] < m
   ·rw [Y5u b,Y7u,Ybu ⟨a,b⟩,Y18 s told plain n bias delta l out hl k (i+1) _ (by omega)]
   ·rw [Y6u b,Y8u,Yau (fun h=> b h.2),Y18 s told plain n bias delta l out hl k (i+1) _ (by omega)]
  ·rw [show decide (l[i]>=n)=false from Y6u a,Y8u,Yau (fun h=> a h.1),Y18 s told plain n bias delta l out hl k (i+1) _ (by omega)]
theorem YR7 (s:List UInt8) (plain:Nat) (n:Int) (l:List Int) (hl:l.length<=65536) (hn:0<=n/\n<=1114112):∀ (k i:Nat) (x:EncS),i+k=l.length->Fine x->x.delta+k<=1099511627776->x.told+k<=200000->x.out.length+14*k<=100000000->
  Zv5 s (x.told:Int) (plain:Int) n x.bias x.delta (l.length:Int) (i:Int) l x.out=
   Zt5 s ((YO n plain (l.drop i) x).told:Int) (plain:Int) (IntKind.i32.wrap (n+1)) (YO n plain (l.drop i) x).bias (IntKind.i64.wrap ((YO n plain (l.drop i) x).delta+1)) l (YO n plain (l.drop i) x).out
 | 0,i,x,h,_,_,_,_=> by
  have:i=l.length:=by omega
  subst this
  rw [YJd,Yg,Y6u (Yxu _),Y8u,List.drop_length]; rfl
 | k+1,i,x,h,hf,hd,ht,ho=> by
  have hi:i < l.length:=by omega
  have hw:IntKind.i64.wrap ((i:Int)+1)=((i+1:Nat):Int):=by rw [w64 (by omega) (by omega)]; omega
  have hg:List.getD l (Int.toNat (i:Int)) (Ty.zero (.int .i32))=l[i]:=by
   rw [Ydu,Ymu,Ynu hi]; rfl
  obtain ⟨hd0,hb⟩:=hf
  rw [YJd,Yg,Y5u hi,Y7u,Yj,Y5u hi,Y7u,hg,Yiu hi,YO]
  by_cases a:l[i] < n
  ·rw [Y5u a,Y7u,Yau (by omega),Ybu a,w64 (x:=x.delta+1) (by omega) (by omega),YMd,show (l[i]==n)=false from Yhu.2 (by omega),Y8u,hw]
   exact YR7 s plain n l hl hn k (i+1) ⟨x.told,x.bias,x.delta+1,x.out⟩ (by omega) ⟨by dsimp only; omega,hb⟩ (by dsimp only; omega) (by dsimp only; omega) (by dsimp only; omega)
  ·rw [Y6u a,Y8u,YMd]
   by_cases b:l[i]=n
   ·have hlay:=YW7 x.bias 14 x.delta 36
    have had:=YX3 x.delta ((x.told+1:Nat):Int) (((x.told:Nat):Int)==((plain:Nat):Int)) hd0 (by omega)
    have hw2:IntKind.i64.wrap ((x.told:Int)+1)=((x.told+1:Nat):Int):=by rw [w64 (by omega) (by omega)]; omega
    rw [show (l[i]==n)=true from beq_iff_eq.2 b,Y7u,Ybu b,YIn _ _ _ hd0 (by omega) hb (by omega),Y9u,hw2,YTe _ _ _ hd0 (by omega) (by omega) (by omega),Y9u,hw]
    exact YR7 s plain n l hl hn k (i+1) ⟨x.told+1,Yh1 x.delta ((x.told+1:Nat):Int) (((x.told:Nat):Int)==((plain:Nat):Int)),0,x.out++Y43 x.delta x.bias⟩ (by omega) ⟨Int.le_refl _,had⟩ (by dsimp only; omega) (by dsimp only; omega) (by dsimp only; rw [Yfu]; unfold Y43; omega)
   ·rw [show (l[i]==n)=false from Yhu.2 b,Y8u,Yau b,Yau a,hw]
    exact YR7 s plain n l hl hn k (i+1) x (by omega) ⟨hd0,hb⟩ (by omega) (by omega) (by omega)
def YM2 (out:List Int):List UInt8×Int:=if (Yo1 (Ym out)).2.1=32 then ([],32) else (Ym out,0)
theorem Yas (s:List UInt8) (plain:Nat) (l:List Int) (hl:l.length<=65536) (hr:∀ r∈l,0<=r/\r < 1114112) (f:Nat):∀ (n:Int) (x:EncS),l.length<=x.told+f->x.told=l.countP (fun r=> decide (r < n))->Fine x->x.delta<=65537->x.out.length<=65537+14*x.told->0<=n->n<=1114112->
  Zt5 s (x.told:Int) (plain:Int) n x.bias x.delta l x.out=some (YM2 (Yy2 l plain f n x)):=by
 have fin:∀ (n:Int) (x:EncS),l.length<=x.told->x.out.length<=65537+14*x.told->x.told<=65536->Zt5 s (x.told:Int) (plain:Int) n x.bias x.delta l x.out=some (YM2 x.out):=by
  intro n x h ho ht
  have hso:(Ym x.out).length=x.out.length:=by unfold Ym; rw [List.length_map]
  rw [YBd,Yg,Y6u (by omega),Y8u,YWe _ (by omega),Y9u]
  unfold YM2
  by_cases c:(Yo1 (Ym x.out)).2.1=32
  ·rw [show ((Yo1 (Ym x.out)).2.1==32)=true from beq_iff_eq.2 c,Y7u,Ybu c,c]
  ·rw [show ((Yo1 (Ym x.out)).2.1==32)=false from Yhu.2 c,Y8u,Yau c]
 have cle:∀ n:Int,l.countP (fun r=> decide (r < n))<=l.length:=fun n=> List.countP_le_length
 induction f with
 | zero=>
  intro n x h1 h2 _ _ ho _ _
  have:=cle n
  exact fin n x (by omega) ho (by omega)
 | succ f ih=>
  intro n x h1 h2 hf hd ho hn0 hn1
  have hc:=cle n
  unfold Yy2
  by_cases c:l.length<=x.told
  ·rw [Ybu c]; exact fin n x c ho (by omega)
  ·rw [Yau c]
   obtain ⟨m1,m2,m3,m4,m5⟩:=YSa l n (fun r h=> (hr r h).2) (by omega)
   have hml:=Y18 s x.told plain n x.bias x.delta l x.out (by omega) l.length 0 1114112 (by omega)
   rw [List.drop_zero] at hml
   generalize YJ n 1114112 l=m at m1 m2 m3 m4 m5 hml ⊢
   have hp:=Yn4 (a:=m - n) (b:=((x.told+1:Nat):Int)) (A:=1114112) (B:=65537) (by omega) (by omega) (by omega) (by omega)
   have hdx:=hf.1
   have hw2:IntKind.i64.wrap ((x.told:Int)+1)=((x.told+1:Nat):Int):=by rw [w64 (by omega) (by omega)]; omega
   rw [YBd,Yg,Y5u (by omega),Y7u]
   rw [show ((0:Nat):Int)=0 from rfl] at hml
   rw [hml,w32 (by omega) (by omega),w64 (x:=m - n) (by omega) (by omega),hw2,w64 (x:=(m - n)*((x.told+1:Nat):Int)) (by omega) (by omega),w64 (x:=x.delta+(m - n)*((x.told+1:Nat):Int)) (by omega) (by omega)]
   have hin:=YR7 s plain m l hl ⟨by omega,by omega⟩ l.length 0 ⟨x.told,x.bias,x.delta+(m - n)*((x.told+1:Nat):Int),x.out⟩ (by omega) ⟨by dsimp only; omega,hf.2⟩ (by dsimp only; omega) (by dsimp only; omega) (by dsimp only; omega)
   rw [List.drop_zero,show ((0:Nat):Int)=0 from rfl] at hin
   obtain ⟨f1,f2,f3,f4⟩:=Y15 m plain l ⟨x.told,x.bias,x.delta+(m - n)*((x.told+1:Nat):Int),x.out⟩ ⟨by dsimp only; omega,hf.2⟩
   have f3:=f3 ⟨m,m3,rfl⟩
   have ft:=Y25 m plain l ⟨x.told,x.bias,x.delta+(m - n)*((x.told+1:Nat):Int),x.out⟩
   refine hin.trans ?_
   generalize YO m plain l ⟨x.told,x.bias,x.delta+(m - n)*((x.told+1:Nat):Int),x.out⟩=y at f1 f2 f3 f4 ft ⊢
   dsimp only at f4 ft
   have hd1:=f1.1
   have hcl:=cle (m+1)
   rw [w32 (by omega) (by omega),w64 (by omega) (by omega)]
   exact ih (m+1) ⟨y.told,y.bias,y.delta+1,y.out⟩ (by dsimp only; omega) (by dsimp only; omega) ⟨by dsimp only; omega,f1.2⟩ (by dsimp only; omega) (by dsimp only; omega) (by omega) (by omega)
theorem YLb (s:List UInt8) (l:List Int) (hl:l.length<=65536) (hr:∀ r∈l,0<=r/\r < 1114112):∀ (k i:Nat) (out:List Int),i+k=l.length->out.length<=i->
  Zr5 s (l.length:Int) (i:Int) l out=Zs5 s ((out++Ys (l.drop i)).length:Int) ((out++Ys (l.drop i)).length:Int) l (if (out++Ys (l.drop i)).length=0 then out++Ys (l.drop i) else (out++Ys (l.drop i))++[45])
 | 0,i,out,h,ho=> by
  have:i=l.length:=by omega
  subst this
  rw [Ywd,Yg,Y6u (Yxu _),Y8u,List.drop_length]
  rw [show out++Ys []=out from by simp [Ys]]
  by_cases c:out.length=0
  ·rw [show decide ((out.length:Int) > 0)=false from Y6u (by omega),Y8u,Ybu c]
  ·rw [show decide ((out.length:Int) > 0)=true from Y5u (by omega),Y7u,Yau c,show decide (out.length+[(45:Int)].length<=lim)=true from Y5u (by simp [lim]; omega),Y7u]
 | k+1,i,out,h,ho=> by
  have hi:i < l.length:=by omega
  have hw:IntKind.i64.wrap ((i:Int)+1)=((i+1:Nat):Int):=by rw [w64 (by omega) (by omega)]; omega
  have hg:List.getD l (Int.toNat (i:Int)) (Ty.zero (.int .i32))=l[i]:=by
   rw [Ydu,Ymu,Ynu hi]; rfl
  have hx:=hr l[i] (List.getElem_mem hi)
  have hs:Ys (l.drop i)=if l[i] < 128 then l[i]::Ys (l.drop (i+1)) else Ys (l.drop (i+1)):=by
   unfold Ys
   rw [Yiu hi,List.filter_cons]
   by_cases a:l[i] < 128
   ·rw [Ybu (Y5u a),Ybu a]
   ·rw [Yau (by simpa using a),Yau a]
  rw [Ywd,Yg,Y5u hi,Y7u,Yj,Y5u hi,Y7u,hg,hw,hs]
  by_cases a:l[i] < 128
  ·rw [Y5u a,Y7u,Ybu a,w8 hx.1 (by omega),show decide (out.length+[l[i]].length<=lim)=true from Y5u (by simp [lim]; omega),Y7u,YLb s l hl hr k (i+1) _ (by omega) (by simp; omega),Ygu]
   rfl
  ·rw [Y6u a,Y8u,Yau a,YLb s l hl hr k (i+1) _ (by omega) (by omega)]
def YT1 (l:List Int):List Int:=Yy2 l (Ys l).length l.length 128 ⟨(Ys l).length,72,0,if (Ys l).length=0 then Ys l else Ys l++[45]⟩
def Yb1 (s:List UInt8):List UInt8×Int:=if (YO1 s).1=false then ([],21) else if 65536 < s.length then ([],5) else YM2 (YT1 (Yq s))
theorem YC2 {r:Int} (h:scal r=true):0<=r/\r < 1114112:=by
 have:=of_decide_eq_true h; omega
theorem Yb6 (s:List UInt8):∀ r∈Yq s,scal r=true:=by
 have:∀ (n k:Nat),∀ x∈pcs s n k,scal x.2.1=true:=by
  intro n
  induction n with
  | zero=> intro k x h; cases h
  | succ n ih=>
   intro k x h
   unfold pcs at h
   split at h
   ·rcases Ylu.1 h with rfl | h
    ·dsimp only; exact YEb s k
    ·exact ih _ x h
   ·cases h
 intro r hr
 obtain ⟨x,hx,rfl⟩:=List.mem_map.1 hr
 exact this _ _ x hx
theorem Yq5 (l:List Int):(Ys l).length=l.countP (fun r=> decide (r < 128)):=by
 unfold Ys; rw [List.countP_eq_length_filter]
theorem Yzn (s:List UInt8):YA9 s=some (Yb1 s):=by
 rw [Yyn,Ykl,YGf,Y9u]
 unfold Yb1
 cases hv:(YO1 s).1 with
 | false=> rw [Ywu,Y7u,Ybu rfl]
 | true=>
  rw [Yvu,Y8u,Yau (by simp)]
  by_cases c:65536 < s.length
  ·rw [show decide ((s.length:Int) > 65536)=true from Y5u (by omega),Y7u,Ybu c]
  ·rw [show decide ((s.length:Int) > 65536)=false from Y6u (by omega),Y8u,Yau c,show decide (s.length<=lim)=true from Y5u (by simp only [lim]; omega),Y7u,Ygi]
   have hl:=YH3 s
   have hr:∀ r∈Yq s,0<=r/\r < 1114112:=fun r h=> YC2 (Yb6 s r h)
   generalize Yq s=l at hl hr ⊢
   have h1:=YLb s l (by omega) hr l.length 0 [] (by omega) (by simp)
   rw [List.drop_zero,Yzu,show ((0:Nat):Int)=0 from rfl] at h1
   have hsl:(Ys l).length<=l.length:=by rw [Yq5]; exact List.countP_le_length
   rw [h1,Ywl]
   exact Yas s (Ys l).length l (by omega) hr l.length 128 ⟨(Ys l).length,72,0,if (Ys l).length=0 then Ys l else Ys l++[45]⟩ (by dsimp only; omega) (Yq5 l) ⟨by dsimp only; omega,by dsimp only; omega⟩ (by dsimp only; omega) (by dsimp only; split; omega; rw [Yfu]; simp only [Yeu,Yju]; omega) (by omega) (by omega)
end Go.Abs
namespace Go.Abs
theorem Yw2 (b:UInt8):UInt8.ofNat (Y8 b).toNat=b:=by
 unfold Y8; rw [Ydu]; exact UInt8.ofNat_toNat
theorem YH1 {x:Int} (h0:0<=x) (h1:x<=255):Y8 (UInt8.ofNat x.toNat)=x:=by
 unfold Y8
 have e:(UInt8.ofNat x.toNat).toNat=x.toNat:=by rw [UInt8.toNat_ofNat']; omega
 rw [e]; omega
theorem Yl3 {a b:UInt8} (h:Y8 a=Y8 b):a=b:=by
 rw [<-Yw2 a,h,Yw2]
def rbs (r:Int):List UInt8:=Ym (Yu r)
theorem Yxs (r:Int):(rbs r).length=(Yu r).length:=by unfold rbs Ym; rw [List.length_map]
theorem Yk8 (r:Int):1<=(rbs r).length/\(rbs r).length<=4:=by rw [Yxs]; exact YZ3 r
theorem Y0t (s:List UInt8) (k:Nat) (r:Int) (h:r < 128) (b0:bat s k=r):Yk s k=(r,(1,false)):=by
 unfold Yk
 rw [Ybu (show ut1 s k=true from Y5u (by omega)),b0]
theorem YTa {s:List UInt8} {k:Nat} (h:128<=bat s k):¬ut1 s k=true:=fun e=> by
 have:=of_decide_eq_true e; omega
theorem Y1t (s:List UInt8) (k:Nat) (r:Int) (h0:128<=r) (h1:r < 2048) (hk:k+1 < s.length) (b0:bat s k=192+r / 64) (b1:bat s (k+1)=128+r % 64):Yk s k=(r,(2,false)):=by
 have hc:c2 s k=r:=by unfold c2; rw [b0,b1]; omega
 unfold Yk
 rw [Yau (YTa (by omega)),Ybu (show ut2 s k=true from Y5u (by rw [hc,b0,b1]; omega)),hc]
theorem Yjh {s:List UInt8} {k:Nat} (h:224<=bat s k):¬ut2 s k=true:=fun e=> by
 have:=of_decide_eq_true e; omega
theorem YNr {s:List UInt8} {k:Nat} (h:240<=bat s k):¬ut3 s k=true:=fun e=> by
 unfold ut3 at e
 rw [Ycu] at e
 have:=of_decide_eq_true e.1; omega
theorem Y2t (s:List UInt8) (k:Nat) (r:Int) (hs:scal r=true) (h0:2048<=r) (h1:r < 65536) (hk:k+2 < s.length) (b0:bat s k=224+r / 4096) (b1:bat s (k+1)=128+r / 64 % 64) (b2:bat s (k+2)=128+r % 64):Yk s k=(r,(3,false)):=by
 have hc:c3 s k=r:=by unfold c3; rw [b0,b1,b2]; omega
 unfold Yk
 rw [Yau (YTa (by omega)),Yau (Yjh (by omega)),Ybu (show ut3 s k=true from by unfold ut3; rw [hc,hs,Bool.and_true]; exact Y5u (by rw [b0,b1,b2]; omega)),hc]
theorem Y3t (s:List UInt8) (k:Nat) (r:Int) (hs:scal r=true) (h0:65536<=r) (h1:r < 1114112) (hk:k+3 < s.length) (b0:bat s k=240+r / 262144) (b1:bat s (k+1)=128+r / 4096 % 64) (b2:bat s (k+2)=128+r / 64 % 64) (b3:bat s (k+3)=128+r % 64):Yk s k=(r,(4,false)):=by
 have hc:c4 s k=r:=by unfold c4; rw [b0,b1,b2,b3]; omega
 unfold Yk
 rw [Yau (YTa (by omega)),Yau (Yjh (by omega)),Yau (YNr (by omega)),Ybu (show ut4 s k=true from by unfold ut4; rw [hc,hs,Bool.and_true]; exact Y5u (by rw [b0,b1,b2,b3]; omega)),hc]
theorem rbs1 {r:Int} (a:r < 128):rbs r=[UInt8.ofNat r.toNat]:=by unfold rbs Yu; rw [Ybu a]; rfl
theorem rbs2 {r:Int} (a:¬r < 128) (b:r < 2048):rbs r=[UInt8.ofNat (192+r / 64).toNat,UInt8.ofNat (128+r % 64).toNat]:=by unfold rbs Yu; rw [Yau a,Ybu b]; rfl
theorem rbs3 {r:Int} (a:¬r < 128) (b:¬r < 2048) (c:r < 65536):rbs r=[UInt8.ofNat (224+r / 4096).toNat,UInt8.ofNat (128+r / 64 % 64).toNat,UInt8.ofNat (128+r % 64).toNat]:=by unfold rbs Yu; rw [Yau a,Yau b,Ybu c]; rfl
theorem rbs4 {r:Int} (a:¬r < 128) (b:¬r < 2048) (c:¬r < 65536):rbs r=[UInt8.ofNat (240+r / 262144).toNat,UInt8.ofNat (128+r / 4096 % 64).toNat,UInt8.ofNat (128+r / 64 % 64).toNat,UInt8.ofNat (128+r % 64).toNat]:=by unfold rbs Yu; rw [Yau a,Yau b,Yau c]; rfl
theorem Y4t (r:Int) (h:scal r=true) (t:List UInt8):Yk (rbs r++t) 0=(r,((((rbs r).length:Nat):Int),false)):=by
 have hr:=YC2 h
 by_cases a:r < 128
 ·rw [rbs1 a]
  exact Y0t _ 0 r a (YH1 (by omega) (by omega))
 by_cases b:r < 2048
 ·rw [rbs2 a b]
  exact Y1t _ 0 r (by omega) b (by simp) (YH1 (by omega) (by omega)) (YH1 (by omega) (by omega))
 by_cases c:r < 65536
 ·rw [rbs3 a b c]
  exact Y2t _ 0 r h (by omega) c (by simp) (YH1 (by omega) (by omega)) (YH1 (by omega) (by omega)) (YH1 (by omega) (by omega))
 ·rw [rbs4 a b c]
  exact Y3t _ 0 r h (by omega) (by omega) (by simp) (YH1 (by omega) (by omega)) (YH1 (by omega) (by omega)) (YH1 (by omega) (by omega)) (YH1 (by omega) (by omega))
theorem Ybi (s:List UInt8) (k:Nat) (r:Int) (h:scal r=true) (t:List UInt8) (hk:k<=s.length) (e:s.drop k=rbs r++t):Yk s k=(r,((((rbs r).length:Nat):Int),false)):=by
 rw [<-Yai s k hk,e]; exact Y4t r h t
theorem Y9q (s:List UInt8) (k:Nat) (hk:k < s.length) (h:(Yk s k).2.2=false):s.drop k=rbs (Yk s k).1++s.drop (k+wd s k):=by
 have hb0:=Yt s k
 have hb1:=Yt s (k+1)
 have hb2:=Yt s (k+2)
 have hb3:=Yt s (k+3)
 obtain ⟨d0,e0⟩:=Yx1 s k hk
 have f0:s[k]=UInt8.ofNat (bat s k).toNat:=by rw [<-e0,Yw2]
 unfold wd
 by_cases q1:ut1 s k=true
 ·have hr:Yk s k=(bat s k,(1,false)):=by unfold Yk; rw [Ybu q1]
  have:=of_decide_eq_true q1
  rw [hr,rbs1 this,d0,f0]; rfl
 by_cases q2:ut2 s k=true
 ·have hr:Yk s k=(c2 s k,(2,false)):=by unfold Yk; rw [Yau q1,Ybu q2]
  obtain ⟨g1,g2,g3,g4⟩:=of_decide_eq_true q2
  obtain ⟨d1,e1⟩:=Yx1 s (k+1) g1
  have f1:s[k+1]=UInt8.ofNat (bat s (k+1)).toNat:=by rw [<-e1,Yw2]
  have hc:c2 s k < 2048:=by unfold c2; omega
  have h1:192+c2 s k / 64=bat s k:=by unfold c2; omega
  have h2:128+c2 s k % 64=bat s (k+1):=by unfold c2; omega
  rw [hr,rbs2 (by omega) hc,h1,h2,d0,d1,f0,f1]; rfl
 by_cases q3:ut3 s k=true
 ·have hr:Yk s k=(c3 s k,(3,false)):=by unfold Yk; rw [Yau q1,Yau q2,Ybu q3]
  unfold ut3 at q3
  rw [Ycu] at q3
  obtain ⟨g1,g2,g3,g4,g5⟩:=of_decide_eq_true q3.1
  obtain ⟨d1,e1⟩:=Yx1 s (k+1) (by omega)
  obtain ⟨d2,e2⟩:=Yx1 s (k+2) g1
  have f1:s[k+1]=UInt8.ofNat (bat s (k+1)).toNat:=by rw [<-e1,Yw2]
  have f2:s[k+2]=UInt8.ofNat (bat s (k+2)).toNat:=by rw [<-e2,Yw2]
  have hc:c3 s k < 65536:=by unfold c3; omega
  have h1:224+c3 s k / 4096=bat s k:=by unfold c3; omega
  have h2:128+c3 s k / 64 % 64=bat s (k+1):=by unfold c3; omega
  have h3:128+c3 s k % 64=bat s (k+2):=by unfold c3; omega
  rw [hr,rbs3 (by omega) (by omega) hc,h1,h2,h3,d0,d1,d2,f0,f1,f2]; rfl
 by_cases q4:ut4 s k=true
 ·have hr:Yk s k=(c4 s k,(4,false)):=by unfold Yk; rw [Yau q1,Yau q2,Yau q3,Ybu q4]
  unfold ut4 at q4
  rw [Ycu] at q4
  obtain ⟨g1,g2,g3,g4,g5,g6⟩:=of_decide_eq_true q4.1
  obtain ⟨d1,e1⟩:=Yx1 s (k+1) (by omega)
  obtain ⟨d2,e2⟩:=Yx1 s (k+2) (by omega)
  obtain ⟨d3,e3⟩:=Yx1 s (k+3) g1
  have f1:s[k+1]=UInt8.ofNat (bat s (k+1)).toNat:=by rw [<-e1,Yw2]
  have f2:s[k+2]=UInt8.ofNat (bat s (k+2)).toNat:=by rw [<-e2,Yw2]
  have f3:s[k+3]=UInt8.ofNat (bat s (k+3)).toNat:=by rw [<-e3,Yw2]
  have h1:240+c4 s k / 262144=bat s k:=by unfold c4; omega
  have h2:128+c4 s k / 4096 % 64=bat s (k+1):=by unfold c4; omega
  have h3:128+c4 s k / 64 % 64=bat s (k+2):=by unfold c4; omega
  have h4:128+c4 s k % 64=bat s (k+3):=by unfold c4; omega
  rw [hr,rbs4 (by omega) (by omega) (by omega),h1,h2,h3,h4,d0,d1,d2,d3,f0,f1,f2,f3]; rfl
 ·exfalso
  have hr:Yk s k=(65533,(1,true)):=by unfold Yk; rw [Yau q1,Yau q2,Yau q3,Yau q4]
  rw [hr] at h; cases h
end Go.Abs
namespace Go.Abs
def pvs (s:List UInt8) (n k:Nat):List Int:=(pcs s n k).map (·.2.1)
theorem Yw1 (r:Int) (l:List Int):Yb (r::l)=rbs r++Yb l:=by
 unfold Yb rbs Ym YN1; rw [List.flatMap_cons,List.map_append]
theorem YZ1:Yb []=[]:=rfl
theorem YL3:∀ a b:List Int,Yb (a++b)=Yb a++Yb b
 | [],b=> rfl
 | r::a,b=> by rw [List.cons_append,Yw1,Yw1,YL3 a b,Ygu]
theorem YVb:∀ l:List Int,(Yb l).length<=4*l.length
 | []=> by simp [YZ1]
 | r::l=> by
  have:=YVb l
  have:=Yk8 r
  rw [Yw1,Yfu,Yeu]; omega
theorem Yxi:∀ l:List Int,l.length<=(Yb l).length
 | []=> by simp [YZ1]
 | r::l=> by
  have:=Yxi l
  have:=Yk8 r
  rw [Yw1,Yfu,Yeu]; omega
def YQ (l:List Int):Prop:=∀ r∈l,scal r=true
theorem Yt8 {r:Int} {l:List Int} (h:YQ (r::l)):scal r=true/\YQ l:=⟨h r (by simp),fun x hx=> h x (by simp [hx])⟩
theorem Ys8 (s:List UInt8):YQ (Yq s):=Yb6 s
theorem Ysb:∀ (l:List Int) (s:List UInt8) (n k:Nat),YQ l->s.length<=k+n->k<=s.length->s.drop k=Yb l->pvs s n k=l/\Y32 (pcs s n k)=none
 | [],s,n,k,hl,hn,hk,e=> by
  have:k=s.length:=by
   have:=congrArg List.length e
   rw [Yqu,YZ1,Yju] at this; omega
  subst this
  unfold pvs
  cases n with
  | zero=> exact ⟨rfl,rfl⟩
  | succ n=> rw [pcs,Yau (Yxu _)]; exact ⟨rfl,rfl⟩
 | r::l,s,n,k,hl,hn,hk,e=> by
  obtain ⟨h1,h2⟩:=Yt8 hl
  have hb:=Yk8 r
  rw [Yw1] at e
  have hlen:=congrArg List.length e
  rw [Yqu,Yfu] at hlen
  have hr:=Ybi s k r h1 _ hk e
  have hw:wd s k=(rbs r).length:=by unfold wd; rw [hr]; simp
  have e2:s.drop (k+(rbs r).length)=Yb l:=by rw [<-List.drop_drop,e,List.drop_left]
  cases n with
  | zero=> omega
  | succ n=>
   obtain ⟨i1,i2⟩:=Ysb l s n (k+(rbs r).length) h2 (by omega) (by omega) e2
   unfold pvs at i1 ⊢
   rw [pcs,Ybu (by omega),hw,hr,Ysu,i1]
   exact ⟨rfl,i2⟩
theorem Yu8 (l:List Int) (h:YQ l):Yq (Yb l)=l:=(Ysb l (Yb l) _ 0 h (by omega) (by omega) rfl).1
theorem YUt (l:List Int) (h:YQ l):(YO1 (Yb l)).1=true:=by
 unfold YO1 Y82
 rw [(Ysb l (Yb l) _ 0 h (by omega) (by omega) rfl).2]
theorem Yzi (s:List UInt8):∀ (n k:Nat),s.length<=k+n->k<=s.length->Y32 (pcs s n k)=none->Yb (pvs s n k)=s.drop k
 | 0,k,hn,hk,h=> by
  rw [List.drop_eq_nil_of_le (by omega)]; rfl
 | n+1,k,hn,hk,h=> by
  rw [pcs] at h
  unfold pvs
  rw [pcs]
  by_cases c:k < s.length
  ·obtain ⟨w1,w2,w3,_⟩:=Ya2 s k c
   have e1:s.length<=k+wd s k+n:=by clear h; omega
   rw [Ybu c] at h ⊢
   have key:∀ (x:Nat×(Int×(Int×Bool))) (l:List (Nat×(Int×(Int×Bool)))),Y32 (x::l)=none->x.2.2.2=false/\Y32 l=none:=by
    intro x l hx
    rw [Y32] at hx
    cases hb:x.2.2.2 with
    | false=> rw [hb] at hx; exact ⟨rfl,hx⟩
    | true=> rw [hb] at hx; cases hx
   obtain ⟨h2,h⟩:=key _ _ h
   dsimp only at h2
   have ih:=Yzi s n (k+wd s k) e1 w3 h
   have hd:=Y9q s k c h2
   unfold pvs at ih
   rw [Ysu]
   dsimp only
   generalize hA:s.drop (k+wd s k)=A at hd ih
   generalize (Yk s k).1=r at hd ⊢
   rw [hd,Yw1,ih]
  ·rw [Yau c,List.drop_eq_nil_of_le (by omega)]; rfl
theorem Yyi (s:List UInt8) (h:(YO1 s).1=true):Yb (Yq s)=s:=by
 have:Y32 (pcs s s.length 0)=none:=by
  unfold YO1 Y82 at h
  cases hf:Y32 (pcs s s.length 0) with
  | none=> rfl
  | some k=> rw [hf] at h; cases h
 exact Yzi s s.length 0 (by omega) (by omega) this
theorem YTt (r:Int) (h:scal r=true):Utf8.valid r=true:=by
 have h:=of_decide_eq_true h
 unfold Utf8.valid
 simp only [Bool.or_eq_true,Ycu,You]; omega
theorem ofN {x:Int} {n:Nat} (h:x=(n:Int)):UInt8.ofNat x.toNat=UInt8.ofNat n:=by rw [h,Ydu]
theorem Yhg (r:Int) (h:scal r=true):Yy1 r=rbs r:=by
 have hr:=YC2 h
 have hv:=YTt r h
 unfold Yy1 Utf8.encode
 rw [Ybu hv]
 by_cases a:r.toNat < 128
 ·rw [rbs1 (by omega),Ybu a]
 ·rw [Yau a]
  by_cases b:r.toNat < 2048
  ·rw [rbs2 (by omega) (by omega),Ybu b,ofN (n:=192+r.toNat / 64) (by omega),ofN (n:=128+r.toNat % 64) (by omega)]
  ·rw [Yau b]
   by_cases c:r.toNat < 65536
   ·rw [rbs3 (by omega) (by omega) (by omega),Ybu c,ofN (n:=224+r.toNat / 4096) (by omega),ofN (n:=128+r.toNat / 64 % 64) (by omega),ofN (n:=128+r.toNat % 64) (by omega)]
   ·rw [Yau c,rbs4 (by omega) (by omega) (by omega),ofN (n:=240+r.toNat / 262144) (by omega),ofN (n:=128+r.toNat / 4096 % 64) (by omega),ofN (n:=128+r.toNat / 64 % 64) (by omega),ofN (n:=128+r.toNat % 64) (by omega)]
theorem YA8:∀ l:List Int,YQ l->YQ2 l=Yb l
 | [],_=> rfl
 | r::l,h=> by
  obtain ⟨h1,h2⟩:=Yt8 h
  rw [Yw1,<-YA8 l h2,<-Yhg r h1]; rfl
theorem YAr:(List.range 26).all (fun n=> decide (bits Go.BinOp.xor IntKind.u8 ((n:Int)+65) 32=(n:Int)+97))=true:=by kernel_rfl
theorem Yt2 (x:Int):lowI x=if 65<=x/\x<=90 then x+32 else x:=by
 unfold lowI
 by_cases h:65<=x/\x<=90
 ·rw [Ybu h,Ybu h]
  have:=of_decide_eq_true (List.all_eq_true.1 YAr (x - 65).toNat (List.mem_range.2 (by omega)))
  rw [show (((x - 65).toNat:Nat):Int)+65=x from by omega] at this
  rw [this]; omega
 ·rw [Yau h,Yau h]
theorem Yfh {x:Int} (h:128<=x):lowI x=x:=by rw [Yt2,Yau (by omega)]
theorem YCr {x:Int} (h:scal x=true):scal (lowI x)=true:=by
 have h:=of_decide_eq_true h
 rw [Yt2]; split <;> exact Y5u (by omega)
theorem YBr {x:Int} (h:0<=x/\x<=255):0<=lowI x/\lowI x<=255:=by rw [Yt2]; split <;> omega
theorem Yi9 (b:UInt8):Y8 (lowB b)=lowI (Y8 b):=by
 have:=YBr (YI2 b)
 exact YH1 this.1 this.2
def lowS (s:List UInt8):List UInt8:=s.map lowB
theorem YX7 (s:List UInt8):(lowS s).length=s.length:=List.length_map ..
theorem YDr (a b:List UInt8):lowS (a++b)=lowS a++lowS b:=List.map_append
theorem Y53 {x:Int} (h0:128<=x) (h1:x<=255):lowB (UInt8.ofNat x.toNat)=UInt8.ofNat x.toNat:=
 Yl3 (by rw [Yi9,YH1 (by omega) h1,Yfh h0])
theorem YGr (r:Int) (h:scal r=true):lowS (rbs r)=rbs (lowI r):=by
 have hr:=YC2 h
 by_cases a:r < 128
 ·have:lowI r < 128:=by rw [Yt2]; split <;> omega
  have h2:0<=lowI r:=by rw [Yt2]; split <;> omega
  rw [rbs1 a,rbs1 this]
  unfold lowS
  rw [Ysu,List.map_nil]
  congr 1
  exact Yl3 (by rw [Yi9,YH1 hr.1 (by omega),YH1 h2 (by omega)])
 ·rw [Yfh (by omega)]
  by_cases b:r < 2048
  ·rw [rbs2 a b]; unfold lowS
   rw [Ysu,Ysu,List.map_nil,Y53 (by omega) (by omega),Y53 (by omega) (by omega)]
  by_cases c:r < 65536
  ·rw [rbs3 a b c]; unfold lowS
   rw [Ysu,Ysu,Ysu,List.map_nil,Y53 (by omega) (by omega),Y53 (by omega) (by omega),Y53 (by omega) (by omega)]
  ·rw [rbs4 a b c]; unfold lowS
   rw [Ysu,Ysu,Ysu,Ysu,List.map_nil,Y53 (by omega) (by omega),Y53 (by omega) (by omega),Y53 (by omega) (by omega),Y53 (by omega) (by omega)]
theorem YQa:∀ l:List Int,YQ l->lowS (Yb l)=Yb (l.map lowI)
 | [],_=> rfl
 | r::l,h=> by
  obtain ⟨h1,h2⟩:=Yt8 h
  rw [Yw1,YDr,YGr r h1,YQa l h2,Ysu,Yw1]
theorem Ygh {l:List Int} (h:YQ l):YQ (l.map lowI):=by
 intro x hx
 obtain ⟨y,hy,rfl⟩:=List.mem_map.1 hx
 exact YCr (h y hy)
theorem YA6 {s:List UInt8} (h:Yc1 s=true):∀ b∈s,Y8 b < 128:=by
 intro b hb
 unfold Yc1 at h
 rw [Bool.not_eq_true',List.any_eq_false] at h
 have:=h b hb
 simp only [You] at this; omega
theorem Ye9:∀ s:List UInt8,(∀ b∈s,Y8 b < 128)->Yb (s.map Y8)=s
 | [],_=> rfl
 | b::s,h=> by
  rw [Ysu,Yw1,rbs1 (h b (by simp)),Yw2,Ye9 s (fun x hx=> h x (by simp [hx]))]; rfl
theorem Yd9 {s:List UInt8} (h:∀ b∈s,Y8 b < 128):YQ (s.map Y8):=by
 intro x hx
 obtain ⟨b,hb,rfl⟩:=List.mem_map.1 hx
 have:=YI2 b
 have:=h b hb
 exact Y5u (by omega)
theorem Yn5 (s:List UInt8) (h:∀ b∈s,Y8 b < 128):Yq s=s.map Y8:=by
 have:=Yu8 (s.map Y8) (Yd9 h)
 rwa [Ye9 s h] at this
theorem YLi (s:List UInt8) (h:∀ b∈s,Y8 b < 128):(YO1 s).1=true:=by
 have:=YUt (s.map Y8) (Yd9 h)
 rwa [Ye9 s h] at this
end Go.Abs
namespace Go.Abs
def okI (c:Int):Prop:=0<=c/\c < 128/\c≠46/\¬(65<=c/\c<=90)
instance (c:Int):Decidable (okI c):=by unfold okI; infer_instance
theorem Yem:(List.range 36).all (fun n=> decide (okI (azv (n:Int))))=true:=by kernel_rfl
theorem Yde (n:Int):okI (azv n):=by
 by_cases c:n.toNat < 36
 ·have:=of_decide_eq_true (List.all_eq_true.1 Yem n.toNat (List.mem_range.2 c))
  unfold azv at this ⊢
  rwa [Ydu] at this
 ·unfold azv
  rw [Ymu,List.getElem?_eq_none (by simp [az36]; omega)]
  decide
theorem Y5h (bias:Int):∀ (f:Nat) (q k:Int),∀ c∈layV bias f q k,okI c
 | 0,_,_,c,h=> by cases h
 | f+1,q,k,c,h=> by
  unfold layV at h
  split at h
  ·rw [YEu.1 h]; exact Yde _
  ·rcases Ylu.1 h with rfl | h
   ·exact Yde _
   ·exact Y5h bias f _ _ c h
theorem YQ7 (n:Int) (plain:Nat):∀ (l:List Int) (x:EncS),(∀ c∈x.out,okI c)->∀ c∈(YO n plain l x).out,okI c
 | [],x,h=> h
 | r::l,x,h=> by
  unfold YO
  split
  ·refine YQ7 n plain l _ fun c hc=> ?_
   rcases Yru.1 hc with hc | hc
   ·exact h c hc
   ·exact Y5h _ _ _ _ c hc
  ·split
   ·exact YQ7 n plain l _ h
   ·exact YQ7 n plain l _ h
theorem Yqh (l:List Int) (plain:Nat):∀ (f:Nat) (n:Int) (x:EncS),(∀ c∈x.out,okI c)->∀ c∈Yy2 l plain f n x,okI c
 | 0,_,x,h=> h
 | f+1,n,x,h=> by
  unfold Yy2
  split
  ·exact h
  ·exact Yqh l plain f _ _ (YQ7 _ _ _ _ h)
theorem Ycq (l:List Int) (h:∀ r∈l,r < 128->okI r):∀ c∈YT1 l,okI c:=by
 have hs:∀ c∈Ys l,okI c:=by
  intro c hc
  obtain ⟨h1,h2⟩:=List.mem_filter.1 hc
  exact h c h1 (of_decide_eq_true h2)
 unfold YT1
 apply Yqh
 intro c hc
 dsimp only at hc
 split at hc
 ·exact hs c hc
 ·rcases Yru.1 hc with hc | hc
  ·exact hs c hc
  ·rw [YEu.1 hc]; decide
theorem Y9s (plain:Nat) (l:List Int) (hl:l.length<=65536) (hr:∀ r∈l,0<=r/\r < 1114112) (f:Nat):∀ (n:Int) (x:EncS),x.told=l.countP (fun r=> decide (r < n))->Fine x->x.out.length<=65537+14*x.told->0<=n->n<=1114112->
  (Yy2 l plain f n x).length<=65537+14*l.length:=by
 have cle:∀ n:Int,l.countP (fun r=> decide (r < n))<=l.length:=fun n=> List.countP_le_length
 induction f with
 | zero=>
  intro n x h2 _ ho _ _
  have:=cle n
  show x.out.length<=_
  omega
 | succ f ih=>
  intro n x h2 hf ho hn0 hn1
  have hc:=cle n
  unfold Yy2
  by_cases c:l.length<=x.told
  ·rw [Ybu c]; omega
  ·rw [Yau c]
   obtain ⟨m1,m2,m3,m4,m5⟩:=YSa l n (fun r h=> (hr r h).2) (by omega)
   generalize YJ n 1114112 l=m at m1 m2 m3 m4 m5 ⊢
   have hp:=Yn4 (a:=m - n) (b:=((x.told+1:Nat):Int)) (A:=1114112) (B:=65537) (by omega) (by omega) (by omega) (by omega)
   have hdx:=hf.1
   obtain ⟨f1,f2,f3,f4⟩:=Y15 m plain l ⟨x.told,x.bias,x.delta+(m - n)*((x.told+1:Nat):Int),x.out⟩ ⟨by dsimp only; omega,hf.2⟩
   have ft:=Y25 m plain l ⟨x.told,x.bias,x.delta+(m - n)*((x.told+1:Nat):Int),x.out⟩
   generalize YO m plain l ⟨x.told,x.bias,x.delta+(m - n)*((x.told+1:Nat):Int),x.out⟩=y at f1 f2 f3 f4 ft ⊢
   dsimp only at f4 ft
   have hd1:=f1.1
   exact ih (m+1) ⟨y.told,y.bias,y.delta+1,y.out⟩ (by dsimp only; omega) ⟨by dsimp only; omega,f1.2⟩ (by dsimp only; omega) (by omega) (by omega)
theorem Ygg (l:List Int) (hl:l.length<=65536) (hr:∀ r∈l,0<=r/\r < 1114112):(YT1 l).length<=1048576:=by
 have hsl:(Ys l).length<=l.length:=by rw [Yq5]; exact List.countP_le_length
 have:=Y9s (Ys l).length l hl hr l.length 128 ⟨(Ys l).length,72,0,if (Ys l).length=0 then Ys l else Ys l++[45]⟩ (Yq5 l) ⟨by dsimp only; omega,by dsimp only; omega⟩ (by dsimp only; split; omega; rw [Yfu]; simp only [Yeu,Yju]; omega) (by omega) (by omega)
 unfold YT1; omega
theorem Ybq (out:List Int):((YM2 out).2≠0/\(YM2 out).1=[])\/YM2 out=(Ym out,0):=by
 unfold YM2; split
 ·exact .inl ⟨by simp,rfl⟩
 ·exact .inr rfl
theorem Yn6 (s:List UInt8):((Yb1 s).2≠0/\(Yb1 s).1=[])\/(Yb1 s=(Ym (YT1 (Yq s)),0)/\(YO1 s).1=true/\s.length<=65536):=by
 unfold Yb1
 split
 ·exact .inl ⟨by simp,rfl⟩
 ·rename_i hv
  split
  ·exact .inl ⟨by simp,rfl⟩
  ·rename_i hl
   rcases Ybq (YT1 (Yq s)) with h | h
   ·exact .inl h
   ·exact .inr ⟨h,by simpa using hv,by omega⟩
theorem YCt {l:List Int} (h:∀ c∈l,okI c):∀ b∈Ym l,okI (Y8 b):=by
 intro b hb
 unfold Ym at hb
 obtain ⟨c,hc,rfl⟩:=List.mem_map.1 hb
 have:=h c hc
 rw [YH1 this.1 (by have:=this.2.1; omega)]; exact this
theorem Y5j (s:List UInt8) (h:∀ r∈Yq s,r < 128->okI r):∀ b∈(Yb1 s).1,okI (Y8 b):=by
 rcases Yn6 s with ⟨_,e⟩ | ⟨e,_⟩
 ·rw [e]; intro b hb; cases hb
 ·rw [e]; exact YCt (Ycq _ h)
theorem YQ8 (s:List UInt8):(Yb1 s).1.length<=1048576:=by
 rcases Yn6 s with ⟨_,e⟩ | ⟨e,_,hl⟩
 ·rw [e]; simp
 ·rw [e]
  have h1:=YH3 s
  have:=Ygg (Yq s) (by omega) (fun r h=> YC2 (Yb6 s r h))
  simp only [Ym,List.length_map]; exact this
def xn:List UInt8:=[120,110,45,45]
def Yr (s:List UInt8):List UInt8×Int:=if (Yb1 s).2≠0 then ([],(Yb1 s).2) else if Yc1 s=true then (s,0) else (xn++(Yb1 s).1,0)
theorem bne0 {x:Int}:(x !=0)=decide (x≠0):=by
 by_cases h:x=0
 ·rw [h]; rfl
 ·rw [Y5u h]; exact bne_iff_ne.2 h
theorem YSe (s:List UInt8):YO6 s=some (Yr s):=by
 have hl:=YQ8 s
 rw [YAn,Yrj,Yzn,Y9u,bne0]
 unfold Yr
 by_cases a:(Yb1 s).2≠0
 ·rw [Y5u a,Y7u,Ybu a]
 ·rw [Y6u a,Y8u,Yau a,YVe,Y9u]
  cases Yc1 s with
  | true=> rw [Y7u,Ybu rfl]
  | false=>
   rw [Y8u,Yau (by simp),show decide (([120,110,45,45]:List UInt8).length+(Yb1 s).1.length<=2 ^ 62)=true from Y5u (by simp only [Yeu,Yju]; omega),Y7u]; rfl
theorem Yo6 (s:List UInt8):(Yr s).1.length<=1048580:=by
 have hl:=YQ8 s
 unfold Yr
 split
 ·simp
 ·rename_i h
  split
  ·rcases Yn6 s with ⟨h1,_⟩ | ⟨_,_,h2⟩
   ·exact absurd h1 h
   ·dsimp only; omega
  ·simp only [xn,Yfu,Yeu,Yju]; omega
theorem YXp (P:Int->Prop) (hP:∀ r,128<=r->P r) (s:List UInt8) (hsl:s.length<=1073741824) (plain:Nat) (f:Nat):∀ (at':Nat) (i n bias:Int) (l:List Int),at'<=s.length->0<=i->i<=2147483647->128<=n->n<=1114111->0<=bias/\bias<=4096->l.length<=at'->YQ l->(∀ r∈l,P r)->
  ((decV s plain f at' i n bias l).2.1≠0/\(decV s plain f at' i n bias l).1=[])\/((decV s plain f at' i n bias l).2.1=0/\∃ l',(decV s plain f at' i n bias l).1=Yb l'/\YQ l'/\(∀ r∈l',P r)/\l'.length<=s.length):=by
 induction f with
 | zero=>
  intro at' i n bias l hat _ _ _ _ _ hl hs hp
  exact .inr ⟨rfl,l,YA8 l hs,hs,hp,by omega⟩
 | succ f ih=>
  intro at' i n bias l hat hi0 hi1 hn0 hn1 hb hl hs hp
  unfold decV
  by_cases c:s.length<=at'
  ·rw [Ybu c]; exact .inr ⟨rfl,l,YA8 l hs,hs,hp,by omega⟩
  ·rw [Yau c]
   have hfacts:=YVa s bias at' (s.length - at') at' i 1 36 hi0 (by omega) (by omega)
   generalize numV s bias at' (s.length - at') at' i 1 36=y at hfacts ⊢
   by_cases e:y.2.2.1=0
   ·obtain ⟨h1,h2,m,h3,h4,h5⟩:=hfacts e
    have q0:0<=y.1 / ((l.length+1:Nat):Int):=Int.ediv_nonneg (by omega) (by omega)
    have r0:0<=y.1 % ((l.length+1:Nat):Int):=Int.emod_nonneg _ (by omega)
    have r1:y.1 % ((l.length+1:Nat):Int) < ((l.length+1:Nat):Int):=Int.emod_lt_of_pos _ (by omega)
    have hb':=YX3 (y.1 - i) ((l.length+1:Nat):Int) (((l.length:Nat):Int)==((plain:Nat):Int)) (by omega) (by omega)
    rw [Yau (fun h=> h e)]
    by_cases g:1114111 < n+y.1 / ((l.length+1:Nat):Int)\/(55296<=n+y.1 / ((l.length+1:Nat):Int)/\n+y.1 / ((l.length+1:Nat):Int)<=57343)
    ·rw [Ybu g]; exact .inl ⟨by simp,rfl⟩
    ·rw [Yau g,h3,Ydu]
     generalize y.1 / ((l.length+1:Nat):Int)=Q at q0 g ⊢
     generalize y.1 % ((l.length+1:Nat):Int)=M at r0 r1 ⊢
     generalize Yh1 (y.1 - i) ((l.length+1:Nat):Int) (((l.length:Nat):Int)==((plain:Nat):Int))=B at hb' ⊢
     have mem:∀ r∈ins l M.toNat (n+Q),r∈l\/r=n+Q:=by
      intro r hr
      unfold ins at hr
      rcases Yru.1 hr with hr | hr
      ·rcases Yru.1 hr with hr | hr
       ·exact .inl (List.mem_of_mem_take hr)
       ·exact .inr (YEu.1 hr)
      ·exact .inl (List.mem_of_mem_drop hr)
     refine ih m (M+1) (n+Q) B _ h5 (by omega) (by omega) (by omega) (by omega) hb' ?_ ?_ ?_
     ·rw [YGa _ _ _ (by omega)]; omega
     ·intro r hr
      rcases mem r hr with hr | rfl
      ·exact hs r hr
      ·exact Y5u (by omega)
     ·intro r hr
      rcases mem r hr with hr | rfl
      ·exact hp r hr
      ·exact hP _ (by omega)
   ·rw [Ybu e]; exact .inl ⟨e,rfl⟩
end Go.Abs
namespace Go.Abs
theorem YBg (s:List UInt8):∀ (n k:Nat),YU1 s n k=none->∀ j,k<=j->j < k+n->bat s j<=127
 | 0,k,_,j,h1,h2=> by omega
 | n+1,k,h,j,h1,h2=> by
  unfold YU1 at h
  split at h
  ·cases h
  ·by_cases e:j=k
   ·subst e; omega
   ·exact YBg s n (k+1) h j (by omega) (by omega)
theorem YRq (s:List UInt8) (h:YU1 s s.length 0=none):∀ b∈s,Y8 b < 128:=by
 intro b hb
 obtain ⟨j,hj,rfl⟩:=List.mem_iff_getElem.1 hb
 have:=YBg s s.length 0 h j (by omega) (by omega)
 have:=(Yx1 s j hj).2
 omega
theorem Y2q (P:Int->Prop) (hP:∀ r,128<=r->P r) (s:List UInt8) (hsl:s.length<=1073741824) (hp:∀ b∈s,P (Y8 b)):
  ((Yo1 s).2.1≠0/\(Yo1 s).1=[])\/((Yo1 s).2.1=0/\∃ l,(Yo1 s).1=Yb l/\YQ l/\(∀ r∈l,P r)/\l.length<=s.length):=by
 unfold Yo1
 cases hh:YU1 s s.length 0 with
 | some k=> exact .inl ⟨by simp,rfl⟩
 | none=>
  have hb:=YRq s hh
  have hl:=YV7 s s.length
  have hb2:∀ b∈s.take (Yp s s.length).toNat,Y8 b < 128:=fun b h=> hb b (List.mem_of_mem_take h)
  have e:=Yn5 _ hb2
  dsimp only
  refine YXp P hP s hsl _ s.length (Yp s s.length+1).toNat 0 128 72 _ (by omega) (by omega) (by omega) (by omega) (by omega) (by omega) ?_ ?_ ?_
  ·rw [e,List.length_map,Ypu]; omega
  ·exact Ys8 _
  ·rw [e]
   intro r hr
   obtain ⟨b,h1,rfl⟩:=List.mem_map.1 hr
   exact hp b (List.mem_of_mem_take h1)
theorem YWi (P:Int->Prop) (hP:∀ r,128<=r->P r) (s:List UInt8) (hp:∀ b∈s,P (Y8 b)):
  ((YT s).2.1≠0/\(YT s).1=[])\/((YT s).2.1=0/\s.length<=65536/\∃ l,(YT s).1=Yb l/\YQ l/\(∀ r∈l,P r)/\l.length<=s.length):=by
 unfold YT
 split
 ·exact .inl ⟨by simp,rfl⟩
 ·rcases Y2q P hP s (by omega) hp with h | ⟨h1,h2⟩
  ·exact .inl h
  ·exact .inr ⟨h1,by omega,h2⟩
theorem Y8c (s:List UInt8):(YT s).1.length<=262144/\(YT s).1.length<=4*s.length:=by
 rcases YWi (fun _=> True) (fun _ _=> trivial) s (fun _ _=> trivial) with ⟨_,h⟩ | ⟨_,h0,l,h1,_,_,h2⟩
 ·rw [h]; simp
 ·rw [h1]
  have:=YVb l
  omega
def YL (s:List UInt8):List UInt8×Int:=
 if s.length < 4 then (s,0) else if lowS (s.take 4)≠xn then (s,0)
 else if (YT (s.drop 4)).2.1≠0 then ([],(YT (s.drop 4)).2.1)
 else if (Yr (YT (s.drop 4)).1).2≠0 then ([],31)
 else if Yc1 (YT (s.drop 4)).1=true then ([],31)
 else if lowS (Yr (YT (s.drop 4)).1).1≠lowS s then ([],31)
 else ((YT (s.drop 4)).1,0)
theorem Ygn (a b:List UInt8) (ha:a.length<=1073741824) (hb:b.length<=1073741824):Yv9 (a,b)=some (lowS a==lowS b):=by
 rw [Yfn,Y4k]
 simp only
 rw [YF4 a ha,Y9u,YF4 b hb,Y9u]; rfl
theorem YCn (s:List UInt8) (hs:s.length<=1073741824):YB5 s=some (YL s):=by
 rw [YBn,Y5l]
 unfold YL
 by_cases a:s.length < 4
 ·rw [show decide ((s.length:Int) < 4)=true from Y5u (by omega),Y7u,Ybu a]
 ·rw [show decide ((s.length:Int) < 4)=false from Y6u (by omega),Y8u,Yau a,show Yi none (some (4:Int)) s.length=true from by simp [Yi]; omega,Y7u,
   show Yl none (some (4:Int)) s=s.take 4 from rfl,YF4 _ (by rw [Ypu]; omega),Y9u,show (List.map lowB (List.take 4 s))=lowS (s.take 4) from rfl]
  by_cases b:lowS (s.take 4)=xn
  ·rw [show (!(lowS (s.take 4)==([120,110,45,45]:List UInt8)))=false from by rw [b]; rfl,Y8u,Yau (fun h=> h b),show Yi (some (4:Int)) none s.length=true from Yd1 (f:=4) (by omega),Y7u,
    show Yl (some (4:Int)) none s=s.drop 4 from rfl,Yxn _ (by rw [Yqu]; omega),Y9u,bne0]
   by_cases c:(YT (s.drop 4)).2.1≠0
   ·rw [Y5u c,Y7u,Ybu c]
   ·rw [Y6u c,Y8u,Yau c,YSe,Y9u,bne0]
    by_cases d:(Yr (YT (s.drop 4)).1).2≠0
    ·rw [Y5u d,Y7u,Ybu d]
    ·have:=Yo6 (YT (s.drop 4)).1
     rw [Y6u d,Y8u,Yau d,YVe,Y9u]
     cases Yc1 (YT (s.drop 4)).1 with
     | true=> rw [Y7u,Ybu rfl]
     | false=>
      rw [Y8u,Yau (by simp),Ygn _ _ (by omega) hs,Y9u]
      by_cases e:lowS (Yr (YT (s.drop 4)).1).1=lowS s
      ·rw [e,Yau (fun h=> h rfl),show (!(lowS s==lowS s))=false from by simp,Y8u]
      ·rw [Ybu e,show (!(lowS (Yr (YT (s.drop 4)).1).1==lowS s))=true from by simp [e],Y7u]
  ·rw [show (!(lowS (s.take 4)==([120,110,45,45]:List UInt8)))=true from by simp only [Bool.not_eq_true',Yhu]; exact b,Y7u,Ybu b]
theorem Ybj (s:List UInt8):(YL s).1.length<=4*s.length:=by
 have:=Y8c (s.drop 4)
 rw [Yqu] at this
 unfold YL
 repeat' split
 all_goals simp only [Yju]
 all_goals omega
def isXn (s:List UInt8):Bool:=decide (4<=s.length)&&(s.take 4==xn)
def YB1 (t:List UInt8) (last:Bool):List UInt8×Int:=
 if 63 < t.length then ([],53) else if t=[]/\last=false then ([],53)
 else if isXn t=true then (if (YL t).2≠0 then ([],53) else if has (YL t).1 65533=true then ([],53) else if YP4 (YL t).1=true then ([],53) else (t,0))
 else (t,0)
def YG (s:List UInt8) (last:Bool):List UInt8×Int:=
 if Yc1 (lowS s)=false/\has (lowS s) 65533=false then (if (Yr (lowS s)).2≠0 then ([],53) else YB1 (Yr (lowS s)).1 last)
 else if has (lowS s) 65533=true then ([],53) else YB1 (lowS s) last
theorem Yjr (t:List UInt8) (ht:t.length<=1073741824):((YJ4 (t,([(120:UInt8),(110:UInt8),(45:UInt8),(45:UInt8)]:List UInt8))).bind fun y0=>
      bif y0 then
       (YB5 t).bind fun y1=>
        bif (y1.2 !=(0:Int)) then
         some (([]:List UInt8),(53:Int))
        else
         (YD4 (y1.1,(65533:Int))).bind fun y2=>
          bif y2 then
           some (([]:List UInt8),(53:Int))
          else
           (YN5 (y1.1,())).bind fun y3=>
            bif (decide (y3>=(0:Int))) then
             some (([]:List UInt8),(53:Int))
            else
             some (t,(0:Int))
      else
       some (t,(0:Int)))=some (if isXn t=true then (if (YL t).2≠0 then ([],53) else if has (YL t).1 65533=true then ([],53) else if YP4 (YL t).1=true then ([],53) else (t,0))
 else (t,0)):=by
 rw [Ysf t _ ht (by simp),Y9u,show (decide (([(120:UInt8),(110:UInt8),(45:UInt8),(45:UInt8)]:List UInt8).length<=t.length)&&(t.take ([(120:UInt8),(110:UInt8),(45:UInt8),(45:UInt8)]:List UInt8).length==[(120:UInt8),(110:UInt8),(45:UInt8),(45:UInt8)]))=isXn t from rfl]
 cases isXn t with
 | false=> rfl
 | true=>
  rw [Y7u,Ybu rfl,YCn t ht,Y9u,bne0]
  by_cases c:(YL t).2≠0
  ·rw [Y5u c,Y7u,Ybu c]
  ·rw [Y6u c,Y8u,Yau c,Yve,Y9u]
   cases has (YL t).1 65533 with
   | true=> rw [Y7u,Ybu rfl]
   | false=>
    obtain ⟨y,h1,h2⟩:=Ysm (YL t).1
    rw [Y8u,Yau (by simp),h1,Y9u,h2]
    cases YP4 (YL t).1 with
    | true=> rw [Y7u,Ybu rfl]
    | false=> rw [Y8u,Yau (by simp)]
theorem Y0h (t:List UInt8) (last:Bool) (ht:t.length<=1073741824):Zl4 t last false=some (YB1 t last):=by
 rw [Y29,Y8u]
 unfold YB1
 by_cases a:63 < t.length
 ·rw [show decide ((t.length:Int) > 63)=true from Y5u (by omega),Y7u,Ybu a]
 ·rw [show decide ((t.length:Int) > 63)=false from Y6u (by omega),Y8u,Yau a,Yjr t ht]
  cases t with
  | nil=>
   rw [show (([]:List UInt8)==[])=true from rfl,Y7u]
   cases last with
   | false=> rw [Ywu,Y7u,Ybu ⟨rfl,rfl⟩]
   | true=> rw [Yvu,Y8u,Yau (show ¬(([]:List UInt8)=[]/\true=false) from fun h=> by cases h.2)]
  | cons b t=> rw [show ((b::t)==[])=false from rfl,Y8u,Yau (show ¬(b::t=[]/\last=false) from fun h=> by cases h.1)]
theorem YRm (s:List UInt8) (last:Bool) (hs:s.length<=1073741824):Yy5 (s,last)=some (YG s last):=by
 have h1:=YX7 s
 have h2:=Yo6 (lowS s)
 rw [YQm,YSk]
 simp only
 rw [YF4 s hs,Y9u,show List.map lowB s=lowS s from rfl,Yve,Y9u,YJm,Y9u,YSe,Y9u,bne0]
 unfold YG
 cases Yc1 (lowS s) with
 | true=>
  rw [Yvu,Y8u,Yau (fun h=> by cases h.1)]
  cases has (lowS s) 65533 with
  | true=> rw [Ybu rfl,Y29,Y7u]
  | false=> rw [Yau (by simp),Y0h _ _ (by omega)]
 | false=>
  rw [Ywu,Y7u]
  cases has (lowS s) 65533 with
  | true=> rw [Yvu,Y8u,Yau (fun h=> by cases h.2),Ybu rfl,Y29,Y7u]
  | false=>
   rw [Ywu,Y7u,Ybu ⟨rfl,rfl⟩]
   by_cases c:(Yr (lowS s)).2≠0
   ·rw [Y5u c,Y7u,Ybu c]
   ·rw [Y6u c,Y8u,Yau c,Y0h _ _ (by omega)]
end Go.Abs
