/- Part M1 of the proof: see the last text of the claim. No condition of its own. -/
import Derived.Test.YtddagflhafkbnaaGreatDoorL5
import Derived.Test.YtddagflhafkbnaaGreatDoorQ2
set_option linter.all false
set_option autoImplicit false
namespace Go.Abs
theorem YN9 (k bias:Int) (h1:0<=k/\k<=1099511627776) (h2:0<=bias/\bias<=4096):Y87 (k,bias)=some (thr k bias):=by
 rw [Ymo,Yej]
 simp only
 rw [w64 (x:=bias+26) (by omega) (by omega),w64 (x:=k - bias) (by omega) (by omega)]
 unfold thr
 by_cases a:k<=bias
 ·rw [Y5u a,Y7u,Ybu a]
 ·rw [Y6u a,Y8u,Yau a]
  by_cases b:bias+26<=k
  ·rw [show decide (k>=bias+26)=true from Y5u b,Y7u,Ybu b]
  ·rw [show decide (k>=bias+26)=false from Y6u b,Y8u,Yau b]
theorem YWh (pts:Int) (fst:Bool) (d k:Int) (hd:0<=d) (hn:d<=455) (hk:0<=k) (hk2:k<=100000):Z34 d pts fst k=some (k+36*d / (d+38)):=by
 have h:=YSh d hd
 rw [Yvc,show decide (d > 455)=false from Y6u (by omega),Y8u,w64 (x:=d+38) (by omega) (by omega),show (d+38 !=0)=true from bne_iff_ne.2 (by omega),Y7u,w64 (x:=36*d) (by omega) (by omega),YDu (by omega),w64 (x:=36*d / (d+38)) (by omega) (by omega),w64 (by omega) (by omega)]
theorem Yus (pts:Int) (fst:Bool) (d k:Int) (hd:455 < d) (hd2:d<=9223372036854775807) (hk:0<=k) (hk2:k<=100000):Z34 d pts fst k=Z34 (d / 35) pts fst (k+36):=by
 rw [Yvc,show decide (d > 455)=true from Y5u hd,Y7u,YDu (by omega),w64 (x:=d / 35) (by omega) (by omega),w64 (x:=k+36) (by omega) (by omega)]
theorem Yvs (pts:Int) (fst:Bool) (n:Nat):∀ (d k:Int),0<=d->d<=lid n->d<=9223372036854775807->0<=k->k+36*(n:Int)<=100000->Z34 d pts fst k=some (YQ1 n d k):=by
 induction n with
 | zero=> intro d k hd hn _ hk hk2; exact YWh pts fst d k hd hn hk (by omega)
 | succ n ih=>
  intro d k hd hn hb hk hk2
  unfold YQ1
  unfold lid at hn
  by_cases c:455 < d
  ·rw [Ybu c,Yus pts fst d k c hb hk (by omega)]
   exact ih (d / 35) (k+36) (by omega) (by omega) (by omega) (by omega) (by omega)
  ·rw [Yau c]; exact YWh pts fst d k hd (by omega) hk (by omega)
theorem Yaf (delta points:Int) (first:Bool) (h0:0<=delta) (h1:delta<=1099511627776) (hp:1<=points) (hp2:points<=1099511627776):Y47 (delta,points,first)=some (Yh1 delta points first):=by
 have key:∀ d:Int,0<=d->d<=1099511627776->Z24 d points first=some (YQ1 11 (d+d / points) 0):=by
  intro d a b
  have q0:0<=d / points:=Int.ediv_nonneg a (by omega)
  have q1:d / points<=d:=Int.ediv_le_self _ a
  have:=Y9h
  rw [Yqj,show (points !=0)=true from bne_iff_ne.2 (by omega),Y7u,YDu a,w64 (x:=d / points) (by omega) (by omega),w64 (x:=d+d / points) (by omega) (by omega)]
  exact Yvs points first 11 _ 0 (by omega) (by omega) (by omega) (by omega) (by omega)
 rw [Ygo,Yjj]
 simp only
 unfold Yh1
 cases first with
 | true=>
  rw [Y7u,YDu h0,w64 (x:=delta / 700) (by omega) (by omega),key _ (by omega) (by omega)]; rfl
 | false=>
  rw [Y8u,YDu h0,w64 (x:=delta / 2) (by omega) (by omega),key _ (by omega) (by omega)]; rfl
theorem Yoo (b:Int) (h0:0<=b) (h1:b<=255):YO9 b=some (dval b):=by
 rw [Yno,YYl]
 unfold dval
 have hc:b < 48\/(48<=b/\b<=57)\/(58<=b/\b<=64)\/(65<=b/\b<=90)\/(91<=b/\b<=96)\/(97<=b/\b<=122)\/123<=b:=by omega
 rcases hc with h | h | h | h | h | h | h
 ·rw [show decide (b>=97)=false from Y6u (by omega),show decide (b>=65)=false from Y6u (by omega),show decide (b>=48)=false from Y6u (by omega),Y8u,Y8u,Y8u,Yau (by omega),Yau (by omega),Yau (by omega)]
 ·rw [show decide (b>=97)=false from Y6u (by omega),show decide (b>=65)=false from Y6u (by omega),show decide (b>=48)=true from Y5u (by omega),show decide (b<=57)=true from Y5u (by omega),Y8u,Y8u,Y7u,Y7u,Yau (by omega),Yau (by omega),Ybu (by omega),w8 (x:=b - 48) (by omega) (by omega),w64 (x:=b - 48) (by omega) (by omega),w64 (by omega) (by omega)]
  congr 1; omega
 ·rw [show decide (b>=97)=false from Y6u (by omega),show decide (b>=65)=false from Y6u (by omega),show decide (b>=48)=true from Y5u (by omega),show decide (b<=57)=false from Y6u (by omega),Y8u,Y8u,Y7u,Y8u,Yau (by omega),Yau (by omega),Yau (by omega)]
 ·rw [show decide (b>=97)=false from Y6u (by omega),show decide (b>=65)=true from Y5u (by omega),show decide (b<=90)=true from Y5u (by omega),Y8u,Y7u,Y7u,Yau (by omega),Ybu (by omega),w8 (x:=b - 65) (by omega) (by omega),w64 (x:=b - 65) (by omega) (by omega)]
 ·rw [show decide (b>=97)=false from Y6u (by omega),show decide (b>=65)=true from Y5u (by omega),show decide (b<=90)=false from Y6u (by omega),show decide (b>=48)=true from Y5u (by omega),show decide (b<=57)=false from Y6u (by omega),Y8u,Y7u,Y8u,Y7u,Y8u,Yau (by omega),Yau (by omega),Yau (by omega)]
 ·rw [show decide (b>=97)=true from Y5u (by omega),show decide (b<=122)=true from Y5u (by omega),Y7u,Y7u,Ybu (by omega),w8 (x:=b - 97) (by omega) (by omega),w64 (x:=b - 97) (by omega) (by omega)]
 ·rw [show decide (b>=97)=true from Y5u (by omega),show decide (b<=122)=false from Y6u (by omega),show decide (b>=65)=true from Y5u (by omega),show decide (b<=90)=false from Y6u (by omega),show decide (b>=48)=true from Y5u (by omega),show decide (b<=57)=false from Y6u (by omega),Y7u,Y8u,Y7u,Y8u,Y7u,Y8u,Yau (by omega),Yau (by omega),Yau (by omega)]
theorem Ybc (l:List Int) (hl:l.length<=200000000) (hs:YQ l):∀ (n i:Nat) (r:List Int),i+n=l.length->r.length<=4*i->Z73 l (i:Int) r=some (Ym (r++YN1 (l.drop i)))
 | 0,i,r,h,hr=> by
  have:i=l.length:=by omega
  subst this
  rw [YFc,Yg,Y6u (Yxu _),Y8u,List.drop_length]; simp [YN1]
 | n+1,i,r,h,hr=> by
  have hi:i < l.length:=by omega
  have hw:IntKind.i64.wrap ((i:Int)+1)=((i+1:Nat):Int):=by rw [w64 (by omega) (by omega)]; omega
  have hg:List.getD l (Int.toNat (i:Int)) (Ty.zero (.int .i32))=l[i]:=by
   rw [Ydu,Ymu,Ynu hi]; rfl
  have hsc:=hs _ (List.getElem_mem hi)
  have hr2:=YC2 hsc
  have hb:=YZ3 l[i]
  rw [YFc,Yg,Y5u hi,Y7u,Yj,Y5u hi,Y7u,hg,YY6,hsc,Y9u,Yvu,Y8u,YYj,YV6 _ hr2.1 (by omega),Y9u,
   show decide (r.length+(Yu l[i]).length<=lim)=true from Y5u (by simp only [lim]; omega),Y7u,hw,Ybc l hl hs n (i+1) _ (by omega) (by rw [Yfu]; omega),Yiu hi]
  simp only [YN1,List.flatMap_cons,Ygu]
theorem Ykc (l:List Int) (hl:l.length<=200000000) (hs:YQ l):∀ (n i:Nat),i+n=l.length->Zj2 l (i:Int)=some (Yb l,(0,0))
 | 0,i,h=> by
  have:i=l.length:=by omega
  subst this
  have:=Ybc l hl hs l.length 0 [] (by omega) (by simp)
  rw [show ((0:Nat):Int)=0 from rfl,List.drop_zero,Yzu] at this
  rw [Ydd,Yg,Y6u (Yxu _),Y8u,YVn,YLj,this]; rfl
 | n+1,i,h=> by
  have hi:i < l.length:=by omega
  have hw:IntKind.i64.wrap ((i:Int)+1)=((i+1:Nat):Int):=by rw [w64 (by omega) (by omega)]; omega
  have hg:List.getD l (Int.toNat (i:Int)) (Ty.zero (.int .i32))=l[i]:=by
   rw [Ydu,Ymu,Ynu hi]; rfl
  rw [Ydd,Yg,Y5u hi,Y7u,Yj,Y5u hi,Y7u,hg,YY6,hs _ (List.getElem_mem hi),Y9u,Yvu,Y8u,hw,Ykc l hl hs n (i+1) (by omega)]
theorem YH9 (l:List Int) (hl:l.length<=200000000) (hs:YQ l):YW2 l=some (Yb l,(0,0)):=by
 rw [Y0o,YIk]
 exact Ykc l hl hs l.length 0 (by omega)
noncomputable def Ye4 (s:List UInt8) (plain:Nat) (N bias was:Int) (fr:Nat) (l:List Int) (y:Int×(Int×(Int×Int))):Option (List UInt8×(Int×Int)):=
 if y.2.2.1≠0 then some ([],(y.2.2.1,y.2.2.2))
 else if 1114111 < N+y.1 / ((l.length+1:Nat):Int)\/(55296<=N+y.1 / ((l.length+1:Nat):Int)/\N+y.1 / ((l.length+1:Nat):Int)<=57343) then some ([],(32,(fr:Int)))
 else Ze3 s y.2.1 (plain:Int) (N+y.1 / ((l.length+1:Nat):Int)) (y.1 % ((l.length+1:Nat):Int)+1) (Yh1 (y.1 - was) ((l.length+1:Nat):Int) (((l.length:Nat):Int)==((plain:Nat):Int))) (ins l (y.1 % ((l.length+1:Nat):Int)).toNat (N+y.1 / ((l.length+1:Nat):Int)))
theorem YIs (s:List UInt8) (plain:Nat) (N bias was:Int) (fr:Nat) (l:List Int) (hs:s.length<=200000000) (hb:0<=bias/\bias<=4096) (hN:128<=N/\N<=1114111) (hwas:0<=was) (hl:l.length<=s.length) (n:Nat):∀ (at':Nat) (i w k:Int),at'+n=s.length->was<=i->i<=2147483647->1<=w->w<=2147483647->0<=k->k+36*(n:Int)<=1099511627776->
  Zf3 s (at':Int) (plain:Int) N i bias (fr:Int) was w k l=Ye4 s plain N bias was fr l (numV s bias fr n at' i w k):=by
 induction n with
 | zero=>
  intro at' i w k hat _ _ _ _ _ _
  have:at'=s.length:=by omega
  subst this
  rw [Y4d,show decide (((s.length:Nat):Int)>=(s.length:Int))=true from Y5u (Int.le_refl _),Y7u]
  unfold Ye4 numV
  rw [Ybu (by simp)]
 | succ n ih=>
  intro at' i w k hat hi0 hi1 hw0 hw1 hk0 hk1
  have hlt:at' < s.length:=by omega
  have hby:=Yt s at'
  have hd:=Ydg (bat s at')
  have ht:=YM3 k bias
  have hwat:IntKind.i64.wrap ((at':Int)+1)=((at'+1:Nat):Int):=by rw [w64 (by omega) (by omega)]; omega
  have hpts:IntKind.i64.wrap (((l.length:Nat):Int)+1)=((l.length+1:Nat):Int):=by rw [w64 (by omega) (by omega)]; omega
  rw [Y4d,show decide ((at':Int)>=(s.length:Int))=false from Y6u (by omega),Y8u,Yj,Y5u hlt,Y7u,Ydu,show (((s.getD at' 0).toNat:Nat):Int)=bat s at' from rfl,Yoo _ hby.1 hby.2,Y9u]
  rw [numV]
  by_cases a:dval (bat s at') < 0
  ·rw [Y5u a,Y7u,Ybu a]
   unfold Ye4
   rw [Ybu (by simp)]
  ·have hm:=Yn4 (a:=dval (bat s at')) (b:=w) (A:=35) (B:=2147483647) (by omega) (by omega) hd.2 hw1
   rw [Y6u a,Y8u,Yau a,w64 (x:=dval (bat s at')*w) (by omega) (by omega),w64 (x:=i+dval (bat s at')*w) (by omega) (by omega)]
   by_cases b:2147483647 < i+dval (bat s at')*w
   ·rw [show decide (i+dval (bat s at')*w > 2147483647)=true from Y5u b,Y7u,Ybu b]
    unfold Ye4
    rw [Ybu (by simp)]
   ·rw [show decide (i+dval (bat s at')*w > 2147483647)=false from Y6u b,Y8u,Yau b,YN9 k bias ⟨hk0,by omega⟩ hb,Y9u]
    by_cases c:dval (bat s at') < thr k bias
    ·rw [Y5u c,Y7u,Ybu c,hpts]
     have hI:0<=i+dval (bat s at')*w:=by omega
     have hI2:i+dval (bat s at')*w<=2147483647:=by omega
     have hI3:was<=i+dval (bat s at')*w:=by omega
     unfold Ye4
     rw [Yau (show ¬((0:Int)≠0) from fun h=> h rfl)]
     dsimp only
     generalize i+dval (bat s at')*w=I at hI hI2 hI3 ⊢
     have hb':=YX3 (I - was) ((l.length+1:Nat):Int) (((l.length:Nat):Int)==((plain:Nat):Int)) (by omega) (by omega)
     have q0:0<=I / ((l.length+1:Nat):Int):=Int.ediv_nonneg (by omega) (by omega)
     have q1:I / ((l.length+1:Nat):Int)<=I:=Int.ediv_le_self _ (by omega)
     have r0:0<=I % ((l.length+1:Nat):Int):=Int.emod_nonneg _ (by omega)
     have r1:I % ((l.length+1:Nat):Int) < ((l.length+1:Nat):Int):=Int.emod_lt_of_pos _ (by omega)
     rw [w64 (x:=I - was) (by omega) (by omega),Yaf _ _ _ (by omega) (by omega) (by omega) (by omega),Y9u,show (((l.length+1:Nat):Int) !=0)=true from bne_iff_ne.2 (by omega),Y7u,
      YDu hI,Int.tmod_eq_emod_of_nonneg hI,w64 (x:=I / ((l.length+1:Nat):Int)) (by omega) (by omega),w64 (x:=N+I / ((l.length+1:Nat):Int)) (by omega) (by omega),hwat]
     simp only [Y7u]
     generalize I / ((l.length+1:Nat):Int)=Q at q0 q1 ⊢
     generalize I % ((l.length+1:Nat):Int)=M at r0 r1 ⊢
     generalize Yh1 (I - was) ((l.length+1:Nat):Int) (((l.length:Nat):Int)==((plain:Nat):Int))=B at hb' ⊢
     have hM:((M.toNat:Nat):Int)=M:=Int.toNat_of_nonneg r0
     by_cases g:N+Q > 1114111
     ·rw [Y5u g,Y7u,Ybu (.inl g)]
     ·rw [Y6u g,Y8u,w32 (x:=N+Q) (by omega) (by omega),w64 (x:=M+1) (by omega) (by omega)]
      have c1:Yi (some M) none l.length=true:=by rw [<-hM]; exact Yd1 (by omega)
      have c2:Yi none (some M) l.length=true:=by rw [<-hM]; simp [Yi]; omega
      have l1:(List.take M.toNat l).length=M.toNat:=by rw [Ypu]; omega
      have e1:List.drop (Option.getD (Option.map Int.toNat (some M)) 0) (List.take (Option.getD (Option.map Int.toNat none) l.length) l)=l.drop M.toNat:=by
       show List.drop M.toNat (List.take l.length l)=_
       rw [List.take_length]
      have e2:List.take (Option.getD (Option.map Int.toNat (some M)) l.length) l=l.take M.toNat:=rfl
      have k1:decide ((l.drop M.toNat).length<=lim)=true:=Y5u (by rw [Yqu]; simp only [lim]; omega)
      have k2:decide ((l.take M.toNat).length+[N+Q].length<=lim)=true:=Y5u (by rw [l1]; simp only [lim,Yeu,Yju]; omega)
      have k3:decide ((l.take M.toNat++[N+Q]).length+(l.drop M.toNat).length<=lim)=true:=Y5u (by rw [Yfu,l1,Yqu]; simp only [lim,Yeu,Yju]; omega)
      rw [e1,e2,c1,c2,k1,k2,k3]
      simp only [Y7u]
      by_cases a':N+Q>=55296
      ·rw [Y5u a',Y7u]
       by_cases b':N+Q<=57343
       ·rw [Y5u b',Y7u,Ybu (.inr ⟨a',b'⟩)]
       ·rw [Y6u b',Y8u,Yau (by omega)]; rfl
      ·rw [Y6u a',Y8u,Yau (by omega)]; rfl
    ·have hm2:=Yn4 (a:=w) (b:=36 - thr k bias) (A:=2147483647) (B:=35) (by omega) (by omega) hw1 (by omega)
     have hm3:1<=w*(36 - thr k bias):=Y1b hw0 (by omega)
     rw [Y6u c,Y8u,Yau c,w64 (x:=36 - thr k bias) (by omega) (by omega),w64 (x:=w*(36 - thr k bias)) (by omega) (by omega)]
     by_cases e:2147483647 < w*(36 - thr k bias)
     ·rw [show decide (w*(36 - thr k bias) > 2147483647)=true from Y5u e,Y7u,Ybu e]
      unfold Ye4
      rw [Ybu (by simp)]
     ·rw [show decide (w*(36 - thr k bias) > 2147483647)=false from Y6u e,Y8u,Yau e,hwat,w64 (x:=k+36) (by omega) (by omega)]
      exact ih (at'+1) _ _ _ (by omega) (by omega) (by omega) hm3 (by omega) (by omega) (by omega)
end Go.Abs
namespace Go.Abs
theorem Y1r {l:List Int} {i:Nat} {x:Int} (h:YQ l) (hx:scal x=true):YQ (ins l i x):=by
 intro r hr
 unfold ins at hr
 rcases Yru.1 hr with hr | hr
 ·rcases Yru.1 hr with hr | hr
  ·exact h r (List.mem_of_mem_take hr)
  ·rw [YEu.1 hr]; exact hx
 ·exact h r (List.mem_of_mem_drop hr)
theorem YXh (s:List UInt8) (plain:Nat) (hs:s.length<=200000000) (f:Nat):∀ (at':Nat) (i n bias:Int) (l:List Int),s.length<=at'+f->at'<=s.length->0<=i->i<=2147483647->128<=n->n<=1114111->0<=bias/\bias<=4096->l.length<=at'->YQ l->
  Ze3 s (at':Int) (plain:Int) n i bias l=some (decV s plain f at' i n bias l):=by
 have stop:∀ (l:List Int) (n i bias:Int),l.length<=s.length->YQ l->Ze3 s (s.length:Int) (plain:Int) n i bias l=some (YQ2 l,(0,0)):=by
  intro l n i bias hl hsc
  rw [Y0d,Yg,Y6u (Yxu _),Y8u,YH9 l (by omega) hsc,Y9u,YA8 l hsc]
 induction f with
 | zero=>
  intro at' i n bias l hf hat _ _ _ _ _ hl hsc
  have:at'=s.length:=by omega
  subst this
  exact stop l n i bias hl hsc
 | succ f ih=>
  intro at' i n bias l hf hat hi0 hi1 hn0 hn1 hb hl hsc
  unfold decV
  by_cases c:at' < s.length
  ·rw [Y0d,Yg,Y5u c,Y7u,Yau (by omega),YIs s plain n bias i at' l hs hb ⟨hn0,hn1⟩ hi0 (by omega) (s.length - at') at' i 1 36 (by omega) (Int.le_refl _) hi1 (by omega) (by omega) (by omega) (by omega)]
   have hfacts:=YVa s bias at' (s.length - at') at' i 1 36 hi0 (by omega) (by omega)
   generalize numV s bias at' (s.length - at') at' i 1 36=y at hfacts ⊢
   unfold Ye4
   by_cases e:y.2.2.1=0
   ·obtain ⟨h1,h2,m,h3,h4,h5⟩:=hfacts e
    have q0:0<=y.1 / ((l.length+1:Nat):Int):=Int.ediv_nonneg (by omega) (by omega)
    have r0:0<=y.1 % ((l.length+1:Nat):Int):=Int.emod_nonneg _ (by omega)
    have r1:y.1 % ((l.length+1:Nat):Int) < ((l.length+1:Nat):Int):=Int.emod_lt_of_pos _ (by omega)
    have hb':=YX3 (y.1 - i) ((l.length+1:Nat):Int) (((l.length:Nat):Int)==((plain:Nat):Int)) (by omega) (by omega)
    have e':¬(y.2.2.1≠0):=fun h=> h e
    rw [Yau e',Yau e']
    by_cases g:1114111 < n+y.1 / ((l.length+1:Nat):Int)\/(55296<=n+y.1 / ((l.length+1:Nat):Int)/\n+y.1 / ((l.length+1:Nat):Int)<=57343)
    ·rw [Ybu g,Ybu g]
    ·rw [Yau g,Yau g,h3,Ydu]
     exact ih m _ _ _ _ (by omega) h5 (by omega) (by omega) (by omega) (by omega) hb' (by rw [YGa _ _ _ (by omega)]; omega) (Y1r hsc (Y5u (by omega)))
   ·rw [Ybu e,Ybu e]
  ·have:at'=s.length:=by omega
   subst this
   rw [Ybu (by omega)]
   exact stop l n i bias hl hsc
theorem YUh (s:List UInt8) (hs:s.length<=200000000):∀ n:Nat,n<=s.length->Zc3 s 0 ((n:Int) - 1) []=if Yp s n=-1 then Ze3 s 0 0 128 0 72 [] else Zd3 s (Yp s n) 0 []
 | 0,h=> by
  rw [YRc,show decide (((0:Nat):Int) - 1>=0)=false from rfl,Y8u,Ybu (show Yp s 0=-1 from rfl)]; rfl
 | n+1,h=> by
  have e:((n+1:Nat):Int) - 1=(n:Int):=by omega
  rw [e,YRc,show decide ((n:Int)>=0)=true from Y5u (by omega),Y7u,Yj,Y5u (by omega),Y7u,Ydu,show (((s.getD n 0).toNat:Nat):Int)=bat s n from rfl]
  unfold Yp
  by_cases c:bat s n=45
  ·rw [show (bat s n==45)=true from beq_iff_eq.2 c,Y7u,Ybu c,Yau (by omega)]
  ·rw [show (bat s n==45)=false from Yhu.2 c,Y8u,Yau c,w64 (by omega) (by omega),YUh s hs n (by omega)]
theorem YTh (s:List UInt8) (k:Nat) (hs:s.length<=200000000) (hk:k < s.length):∀ (m i:Nat) (r:List Int),i+m=k->r.length=i->
  Zd3 s (k:Int) (i:Int) r=Ze3 s ((k+1:Nat):Int) (((r++((s.take k).drop i).map Y8).length:Nat):Int) 128 0 72 (r++((s.take k).drop i).map Y8)
 | 0,i,r,h,hr=> by
  have:i=k:=by omega
  subst this
  rw [YXc,Yg,Y6u (Yxu _),Y8u,List.drop_eq_nil_of_le (by rw [Ypu]; omega),List.map_nil,Yyu,w64 (by omega) (by omega)]
  rfl
 | m+1,i,r,h,hr=> by
  have hi:i < k:=by omega
  have hlt:i < (s.take k).length:=by rw [Ypu]; omega
  have hw:IntKind.i64.wrap ((i:Int)+1)=((i+1:Nat):Int):=by rw [w64 (by omega) (by omega)]; omega
  have hb:=Yt s i
  have he:bat s i=Y8 (s.take k)[i]:=by
   rw [List.getElem_take]; exact ((Yx1 s i (by omega)).2).symm
  rw [YXc,Yg,Y5u hi,Y7u,Yj,Y5u (by omega),Y7u,Ydu,show (((s.getD i 0).toNat:Nat):Int)=bat s i from rfl,w32 (by omega) (by omega),
   show decide (r.length+[bat s i].length<=lim)=true from Y5u (by simp only [lim,Yeu,Yju]; omega),Y7u,hw,YTh s k hs hk m (i+1) _ (by omega) (by simp only [Yfu,Yeu,Yju]; omega)]
  rw [Yiu hlt,Ysu,<-he]
  simp only [Ygu,List.singleton_append]
theorem YVh (s:List UInt8) (hs:s.length<=200000000):∀ (n k:Nat),k+n=s.length->(∀ j,j < k->bat s j<=127)->Zb3 s (k:Int)=some (match YU1 s n k with
  | some k=> ([],(31,(k:Int)))
  | none=> decV s (Yq (s.take (Yp s s.length).toNat)).length s.length (Yp s s.length+1).toNat 0 128 72 (Yq (s.take (Yp s s.length).toNat)))
 | 0,k,h,hlow=> by
  have hk:k=s.length:=by omega
  subst hk
  have hl:=YV7 s s.length
  have hbas:∀ b∈s.take (Yp s s.length).toNat,Y8 b < 128:=by
   intro b hb
   obtain ⟨j,hj,rfl⟩:=List.mem_iff_getElem.1 (List.mem_of_mem_take hb)
   have:=hlow j hj
   have:=(Yx1 s j hj).2
   omega
  rw [YOc,Yg,Y6u (Yxu _),Y8u,w64 (by omega) (by omega),YUh s hs s.length (Nat.le_refl _),Yn5 _ hbas]
  unfold YU1
  dsimp only
  by_cases c:Yp s s.length=-1
  ·have h4:=YXh s 0 hs s.length 0 0 128 72 [] (by omega) (by omega) (by omega) (by omega) (by omega) (by omega) (by omega) (by simp) (fun x hx=> by cases hx)
   rw [show ((0:Nat):Int)=0 from rfl] at h4
   rw [Ybu c,h4,c]; rfl
  ·have hn:((Yp s s.length).toNat:Int)=Yp s s.length:=Int.toNat_of_nonneg (by omega)
   have h3:=YTh s (Yp s s.length).toNat hs (by omega) (Yp s s.length).toNat 0 [] (by omega) rfl
   rw [show ((0:Nat):Int)=0 from rfl,Yzu,List.drop_zero,hn] at h3
   rw [Yau c,h3,YXh s _ hs s.length ((Yp s s.length).toNat+1) 0 128 72 _ (by omega) (by omega) (by omega) (by omega) (by omega) (by omega) (by omega) (by rw [List.length_map,Ypu]; omega) (Yd9 hbas)]
   rw [show (Yp s s.length+1).toNat=(Yp s s.length).toNat+1 from by omega]
 | n+1,k,h,hlow=> by
  have hk:k < s.length:=by omega
  have hw:IntKind.i64.wrap ((k:Int)+1)=((k+1:Nat):Int):=by rw [w64 (by omega) (by omega)]; omega
  rw [YOc,Yg,Y5u hk,Y7u,Yj,Y5u hk,Y7u,Ydu,show (((s.getD k 0).toNat:Nat):Int)=bat s k from rfl,hw]
  unfold YU1
  by_cases c:127 < bat s k
  ·rw [show decide (bat s k>=128)=true from Y5u (by omega),Y7u,Ybu c]
  ·rw [show decide (bat s k>=128)=false from Y6u (by omega),Y8u,Yau c]
   refine YVh s hs n (k+1) (by omega) fun j hj=> ?_
   by_cases e:j=k
   ·subst e; omega
   ·exact hlow j (by omega)
theorem Ydf (s:List UInt8) (hs:s.length<=200000000):Y67 s=some (Yo1 s):=by
 rw [Yio,Y8k]
 exact YVh s hs s.length 0 (by omega) (fun j hj=> by omega)
theorem Yao (s:List UInt8) (hs:s.length<=200000000):YJ9 s=some (YT s):=by
 rw [Y9o,Yol]
 unfold YT
 by_cases c:65536 < s.length
 ·rw [show decide ((s.length:Int) > 65536)=true from Y5u (by omega),Y7u,Ybu c]
 ·rw [show decide ((s.length:Int) > 65536)=false from Y6u (by omega),Y8u,Yau c,Ydf s hs]; rfl
theorem Ybf (s:List UInt8) (hs:s.length<=1073741824):∀ (n k:Nat),k+n=s.length->Zt2 s (k:Int)=some (!((s.drop k).any fun b=> decide (127 < Y8 b)))
 | 0,k,h=> by
  have:k=s.length:=by omega
  subst this
  rw [YAd,Yg,Y6u (Yxu _),Y8u,List.drop_length]; rfl
 | n+1,k,h=> by
  have hk:k < s.length:=by omega
  have hw:IntKind.i64.wrap ((k:Int)+1)=((k+1:Nat):Int):=by rw [w64 (by omega) (by omega)]; omega
  have hg:=(Yx1 s k hk).2
  rw [YAd,Yg,Y5u hk,Y7u,Yj,Y5u hk,Y7u,Ydu,show (((s.getD k 0).toNat:Nat):Int)=bat s k from rfl,hw,Yiu hk,List.any_cons,hg,Ybf s hs n (k+1) (by omega)]
  by_cases c:127 < bat s k
  ·rw [show decide (bat s k>=128)=true from Y5u (by omega),Y7u,Y5u c]; rfl
  ·rw [show decide (bat s k>=128)=false from Y6u (by omega),Y8u,Y6u c,Ytu]
theorem Ycf (s:List UInt8) (hs:s.length<=1073741824):Y57 s=some (Yc1 s):=by
 rw [Yho,Yvl]
 exact Ybf s hs s.length 0 (by omega)
theorem Y0i (s:List UInt8) (hs:s.length<=1073741824):∀ (n k:Nat) (r:List Int),k+n=s.length->r.length=k->Zn2 s (k:Int) r=some (Ym r++lowS (s.drop k))
 | 0,k,r,h,hr=> by
  have:k=s.length:=by omega
  subst this
  rw [Ymd,Yg,Y6u (Yxu _),Y8u,List.drop_length]
  show some (Ym r)=some (Ym r++[])
  rw [Yyu]
 | n+1,k,r,h,hr=> by
  have hk:k < s.length:=by omega
  have hw:IntKind.i64.wrap ((k:Int)+1)=((k+1:Nat):Int):=by rw [w64 (by omega) (by omega)]; omega
  have hg:=(Yx1 s k hk).2
  have hb:=Yt s k
  have step:∀ x:Int,x=lowI (bat s k)->Zo2 s (k:Int) x r=some (Ym r++lowS (s.drop k)):=by
   rintro x rfl
   rw [Y9l,show decide (r.length+[lowI (bat s k)].length<=lim)=true from Y5u (by simp only [lim,Yeu,Yju]; omega),Y7u,hw,Y0i s hs n (k+1) _ (by omega) (by simp only [Yfu,Yeu,Yju]; omega),Yiu hk]
   unfold Ym lowS
   rw [List.map_append,Ysu,List.map_nil,Ysu,Ygu,<-hg]; rfl
  rw [Ymd,Yg,Y5u hk,Y7u,Yj,Y5u hk,Y7u,Ydu,show (((s.getD k 0).toNat:Nat):Int)=bat s k from rfl]
  by_cases a:65<=bat s k
  ·rw [show decide (bat s k>=65)=true from Y5u a,Y7u]
   by_cases b:bat s k<=90
   ·rw [Y5u b,Y7u,w8 (by omega) (by omega)]
    exact step _ (by rw [Yt2,Ybu ⟨a,b⟩])
   ·rw [Y6u b,Y8u]
    exact step _ (by rw [Yt2,Yau (fun h=> b h.2)])
  ·rw [show decide (bat s k>=65)=false from Y6u a,Y8u]
   exact step _ (by rw [Yt2,Yau (fun h=> a h.1)])
theorem YD9 (s:List UInt8) (hs:s.length<=1073741824):YE5 s=some (lowS s):=by
 rw [YOn,Y0l]
 exact Y0i s hs s.length 0 [] (by omega) rfl
theorem YYe (a b:List UInt8) (ha:a.length<=1073741824) (hb:b.length<=1073741824):YT6 (a,b)=some (lowS a==lowS b):=by
 rw [YQn,Yil]
 dsimp only
 rw [YD9 a ha,Y9u,YD9 b hb,Y9u]
end Go.Abs
namespace Go.Abs
theorem Yfm:(List.range 36).all (fun n=> azv (n:Int)==(if (n:Int) < 26 then 97+(n:Int) else 22+(n:Int)))=true:=by kernel_rfl
theorem Yef (n:Int) (h0:0<=n) (h1:n < 36):Y77 n=some (azv n):=by
 obtain ⟨m,rfl⟩:=Int.eq_ofNat_of_zero_le h0
 have:=beq_iff_eq.1 (List.all_eq_true.1 Yfm m (List.mem_range.2 (by omega)))
 rw [Yjo,YTj,this]
 by_cases c:(m:Int) < 26
 ·rw [Y5u c,Y7u,Ybu c,w64 (by omega) (by omega),w8 (by omega) (by omega)]
 ·rw [Y6u c,Y8u,Yau c,w64 (x:=48+(m:Int)) (by omega) (by omega),w64 (by omega) (by omega),w8 (by omega) (by omega)]
  congr 1; omega
theorem YHs (l:List Int) (plain told i:Nat) (n bias delta:Int) (hb:0<=bias/\bias<=4096) (hd0:0<=delta) (hd1:delta<=1099511627776) (ht:told<=200000) (hi:i<=200000) (f:Nat):∀ (q k:Int) (r:List Int),0<=q->q<=Y85 f->q<=1099511627776->0<=k->k<=1000000 - 36*(f:Int)->r.length+f<=4294967000->
  Zy3 l (plain:Int) (told:Int) n bias delta (i:Int) q k r=Zw3 l (plain:Int) ((told+1:Nat):Int) n (Yh1 delta ((told+1:Nat):Int) (((told:Nat):Int)==((plain:Nat):Int))) 0 ((i+1:Nat):Int) (r++layV bias (f+1) q k):=by
 have hwt:IntKind.i64.wrap ((told:Int)+1)=((told+1:Nat):Int):=by rw [w64 (by omega) (by omega)]; omega
 have hwi:IntKind.i64.wrap ((i:Int)+1)=((i+1:Nat):Int):=by rw [w64 (by omega) (by omega)]; omega
 have last:∀ (q k:Int) (r:List Int),0<=q->0<=k->k<=1099511627776->r.length<=4294967000->q < thr k bias->Zy3 l (plain:Int) (told:Int) n bias delta (i:Int) q k r=Zw3 l (plain:Int) ((told+1:Nat):Int) n (Yh1 delta ((told+1:Nat):Int) (((told:Nat):Int)==((plain:Nat):Int))) 0 ((i+1:Nat):Int) (r++[azv q]):=by
  intro q k r h0 hk0 hk1 hr hq
  have htr:=YM3 k bias
  rw [YSd,YN9 k bias ⟨hk0,hk1⟩ hb,Y9u,Y5u hq,Y7u,Yef q h0 (by omega),Y9u,
   show decide (r.length+[azv q].length<=lim)=true from Y5u (by simp only [lim,Yeu,Yju]; omega),Y7u,hwt,hwi,Yaf _ _ _ hd0 hd1 (by omega) (by omega),Y9u]
 induction f with
 | zero=>
  intro q k r h0 h1 _ hk0 hk1 hr
  have htr:=YM3 k bias
  have h1:q<=0:=h1
  rw [last q k r h0 hk0 (by omega) (by omega) (by omega)]
  unfold layV
  rw [Ybu (by omega)]
 | succ f ih=>
  intro q k r h0 h1 hb1 hk0 hk1 hr
  have htr:=YM3 k bias
  have h1:q<=10*Y85 f+9:=h1
  rw [layV]
  by_cases c:q < thr k bias
  ·rw [Ybu c,last q k r h0 hk0 (by omega) (by omega) c]
  ·rw [YSd,YN9 k bias ⟨hk0,by omega⟩ hb,Y9u,Y6u c,Y8u,Yau c]
   generalize thr k bias=t at htr c ⊢
   have m0:0<=(q - t) % (36 - t):=Int.emod_nonneg _ (by omega)
   have m1:(q - t) % (36 - t) < 36 - t:=Int.emod_lt_of_pos _ (by omega)
   have d0:0<=(q - t) / (36 - t):=Int.ediv_nonneg (by omega) (by omega)
   have d1:(q - t) / (36 - t)<=(q - t) / 10:=by
    apply Int.le_ediv_of_mul_le (by omega)
    have:=Int.ediv_mul_le (q - t) (b:=36 - t) (by omega)
    have h2:(q - t) / (36 - t)*10<=(q - t) / (36 - t)*(36 - t):=Int.mul_le_mul_of_nonneg_left (by omega) d0
    omega
   rw [w64 (x:=36 - t) (by omega) (by omega),show (36 - t !=0)=true from bne_iff_ne.2 (by omega),Y7u,w64 (x:=q - t) (by omega) (by omega),Int.tmod_eq_emod_of_nonneg (by omega),YDu (by omega),
    w64 (x:=t+(q - t) % (36 - t)) (by omega) (by omega),w64 (x:=(q - t) / (36 - t)) (by omega) (by omega),w64 (x:=k+36) (by omega) (by omega),Yef _ (by omega) (by omega),Y9u,
    show decide (r.length+[azv (t+(q - t) % (36 - t))].length<=lim)=true from Y5u (by simp only [lim,Yeu,Yju]; omega),Y7u,Y7u]
   rw [ih _ _ _ d0 (by omega) (by omega) (by omega) (by omega) (by simp only [Yfu,Yeu,Yju]; omega),Ygu]
   rfl
theorem Yp8 (l:List Int) (hl:l.length<=1048576) (hr:∀ r∈l,0<=r/\r < 1114112) (plain told bias delta:Int) (n:Int) (out:List Int):∀ (k i:Nat) (m:Int),i+k=l.length->
  Zv3 l plain told n bias delta m (i:Int) out=
   Zw3 l plain told (YJ n m (l.drop i)) bias (IntKind.i64.wrap (delta+(IntKind.i64.wrap ((IntKind.i64.wrap (YJ n m (l.drop i) - n))*(IntKind.i64.wrap (told+1)))))) 0 out
 | 0,i,m,h=> by
  have:i=l.length:=by omega
  subst this
  rw [YId,Yg,Y6u (Yxu _),Y8u,List.drop_length]; rfl
 | k+1,i,m,h=> by
  have hi:i < l.length:=by omega
  have hw:IntKind.i64.wrap ((i:Int)+1)=((i+1:Nat):Int):=by rw [w64 (by omega) (by omega)]; omega
  have hg:List.getD l (Int.toNat (i:Int)) (Ty.zero (.int .i32))=l[i]:=by
   rw [Ydu,Ymu,Ynu hi]; rfl
  have hri:=hr _ (List.getElem_mem hi)
  rw [YId,Yg,Y5u hi,Y7u,Yj,Y5u hi,Y7u,hg,hw,w64 (x:=l[i]) (by omega) (by omega),Yiu hi,YJ]
  by_cases a:n<=l[i]
  ·rw [show decide (l[i]>=n)=true from Y5u a,Y7u,Y7u]
   by_cases b:l[i] < m
   ·rw [Y5u b,Y7u,Ybu ⟨a,b⟩,Y7u,Yp8 l hl hr plain told bias delta n out k (i+1) _ (by omega)]
   ·rw [Y6u b,Y8u,Yau (fun h=> b h.2),Yp8 l hl hr plain told bias delta n out k (i+1) _ (by omega)]
  ·rw [show decide (l[i]>=n)=false from Y6u a,Y8u,Yau (fun h=> a h.1),Yp8 l hl hr plain told bias delta n out k (i+1) _ (by omega)]
theorem Yo8 (plain:Nat) (n:Int) (l:List Int) (hl:l.length<=65536) (hr:∀ r∈l,0<=r/\r < 1114112):∀ (k i:Nat) (x:EncS),i+k=l.length->Fine x->x.delta+k<=1099511627776->x.told+k<=200000->x.out.length+14*k<=100000000->
  Zw3 l (plain:Int) (x.told:Int) n x.bias x.delta (i:Int) x.out=
   Zu3 l (plain:Int) ((YO n plain (l.drop i) x).told:Int) (IntKind.i64.wrap (n+1)) (YO n plain (l.drop i) x).bias (IntKind.i64.wrap ((YO n plain (l.drop i) x).delta+1)) (YO n plain (l.drop i) x).out
 | 0,i,x,h,_,_,_,_=> by
  have:i=l.length:=by omega
  subst this
  rw [YLd,Yg,Y6u (Yxu _),Y8u,List.drop_length]; rfl
 | k+1,i,x,h,hf,hd,ht,ho=> by
  have hi:i < l.length:=by omega
  have hw:IntKind.i64.wrap ((i:Int)+1)=((i+1:Nat):Int):=by rw [w64 (by omega) (by omega)]; omega
  have hg:List.getD l (Int.toNat (i:Int)) (Ty.zero (.int .i32))=l[i]:=by
   rw [Ydu,Ymu,Ynu hi]; rfl
  have hri:=hr _ (List.getElem_mem hi)
  obtain ⟨hd0,hb⟩:=hf
  rw [YLd,Yg,Y5u hi,Y7u,Yj,Y5u hi,Y7u,hg,w64 (x:=l[i]) (by omega) (by omega),Yiu hi,YO]
  by_cases a:l[i] < n
  ·rw [Y5u a,Y7u,Yau (by omega),Ybu a,w64 (x:=x.delta+1) (by omega) (by omega),YPd,Yj,Y5u hi,Y7u,hg,w64 (x:=l[i]) (by omega) (by omega),show (l[i] !=n)=true from bne_iff_ne.2 (by omega),Y7u,hw]
   exact Yo8 plain n l hl hr k (i+1) ⟨x.told,x.bias,x.delta+1,x.out⟩ (by omega) ⟨by dsimp only; omega,hb⟩ (by dsimp only; omega) (by dsimp only; omega) (by dsimp only; omega)
  ·rw [Y6u a,Y8u,YPd,Yj,Y5u hi,Y7u,hg,w64 (x:=l[i]) (by omega) (by omega)]
   by_cases b:l[i]=n
   ·have hlay:=YW7 x.bias 14 x.delta 36
    have had:=YX3 x.delta ((x.told+1:Nat):Int) (((x.told:Nat):Int)==((plain:Nat):Int)) hd0 (by omega)
    have h10:=Y8h
    rw [show (l[i] !=n)=false from by simp [b],Y8u,Ybu b,YHs l plain x.told i n x.bias x.delta hb hd0 (by omega) (by omega) (by omega) 13 x.delta 36 x.out hd0 (by omega) (by omega) (by omega) (by omega) (by omega)]
    exact Yo8 plain n l hl hr k (i+1) ⟨x.told+1,Yh1 x.delta ((x.told+1:Nat):Int) (((x.told:Nat):Int)==((plain:Nat):Int)),0,x.out++Y43 x.delta x.bias⟩ (by omega) ⟨Int.le_refl _,had⟩ (by dsimp only; omega) (by dsimp only; omega) (by dsimp only; rw [Yfu]; unfold Y43; omega)
   ·rw [show (l[i] !=n)=true from bne_iff_ne.2 b,Y7u,Yau b,Yau a,hw]
    exact Yo8 plain n l hl hr k (i+1) x (by omega) ⟨hd0,hb⟩ (by omega) (by omega) (by omega)
theorem YLr (l:List Int) (n M:Int) (hl:∀ r∈l,r < 1114112) (hM:1114112<=M) (h:∃ r∈l,n<=r):YJ n M l=YJ n 1114112 l:=by
 obtain ⟨y,hy,hn⟩:=h
 have hy':=hl y hy
 obtain ⟨a1,a2,a3⟩:=Y08 n l M
 obtain ⟨b1,b2,b3⟩:=Y08 n l 1114112
 have c1:=a3 y hy hn
 have c2:=b3 y hy hn
 rcases a2 with a2 | a2
 ·omega
 ·rcases b2 with b2 | b2
  ·omega
  ·have:=a3 _ b2.1 b2.2
   have:=b3 _ a2.1 a2.2
   omega
theorem YJs (plain:Nat) (l:List Int) (hl:l.length<=65536) (hr:∀ r∈l,0<=r/\r < 1114112) (f:Nat):∀ (n:Int) (x:EncS),l.length<=x.told+f->x.told=l.countP (fun r=> decide (r < n))->Fine x->x.delta<=65537->x.out.length<=65537+14*x.told->0<=n->n<=1114112->
  Zu3 l (plain:Int) (x.told:Int) n x.bias x.delta x.out=some (Ym (Yy2 l plain f n x)):=by
 have fin:∀ (n:Int) (x:EncS),l.length<=x.told->Zu3 l (plain:Int) (x.told:Int) n x.bias x.delta x.out=some (Ym x.out):=by
  intro n x h
  rw [YDd,Yg,Y6u (by omega),Y8u]
 have cle:∀ n:Int,l.countP (fun r=> decide (r < n))<=l.length:=fun n=> List.countP_le_length
 induction f with
 | zero=>
  intro n x h1 h2 _ _ ho _ _
  exact fin n x (by omega)
 | succ f ih=>
  intro n x h1 h2 hf hd ho hn0 hn1
  have hc:=cle n
  unfold Yy2
  by_cases c:l.length<=x.told
  ·rw [Ybu c]; exact fin n x c
  ·rw [Yau c]
   obtain ⟨m1,m2,m3,m4,m5⟩:=YSa l n (fun r h=> (hr r h).2) (by omega)
   have hms:=YLr l n 1073741824 (fun r h=> (hr r h).2) (by omega) (YTf l n (by omega))
   have hml:=Yp8 l (by omega) hr (plain:Int) (x.told:Int) x.bias x.delta n x.out l.length 0 1073741824 (by omega)
   rw [List.drop_zero,hms] at hml
   generalize YJ n 1114112 l=m at m1 m2 m3 m4 m5 hml ⊢
   have hp:=Yn4 (a:=m - n) (b:=((x.told+1:Nat):Int)) (A:=1114112) (B:=65537) (by omega) (by omega) (by omega) (by omega)
   have hdx:=hf.1
   have hw2:IntKind.i64.wrap ((x.told:Int)+1)=((x.told+1:Nat):Int):=by rw [w64 (by omega) (by omega)]; omega
   rw [YDd,Yg,Y5u (by omega),Y7u]
   rw [show ((0:Nat):Int)=0 from rfl] at hml
   rw [hml,w64 (x:=m - n) (by omega) (by omega),hw2,w64 (x:=(m - n)*((x.told+1:Nat):Int)) (by omega) (by omega),w64 (x:=x.delta+(m - n)*((x.told+1:Nat):Int)) (by omega) (by omega)]
   have hin:=Yo8 plain m l hl hr l.length 0 ⟨x.told,x.bias,x.delta+(m - n)*((x.told+1:Nat):Int),x.out⟩ (by omega) ⟨by dsimp only; omega,hf.2⟩ (by dsimp only; omega) (by dsimp only; omega) (by dsimp only; omega)
   rw [List.drop_zero,show ((0:Nat):Int)=0 from rfl] at hin
   obtain ⟨f1,f2,f3,f4⟩:=Y15 m plain l ⟨x.told,x.bias,x.delta+(m - n)*((x.told+1:Nat):Int),x.out⟩ ⟨by dsimp only; omega,hf.2⟩
   have f3:=f3 ⟨m,m3,rfl⟩
   have ft:=Y25 m plain l ⟨x.told,x.bias,x.delta+(m - n)*((x.told+1:Nat):Int),x.out⟩
   refine hin.trans ?_
   generalize YO m plain l ⟨x.told,x.bias,x.delta+(m - n)*((x.told+1:Nat):Int),x.out⟩=y at f1 f2 f3 f4 ft ⊢
   dsimp only at f4 ft
   have hd1:=f1.1
   have hcl:=cle (m+1)
   rw [w64 (x:=m+1) (by omega) (by omega),w64 (by omega) (by omega)]
   exact ih (m+1) ⟨y.told,y.bias,y.delta+1,y.out⟩ (by dsimp only; omega) (by dsimp only; omega) ⟨by dsimp only; omega,f1.2⟩ (by dsimp only; omega) (by dsimp only; omega) (by omega) (by omega)
theorem YCb (l:List Int) (hl:l.length<=65536) (hr:∀ r∈l,0<=r/\r < 1114112):∀ (k i:Nat) (out:List Int),i+k=l.length->out.length<=i->
  Zs3 l (i:Int) out=Zt3 l ((out++Ys (l.drop i)).length:Int) ((out++Ys (l.drop i)).length:Int) (if (out++Ys (l.drop i)).length=0 then out++Ys (l.drop i) else (out++Ys (l.drop i))++[45])
 | 0,i,out,h,ho=> by
  have:i=l.length:=by omega
  subst this
  rw [Yxd,Yg,Y6u (Yxu _),Y8u,List.drop_length,show Ys []=[] from rfl,Yyu]
  by_cases c:out.length=0
  ·rw [show decide ((out.length:Int) > 0)=false from Y6u (by omega),Y8u,Ybu c]
  ·rw [show decide ((out.length:Int) > 0)=true from Y5u (by omega),Y7u,Yau c,show decide (out.length+[(45:Int)].length<=lim)=true from Y5u (by simp only [lim,Yeu,Yju]; omega),Y7u]
 | k+1,i,out,h,ho=> by
  have hi:i < l.length:=by omega
  have hw:IntKind.i64.wrap ((i:Int)+1)=((i+1:Nat):Int):=by rw [w64 (by omega) (by omega)]; omega
  have hg:List.getD l (Int.toNat (i:Int)) (Ty.zero (.int .i32))=l[i]:=by
   rw [Ydu,Ymu,Ynu hi]; rfl
  have hri:=hr _ (List.getElem_mem hi)
  rw [Yxd,Yg,Y5u hi,Y7u,Yj,Y5u hi,Y7u,hg,hw,Yiu hi]
  by_cases a:l[i] < 128
  ·have e:Ys (l[i]::l.drop (i+1))=l[i]::Ys (l.drop (i+1)):=by unfold Ys; rw [List.filter_cons_of_pos (by simpa using a)]
   rw [Y5u a,Y7u,Y7u,w8 (by omega) (by omega),show decide (out.length+[l[i]].length<=lim)=true from Y5u (by simp only [lim,Yeu,Yju]; omega),Y7u,YCb l hl hr k (i+1) _ (by omega) (by simp only [Yfu,Yeu,Yju]; omega),e]
   simp only [Ygu,List.singleton_append]
  ·have e:Ys (l[i]::l.drop (i+1))=Ys (l.drop (i+1)):=by unfold Ys; rw [List.filter_cons_of_neg (by simpa using a)]
   rw [Y6u a,Y8u,YCb l hl hr k (i+1) _ (by omega) (by omega),e]
theorem Ylo (l:List Int) (hl:l.length<=65536) (hs:YQ l):YM9 l=some (Ym (YT1 l)):=by
 have hr:∀ r∈l,0<=r/\r < 1114112:=fun r h=> YC2 (hs r h)
 have h1:=YCb l hl hr l.length 0 [] (by omega) (by simp)
 have hsl:(Ys l).length<=l.length:=by rw [Yq5]; exact List.countP_le_length
 rw [List.drop_zero,Yzu,show ((0:Nat):Int)=0 from rfl] at h1
 rw [Yko,Ypl,h1,YAl]
 exact YJs (Ys l).length l hl hr l.length 128 ⟨(Ys l).length,72,0,if (Ys l).length=0 then Ys l else Ys l++[45]⟩ (by dsimp only; omega) (Yq5 l) ⟨by dsimp only; omega,by dsimp only; omega⟩ (by dsimp only; omega) (by dsimp only; split; omega; rw [Yfu]; simp only [Yeu,Yju]; omega) (by omega) (by omega)
theorem Yco (s:List UInt8) (hs:s.length<=200000000):YK9 s=some (Yb1 s):=by
 rw [Ybo,Y3k,Y2f s (by omega),Y9u]
 unfold Yb1
 cases hv:(YO1 s).1 with
 | false=> rw [Ywu,Y7u,Ybu rfl]
 | true=>
  rw [Yvu,Y8u,Yau (by simp)]
  by_cases c:65536 < s.length
  ·rw [show decide ((s.length:Int) > 65536)=true from Y5u (by omega),Y7u,Ybu c]
  ·have hl:=YH3 s
   have hel:=Ygg (Yq s) (by omega) (fun r h=> YC2 (Yb6 s r h))
   rw [show decide ((s.length:Int) > 65536)=false from Y6u (by omega),Y8u,Yau c,YG9 s (by omega),Y9u,Ylo _ (by omega) (Ys8 s),Y9u,Ydf _ (by unfold Ym; rw [List.length_map]; omega),Y9u]
   unfold YM2
   by_cases d:(Yo1 (Ym (YT1 (Yq s)))).2.1=32
   ·rw [show ((Yo1 (Ym (YT1 (Yq s)))).2.1==32)=true from beq_iff_eq.2 d,Y7u,Ybu d]
   ·rw [show ((Yo1 (Ym (YT1 (Yq s)))).2.1==32)=false from Yhu.2 d,Y8u,Yau d]
theorem Y9f (s:List UInt8) (hs:s.length<=200000000):Y37 s=some (Yr s):=by
 have hl:=YQ8 s
 rw [Ydo,Yel,Yco s hs,Y9u,bne0]
 unfold Yr
 by_cases a:(Yb1 s).2≠0
 ·rw [Y5u a,Y7u,Y7u,Ybu a]
 ·rw [Y6u a,Y8u,Yau a,Ycf s (by omega),Y9u]
  cases Yc1 s with
  | true=> rw [Y7u,Y8u,Ybu rfl]
  | false=>
   rw [Y8u,Yau (by simp),show decide (([120,110,45,45]:List UInt8).length+(Yb1 s).1.length<=2 ^ 62)=true from Y5u (by simp only [Yeu,Yju]; omega),Y7u]; rfl
theorem Yfo (s:List UInt8) (hs:s.length<=200000000):YL9 s=some (YL s):=by
 rw [Yeo,YXj]
 unfold YL
 by_cases a:s.length < 4
 ·rw [show decide ((s.length:Int) < 4)=true from Y5u (by omega),Y7u,Ybu a]
 ·rw [show decide ((s.length:Int) < 4)=false from Y6u (by omega),Y8u,Yau a,show Yi none (some (4:Int)) s.length=true from by simp [Yi]; omega,Y7u,
   show Yl none (some (4:Int)) s=s.take 4 from rfl,YYe _ _ (by rw [Ypu]; omega) (by simp),Y9u,show lowS ([120,110,45,45]:List UInt8)=xn from rfl]
  by_cases b:lowS (s.take 4)=xn
  ·rw [show (!(lowS (s.take 4)==xn))=false from by rw [b]; rfl,Y8u,Yau (fun h=> h b),show Yi (some (4:Int)) none s.length=true from Yd1 (f:=4) (by omega),Y7u,
    show Yl (some (4:Int)) none s=s.drop 4 from rfl,Yao _ (by rw [Yqu]; omega),Y9u,bne0]
   by_cases c:(YT (s.drop 4)).2.1≠0
   ·rw [Y5u c,Y7u,Ybu c]
   ·have hdl:=Y8c (s.drop 4)
    rw [Y6u c,Y8u,Yau c,Y9f _ (by omega),Y9u,Ycf _ (by omega),Y9u,bne0]
    have:=Yo6 (YT (s.drop 4)).1
    by_cases d:(Yr (YT (s.drop 4)).1).2≠0
    ·rw [Y5u d,Ybu d]
     cases Yc1 (YT (s.drop 4)).1 <;> rfl
    ·rw [Y6u d,Yau d]
     cases Yc1 (YT (s.drop 4)).1 with
     | true=> rw [Y7u,Ybu rfl]
     | false=>
      rw [Y8u,Y8u,Yau (by simp),YYe _ _ (by omega) (by omega),Y9u]
      by_cases e:lowS (Yr (YT (s.drop 4)).1).1=lowS s
      ·rw [e,Yau (fun h=> h rfl),show (!(lowS s==lowS s))=false from by simp,Y8u]
      ·rw [Ybu e,show (!(lowS (Yr (YT (s.drop 4)).1).1==lowS s))=true from by simp [e],Y7u]
  ·rw [show (!(lowS (s.take 4)==xn))=true from by simp only [Bool.not_eq_true',Yhu]; exact b,Y7u,Ybu b]
end Go.Abs
