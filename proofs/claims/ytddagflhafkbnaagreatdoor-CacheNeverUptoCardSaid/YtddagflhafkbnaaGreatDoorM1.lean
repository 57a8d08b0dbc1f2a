/- Part M1 of the proof: see the last text of the claim. No condition of its own. -/
import Derived.Test.YtddagflhafkbnaaGreatDoorL5
import Derived.Test.YtddagflhafkbnaaGreatDoorQ2
set_option linter.all false
set_option autoImplicit false
namespace Go.Abs
theorem YQ9 (k bias:Int) (h1:0<=k/\k<=1099511627776) (h2:0<=bias/\bias<=4096):Yl7 (k,bias)=some (thr k bias):=by
 rw [Yfo,Yok]
 simp only
 rw [w64 (x:=bias+26) (by omega) (by omega),w64 (x:=k - bias) (by omega) (by omega)]
 unfold thr
 by_cases a:k<=bias
 ·rw [Yeu a,Ygu,Yku a]
 ·rw [Yfu a,Yhu,Yju a]
  by_cases b:bias+26<=k
  ·rw [show decide (k>=bias+26)=true from Yeu b,Ygu,Yku b]
  ·rw [show decide (k>=bias+26)=false from Yfu b,Yhu,Yju b]
theorem YGh (pts:Int) (fst:Bool) (d k:Int) (hd:0<=d) (hn:d<=455) (hk:0<=k) (hk2:k<=100000):Zl7 d pts fst k=some (k+36*d / (d+38)):=by
 have h:=YCh d hd
 rw [Ykd,show decide (d > 455)=false from Yfu (by omega),Yhu,w64 (x:=d+38) (by omega) (by omega),show (d+38 !=0)=true from bne_iff_ne.2 (by omega),Ygu,w64 (x:=36*d) (by omega) (by omega),YMu (by omega),w64 (x:=36*d / (d+38)) (by omega) (by omega),w64 (by omega) (by omega)]
theorem Yys (pts:Int) (fst:Bool) (d k:Int) (hd:455 < d) (hd2:d<=9223372036854775807) (hk:0<=k) (hk2:k<=100000):Zl7 d pts fst k=Zl7 (d / 35) pts fst (k+36):=by
 rw [Ykd,show decide (d > 455)=true from Yeu hd,Ygu,YMu (by omega),w64 (x:=d / 35) (by omega) (by omega),w64 (x:=k+36) (by omega) (by omega)]
theorem Yzs (pts:Int) (fst:Bool) (n:Nat):∀ (d k:Int),0<=d->d<=lid n->d<=9223372036854775807->0<=k->k+36*(n:Int)<=100000->Zl7 d pts fst k=some (YO1 n d k):=by
 induction n with
 | zero=> intro d k hd hn _ hk hk2; exact YGh pts fst d k hd hn hk (by omega)
 | succ n ih=>
  intro d k hd hn hb hk hk2
  unfold YO1
  unfold lid at hn
  by_cases c:455 < d
  ·rw [Yku c,Yys pts fst d k c hb hk (by omega)]
   exact ih (d / 35) (k+36) (by omega) (by omega) (by omega) (by omega) (by omega)
  ·rw [Yju c]; exact YGh pts fst d k hd (by omega) hk (by omega)
theorem YSe (delta points:Int) (first:Bool) (h0:0<=delta) (h1:delta<=1099511627776) (hp:1<=points) (hp2:points<=1099511627776):Yh7 (delta,points,first)=some (Yh1 delta points first):=by
 have key:∀ d:Int,0<=d->d<=1099511627776->Zk7 d points first=some (YO1 11 (d+d / points) 0):=by
  intro d a b
  have q0:0<=d / points:=Int.ediv_nonneg a (by omega)
  have q1:d / points<=d:=Int.ediv_le_self _ a
  have:=YQg
  rw [YAk,show (points !=0)=true from bne_iff_ne.2 (by omega),Ygu,YMu a,w64 (x:=d / points) (by omega) (by omega),w64 (x:=d+d / points) (by omega) (by omega)]
  exact Yzs points first 11 _ 0 (by omega) (by omega) (by omega) (by omega) (by omega)
 rw [Y9o,Ysk]
 simp only
 unfold Yh1
 cases first with
 | true=>
  rw [Ygu,YMu h0,w64 (x:=delta / 700) (by omega) (by omega),key _ (by omega) (by omega)]; rfl
 | false=>
  rw [Yhu,YMu h0,w64 (x:=delta / 2) (by omega) (by omega),key _ (by omega) (by omega)]; rfl
theorem Yho (b:Int) (h0:0<=b) (h1:b<=255):YR9 b=some (dval b):=by
 rw [Ygo,Yik]
 unfold dval
 have hc:b < 48\/(48<=b/\b<=57)\/(58<=b/\b<=64)\/(65<=b/\b<=90)\/(91<=b/\b<=96)\/(97<=b/\b<=122)\/123<=b:=by omega
 rcases hc with h | h | h | h | h | h | h
 ·rw [show decide (b>=97)=false from Yfu (by omega),show decide (b>=65)=false from Yfu (by omega),show decide (b>=48)=false from Yfu (by omega),Yhu,Yhu,Yhu,Yju (by omega),Yju (by omega),Yju (by omega)]
 ·rw [show decide (b>=97)=false from Yfu (by omega),show decide (b>=65)=false from Yfu (by omega),show decide (b>=48)=true from Yeu (by omega),show decide (b<=57)=true from Yeu (by omega),Yhu,Yhu,Ygu,Ygu,Yju (by omega),Yju (by omega),Yku (by omega),w8 (x:=b - 48) (by omega) (by omega),w64 (x:=b - 48) (by omega) (by omega),w64 (by omega) (by omega)]
  congr 1; omega
 ·rw [show decide (b>=97)=false from Yfu (by omega),show decide (b>=65)=false from Yfu (by omega),show decide (b>=48)=true from Yeu (by omega),show decide (b<=57)=false from Yfu (by omega),Yhu,Yhu,Ygu,Yhu,Yju (by omega),Yju (by omega),Yju (by omega)]
 ·rw [show decide (b>=97)=false from Yfu (by omega),show decide (b>=65)=true from Yeu (by omega),show decide (b<=90)=true from Yeu (by omega),Yhu,Ygu,Ygu,Yju (by omega),Yku (by omega),w8 (x:=b - 65) (by omega) (by omega),w64 (x:=b - 65) (by omega) (by omega)]
 ·rw [show decide (b>=97)=false from Yfu (by omega),show decide (b>=65)=true from Yeu (by omega),show decide (b<=90)=false from Yfu (by omega),show decide (b>=48)=true from Yeu (by omega),show decide (b<=57)=false from Yfu (by omega),Yhu,Ygu,Yhu,Ygu,Yhu,Yju (by omega),Yju (by omega),Yju (by omega)]
 ·rw [show decide (b>=97)=true from Yeu (by omega),show decide (b<=122)=true from Yeu (by omega),Ygu,Ygu,Yku (by omega),w8 (x:=b - 97) (by omega) (by omega),w64 (x:=b - 97) (by omega) (by omega)]
 ·rw [show decide (b>=97)=true from Yeu (by omega),show decide (b<=122)=false from Yfu (by omega),show decide (b>=65)=true from Yeu (by omega),show decide (b<=90)=false from Yfu (by omega),show decide (b>=48)=true from Yeu (by omega),show decide (b<=57)=false from Yfu (by omega),Ygu,Yhu,Ygu,Yhu,Ygu,Yhu,Yju (by omega),Yju (by omega),Yju (by omega)]
theorem Ybc (l:List Int) (hl:l.length<=200000000) (hs:YP l):∀ (n i:Nat) (r:List Int),i+n=l.length->r.length<=4*i->Zp6 l (i:Int) r=some (Yn (r++YL1 (l.drop i)))
 | 0,i,r,h,hr=> by
  have:i=l.length:=by omega
  subst this
  rw [Ysd,Yg,Yfu (YGu _),Yhu,YUu]; simp [YL1]
 | n+1,i,r,h,hr=> by
  have hi:i < l.length:=by omega
  have hw:IntKind.i64.wrap ((i:Int)+1)=((i+1:Nat):Int):=by rw [w64 (by omega) (by omega)]; omega
  have hg:List.getD l (Int.toNat (i:Int)) (Ty.zero (.int .i32))=l[i]:=by
   rw [Ymu,Yvu,Ywu hi]; rfl
  have hsc:=hs _ (List.getElem_mem hi)
  have hr2:=YE2 hsc
  have hb:=Y54 l[i]
  rw [Ysd,Yg,Yeu hi,Ygu,Yj,Yeu hi,Ygu,hg,Yb7,hsc,Yiu,YEu,Yhu,Y8l,Y87 _ hr2.1 (by omega),Yiu,
   show decide (r.length+(Yu l[i]).length<=lim)=true from Yeu (by simp only [lim]; omega),Ygu,hw,Ybc l hl hs n (i+1) _ (by omega) (by rw [You]; omega),Yru hi]
  simp only [YL1,List.flatMap_cons,Ypu]
theorem Yjc (l:List Int) (hl:l.length<=200000000) (hs:YP l):∀ (n i:Nat),i+n=l.length->Z16 l (i:Int)=some (Yb l,(0,0))
 | 0,i,h=> by
  have:i=l.length:=by omega
  subst this
  have:=Ybc l hl hs l.length 0 [] (by omega) (by simp)
  rw [show ((0:Nat):Int)=0 from rfl,YZu,YIu] at this
  rw [Yqc,Yg,Yfu (YGu _),Yhu,YOn,YUk,this]; rfl
 | n+1,i,h=> by
  have hi:i < l.length:=by omega
  have hw:IntKind.i64.wrap ((i:Int)+1)=((i+1:Nat):Int):=by rw [w64 (by omega) (by omega)]; omega
  have hg:List.getD l (Int.toNat (i:Int)) (Ty.zero (.int .i32))=l[i]:=by
   rw [Ymu,Yvu,Ywu hi]; rfl
  rw [Yqc,Yg,Yeu hi,Ygu,Yj,Yeu hi,Ygu,hg,Yb7,hs _ (List.getElem_mem hi),Yiu,YEu,Yhu,hw,Yjc l hl hs n (i+1) (by omega)]
theorem YK9 (l:List Int) (hl:l.length<=200000000) (hs:YP l):Y13 l=some (Yb l,(0,0)):=by
 rw [YTn,YUi]
 exact Yjc l hl hs l.length 0 (by omega)
noncomputable def Yj4 (s:List UInt8) (plain:Nat) (N bias was:Int) (fr:Nat) (l:List Int) (y:Int×(Int×(Int×Int))):Option (List UInt8×(Int×Int)):=
 if y.2.2.1≠0 then some ([],(y.2.2.1,y.2.2.2))
 else if 1114111 < N+y.1 / ((l.length+1:Nat):Int)\/(55296<=N+y.1 / ((l.length+1:Nat):Int)/\N+y.1 / ((l.length+1:Nat):Int)<=57343) then some ([],(32,(fr:Int)))
 else Zw6 s y.2.1 (plain:Int) (N+y.1 / ((l.length+1:Nat):Int)) (y.1 % ((l.length+1:Nat):Int)+1) (Yh1 (y.1 - was) ((l.length+1:Nat):Int) (((l.length:Nat):Int)==((plain:Nat):Int))) (ins l (y.1 % ((l.length+1:Nat):Int)).toNat (N+y.1 / ((l.length+1:Nat):Int)))
theorem YMs (s:List UInt8) (plain:Nat) (N bias was:Int) (fr:Nat) (l:List Int) (hs:s.length<=200000000) (hb:0<=bias/\bias<=4096) (hN:128<=N/\N<=1114111) (hwas:0<=was) (hl:l.length<=s.length) (n:Nat):∀ (at':Nat) (i w k:Int),at'+n=s.length->was<=i->i<=2147483647->1<=w->w<=2147483647->0<=k->k+36*(n:Int)<=1099511627776->
  Zx6 s (at':Int) (plain:Int) N i bias (fr:Int) was w k l=Yj4 s plain N bias was fr l (numV s bias fr n at' i w k):=by
 induction n with
 | zero=>
  intro at' i w k hat _ _ _ _ _ _
  have:at'=s.length:=by omega
  subst this
  rw [YKd,show decide (((s.length:Nat):Int)>=(s.length:Int))=true from Yeu (Int.le_refl _),Ygu]
  unfold Yj4 numV
  rw [Yku (by simp)]
 | succ n ih=>
  intro at' i w k hat hi0 hi1 hw0 hw1 hk0 hk1
  have hlt:at' < s.length:=by omega
  have hby:=Yt s at'
  have hd:=YSf (bat s at')
  have ht:=YT3 k bias
  have hwat:IntKind.i64.wrap ((at':Int)+1)=((at'+1:Nat):Int):=by rw [w64 (by omega) (by omega)]; omega
  have hpts:IntKind.i64.wrap (((l.length:Nat):Int)+1)=((l.length+1:Nat):Int):=by rw [w64 (by omega) (by omega)]; omega
  rw [YKd,show decide ((at':Int)>=(s.length:Int))=false from Yfu (by omega),Yhu,Yj,Yeu hlt,Ygu,Ymu,show (((s.getD at' 0).toNat:Nat):Int)=bat s at' from rfl,Yho _ hby.1 hby.2,Yiu]
  rw [numV]
  by_cases a:dval (bat s at') < 0
  ·rw [Yeu a,Ygu,Yku a]
   unfold Yj4
   rw [Yku (by simp)]
  ·have hm:=Ys4 (a:=dval (bat s at')) (b:=w) (A:=35) (B:=2147483647) (by omega) (by omega) hd.2 hw1
   rw [Yfu a,Yhu,Yju a,w64 (x:=dval (bat s at')*w) (by omega) (by omega),w64 (x:=i+dval (bat s at')*w) (by omega) (by omega)]
   by_cases b:2147483647 < i+dval (bat s at')*w
   ·rw [show decide (i+dval (bat s at')*w > 2147483647)=true from Yeu b,Ygu,Yku b]
    unfold Yj4
    rw [Yku (by simp)]
   ·rw [show decide (i+dval (bat s at')*w > 2147483647)=false from Yfu b,Yhu,Yju b,YQ9 k bias ⟨hk0,by omega⟩ hb,Yiu]
    by_cases c:dval (bat s at') < thr k bias
    ·rw [Yeu c,Ygu,Yku c,hpts]
     have hI:0<=i+dval (bat s at')*w:=by omega
     have hI2:i+dval (bat s at')*w<=2147483647:=by omega
     have hI3:was<=i+dval (bat s at')*w:=by omega
     unfold Yj4
     rw [Yju (show ¬((0:Int)≠0) from fun h=> h rfl)]
     dsimp only
     generalize i+dval (bat s at')*w=I at hI hI2 hI3 ⊢
     have hb':=Y34 (I - was) ((l.length+1:Nat):Int) (((l.length:Nat):Int)==((plain:Nat):Int)) (by omega) (by omega)
     have q0:0<=I / ((l.length+1:Nat):Int):=Int.ediv_nonneg (by omega) (by omega)
     have q1:I / ((l.length+1:Nat):Int)<=I:=Int.ediv_le_self _ (by omega)
     have r0:0<=I % ((l.length+1:Nat):Int):=Int.emod_nonneg _ (by omega)
     have r1:I % ((l.length+1:Nat):Int) < ((l.length+1:Nat):Int):=Int.emod_lt_of_pos _ (by omega)
     rw [w64 (x:=I - was) (by omega) (by omega),YSe _ _ _ (by omega) (by omega) (by omega) (by omega),Yiu,show (((l.length+1:Nat):Int) !=0)=true from bne_iff_ne.2 (by omega),Ygu,
      YMu hI,Int.tmod_eq_emod_of_nonneg hI,w64 (x:=I / ((l.length+1:Nat):Int)) (by omega) (by omega),w64 (x:=N+I / ((l.length+1:Nat):Int)) (by omega) (by omega),hwat]
     simp only [Ygu]
     generalize I / ((l.length+1:Nat):Int)=Q at q0 q1 ⊢
     generalize I % ((l.length+1:Nat):Int)=M at r0 r1 ⊢
     generalize Yh1 (I - was) ((l.length+1:Nat):Int) (((l.length:Nat):Int)==((plain:Nat):Int))=B at hb' ⊢
     have hM:((M.toNat:Nat):Int)=M:=Int.toNat_of_nonneg r0
     by_cases g:N+Q > 1114111
     ·rw [Yeu g,Ygu,Yku (.inl g)]
     ·rw [Yfu g,Yhu,w32 (x:=N+Q) (by omega) (by omega),w64 (x:=M+1) (by omega) (by omega)]
      have c1:Yi (some M) none l.length=true:=by rw [<-hM]; exact Yi1 (by omega)
      have c2:Yi none (some M) l.length=true:=by rw [<-hM]; simp [Yi]; omega
      have l1:(List.take M.toNat l).length=M.toNat:=by rw [Yyu]; omega
      have e1:List.drop (Option.getD (Option.map Int.toNat (some M)) 0) (List.take (Option.getD (Option.map Int.toNat none) l.length) l)=l.drop M.toNat:=by
       show List.drop M.toNat (List.take l.length l)=_
       rw [List.take_length]
      have e2:List.take (Option.getD (Option.map Int.toNat (some M)) l.length) l=l.take M.toNat:=rfl
      have k1:decide ((l.drop M.toNat).length<=lim)=true:=Yeu (by rw [Yzu]; simp only [lim]; omega)
      have k2:decide ((l.take M.toNat).length+[N+Q].length<=lim)=true:=Yeu (by rw [l1]; simp only [lim,Ynu,Ysu]; omega)
      have k3:decide ((l.take M.toNat++[N+Q]).length+(l.drop M.toNat).length<=lim)=true:=Yeu (by rw [You,l1,Yzu]; simp only [lim,Ynu,Ysu]; omega)
      rw [e1,e2,c1,c2,k1,k2,k3]
      simp only [Ygu]
      by_cases a':N+Q>=55296
      ·rw [Yeu a',Ygu]
       by_cases b':N+Q<=57343
       ·rw [Yeu b',Ygu,Yku (.inr ⟨a',b'⟩)]
       ·rw [Yfu b',Yhu,Yju (by omega)]; rfl
      ·rw [Yfu a',Yhu,Yju (by omega)]; rfl
    ·have hm2:=Ys4 (a:=w) (b:=36 - thr k bias) (A:=2147483647) (B:=35) (by omega) (by omega) hw1 (by omega)
     have hm3:1<=w*(36 - thr k bias):=Y3b hw0 (by omega)
     rw [Yfu c,Yhu,Yju c,w64 (x:=36 - thr k bias) (by omega) (by omega),w64 (x:=w*(36 - thr k bias)) (by omega) (by omega)]
     by_cases e:2147483647 < w*(36 - thr k bias)
     ·rw [show decide (w*(36 - thr k bias) > 2147483647)=true from Yeu e,Ygu,Yku e]
      unfold Yj4
      rw [Yku (by simp)]
     ·rw [show decide (w*(36 - thr k bias) > 2147483647)=false from Yfu e,Yhu,Yju e,hwat,w64 (x:=k+36) (by omega) (by omega)]
      exact ih (at'+1) _ _ _ (by omega) (by omega) (by omega) hm3 (by omega) (by omega) (by omega)
end Go.Abs
namespace Go.Abs
theorem YXq {l:List Int} {i:Nat} {x:Int} (h:YP l) (hx:scal x=true):YP (ins l i x):=by
 intro r hr
 unfold ins at hr
 rcases YAu.1 hr with hr | hr
 ·rcases YAu.1 hr with hr | hr
  ·exact h r (List.mem_of_mem_take hr)
  ·rw [YNu.1 hr]; exact hx
 ·exact h r (List.mem_of_mem_drop hr)
theorem YHh (s:List UInt8) (plain:Nat) (hs:s.length<=200000000) (f:Nat):∀ (at':Nat) (i n bias:Int) (l:List Int),s.length<=at'+f->at'<=s.length->0<=i->i<=2147483647->128<=n->n<=1114111->0<=bias/\bias<=4096->l.length<=at'->YP l->
  Zw6 s (at':Int) (plain:Int) n i bias l=some (decV s plain f at' i n bias l):=by
 have stop:∀ (l:List Int) (n i bias:Int),l.length<=s.length->YP l->Zw6 s (s.length:Int) (plain:Int) n i bias l=some (YT2 l,(0,0)):=by
  intro l n i bias hl hsc
  rw [YHd,Yg,Yfu (YGu _),Yhu,YK9 l (by omega) hsc,Yiu,YB8 l hsc]
 induction f with
 | zero=>
  intro at' i n bias l hf hat _ _ _ _ _ hl hsc
  have:at'=s.length:=by omega
  subst this
  exact stop l n i bias hl hsc
 | succ f ih=>
  intro at' i n bias l hf hat hi0 hi1 hn0 hn1 hb hl hsc
  unfold decV
  by_cases c:at' < s.length
  ·rw [YHd,Yg,Yeu c,Ygu,Yju (by omega),YMs s plain n bias i at' l hs hb ⟨hn0,hn1⟩ hi0 (by omega) (s.length - at') at' i 1 36 (by omega) (Int.le_refl _) hi1 (by omega) (by omega) (by omega) (by omega)]
   have hfacts:=YXa s bias at' (s.length - at') at' i 1 36 hi0 (by omega) (by omega)
   generalize numV s bias at' (s.length - at') at' i 1 36=y at hfacts ⊢
   unfold Yj4
   by_cases e:y.2.2.1=0
   ·obtain ⟨h1,h2,m,h3,h4,h5⟩:=hfacts e
    have q0:0<=y.1 / ((l.length+1:Nat):Int):=Int.ediv_nonneg (by omega) (by omega)
    have r0:0<=y.1 % ((l.length+1:Nat):Int):=Int.emod_nonneg _ (by omega)
    have r1:y.1 % ((l.length+1:Nat):Int) < ((l.length+1:Nat):Int):=Int.emod_lt_of_pos _ (by omega)
    have hb':=Y34 (y.1 - i) ((l.length+1:Nat):Int) (((l.length:Nat):Int)==((plain:Nat):Int)) (by omega) (by omega)
    have e':¬(y.2.2.1≠0):=fun h=> h e
    rw [Yju e',Yju e']
    by_cases g:1114111 < n+y.1 / ((l.length+1:Nat):Int)\/(55296<=n+y.1 / ((l.length+1:Nat):Int)/\n+y.1 / ((l.length+1:Nat):Int)<=57343)
    ·rw [Yku g,Yku g]
    ·rw [Yju g,Yju g,h3,Ymu]
     exact ih m _ _ _ _ (by omega) h5 (by omega) (by omega) (by omega) (by omega) hb' (by rw [YKa _ _ _ (by omega)]; omega) (YXq hsc (Yeu (by omega)))
   ·rw [Yku e,Yku e]
  ·have:at'=s.length:=by omega
   subst this
   rw [Yku (by omega)]
   exact stop l n i bias hl hsc
theorem YEh (s:List UInt8) (hs:s.length<=200000000):∀ n:Nat,n<=s.length->Zu6 s 0 ((n:Int) - 1) []=if Yp s n=-1 then Zw6 s 0 0 128 0 72 [] else Zv6 s (Yp s n) 0 []
 | 0,h=> by
  rw [YCd,show decide (((0:Nat):Int) - 1>=0)=false from rfl,Yhu,Yku (show Yp s 0=-1 from rfl)]; rfl
 | n+1,h=> by
  have e:((n+1:Nat):Int) - 1=(n:Int):=by omega
  rw [e,YCd,show decide ((n:Int)>=0)=true from Yeu (by omega),Ygu,Yj,Yeu (by omega),Ygu,Ymu,show (((s.getD n 0).toNat:Nat):Int)=bat s n from rfl]
  unfold Yp
  by_cases c:bat s n=45
  ·rw [show (bat s n==45)=true from Y7v.2 c,Ygu,Yku c,Yju (by omega)]
  ·rw [show (bat s n==45)=false from Yqu.2 c,Yhu,Yju c,w64 (by omega) (by omega),YEh s hs n (by omega)]
theorem YDh (s:List UInt8) (k:Nat) (hs:s.length<=200000000) (hk:k < s.length):∀ (m i:Nat) (r:List Int),i+m=k->r.length=i->
  Zv6 s (k:Int) (i:Int) r=Zw6 s ((k+1:Nat):Int) (((r++((s.take k).drop i).map Y9).length:Nat):Int) 128 0 72 (r++((s.take k).drop i).map Y9)
 | 0,i,r,h,hr=> by
  have:i=k:=by omega
  subst this
  rw [YFd,Yg,Yfu (YGu _),Yhu,YPu (by rw [Yyu]; omega),List.map_nil,YHu,w64 (by omega) (by omega)]
  rfl
 | m+1,i,r,h,hr=> by
  have hi:i < k:=by omega
  have hlt:i < (s.take k).length:=by rw [Yyu]; omega
  have hw:IntKind.i64.wrap ((i:Int)+1)=((i+1:Nat):Int):=by rw [w64 (by omega) (by omega)]; omega
  have hb:=Yt s i
  have he:bat s i=Y9 (s.take k)[i]:=by
   rw [List.getElem_take]; exact ((Yx1 s i (by omega)).2).symm
  rw [YFd,Yg,Yeu hi,Ygu,Yj,Yeu (by omega),Ygu,Ymu,show (((s.getD i 0).toNat:Nat):Int)=bat s i from rfl,w32 (by omega) (by omega),
   show decide (r.length+[bat s i].length<=lim)=true from Yeu (by simp only [lim,Ynu,Ysu]; omega),Ygu,hw,YDh s k hs hk m (i+1) _ (by omega) (by simp only [You,Ynu,Ysu]; omega)]
  rw [Yru hlt,YBu,<-he]
  simp only [Ypu,List.singleton_append]
theorem YFh (s:List UInt8) (hs:s.length<=200000000):∀ (n k:Nat),k+n=s.length->(∀ j,j < k->bat s j<=127)->Zt6 s (k:Int)=some (match YT1 s n k with
  | some k=> ([],(31,(k:Int)))
  | none=> decV s (Yq (s.take (Yp s s.length).toNat)).length s.length (Yp s s.length+1).toNat 0 128 72 (Yq (s.take (Yp s s.length).toNat)))
 | 0,k,h,hlow=> by
  have hk:k=s.length:=by omega
  subst hk
  have hl:=YY7 s s.length
  have hbas:∀ b∈s.take (Yp s s.length).toNat,Y9 b < 128:=by
   intro b hb
   obtain ⟨j,hj,rfl⟩:=List.mem_iff_getElem.1 (List.mem_of_mem_take hb)
   have:=hlow j hj
   have:=(Yx1 s j hj).2
   omega
  rw [Yzd,Yg,Yfu (YGu _),Yhu,w64 (by omega) (by omega),YEh s hs s.length (Nat.le_refl _),Yr5 _ hbas]
  unfold YT1
  dsimp only
  by_cases c:Yp s s.length=-1
  ·have h4:=YHh s 0 hs s.length 0 0 128 72 [] (by omega) (by omega) (by omega) (by omega) (by omega) (by omega) (by omega) (by simp) (fun x hx=> by cases hx)
   rw [show ((0:Nat):Int)=0 from rfl] at h4
   rw [Yku c,h4,c]; rfl
  ·have hn:((Yp s s.length).toNat:Int)=Yp s s.length:=Int.toNat_of_nonneg (by omega)
   have h3:=YDh s (Yp s s.length).toNat hs (by omega) (Yp s s.length).toNat 0 [] (by omega) rfl
   rw [show ((0:Nat):Int)=0 from rfl,YIu,YZu,hn] at h3
   rw [Yju c,h3,YHh s _ hs s.length ((Yp s s.length).toNat+1) 0 128 72 _ (by omega) (by omega) (by omega) (by omega) (by omega) (by omega) (by omega) (by rw [YVu,Yyu]; omega) (Yc9 hbas)]
   rw [show (Yp s s.length+1).toNat=(Yp s s.length).toNat+1 from by omega]
 | n+1,k,h,hlow=> by
  have hk:k < s.length:=by omega
  have hw:IntKind.i64.wrap ((k:Int)+1)=((k+1:Nat):Int):=by rw [w64 (by omega) (by omega)]; omega
  rw [Yzd,Yg,Yeu hk,Ygu,Yj,Yeu hk,Ygu,Ymu,show (((s.getD k 0).toNat:Nat):Int)=bat s k from rfl,hw]
  unfold YT1
  by_cases c:127 < bat s k
  ·rw [show decide (bat s k>=128)=true from Yeu (by omega),Ygu,Yku c]
  ·rw [show decide (bat s k>=128)=false from Yfu (by omega),Yhu,Yju c]
   refine YFh s hs n (k+1) (by omega) fun j hj=> ?_
   by_cases e:j=k
   ·subst e; omega
   ·exact hlow j (by omega)
theorem YVe (s:List UInt8) (hs:s.length<=200000000):Yj7 s=some (Yn1 s):=by
 rw [Ybo,Yjl]
 exact YFh s hs s.length 0 (by omega) (fun j hj=> by omega)
theorem Y3o (s:List UInt8) (hs:s.length<=200000000):YM9 s=some (YT s):=by
 rw [Y2o,YJj]
 unfold YT
 by_cases c:65536 < s.length
 ·rw [show decide ((s.length:Int) > 65536)=true from Yeu (by omega),Ygu,Yku c]
 ·rw [show decide ((s.length:Int) > 65536)=false from Yfu (by omega),Yhu,Yju c,YVe s hs]; rfl
theorem YTe (s:List UInt8) (hs:s.length<=1073741824):∀ (n k:Nat),k+n=s.length->Zb6 s (k:Int)=some (!((s.drop k).any fun b=> decide (127 < Y9 b)))
 | 0,k,h=> by
  have:k=s.length:=by omega
  subst this
  rw [YOc,Yg,Yfu (YGu _),Yhu,YUu]; rfl
 | n+1,k,h=> by
  have hk:k < s.length:=by omega
  have hw:IntKind.i64.wrap ((k:Int)+1)=((k+1:Nat):Int):=by rw [w64 (by omega) (by omega)]; omega
  have hg:=(Yx1 s k hk).2
  rw [YOc,Yg,Yeu hk,Ygu,Yj,Yeu hk,Ygu,Ymu,show (((s.getD k 0).toNat:Nat):Int)=bat s k from rfl,hw,Yru hk,List.any_cons,hg,YTe s hs n (k+1) (by omega)]
  by_cases c:127 < bat s k
  ·rw [show decide (bat s k>=128)=true from Yeu (by omega),Ygu,Yeu c]; rfl
  ·rw [show decide (bat s k>=128)=false from Yfu (by omega),Yhu,Yfu c,YCu]
theorem YUe (s:List UInt8) (hs:s.length<=1073741824):Yi7 s=some (Yd1 s):=by
 rw [Yao,YRj]
 exact YTe s hs s.length 0 (by omega)
theorem YLh (s:List UInt8) (hs:s.length<=1073741824):∀ (n k:Nat) (r:List Int),k+n=s.length->r.length=k->Z56 s (k:Int) r=some (Yn r++lowS (s.drop k))
 | 0,k,r,h,hr=> by
  have:k=s.length:=by omega
  subst this
  rw [YBc,Yg,Yfu (YGu _),Yhu,YUu]
  show some (Yn r)=some (Yn r++[])
  rw [YHu]
 | n+1,k,r,h,hr=> by
  have hk:k < s.length:=by omega
  have hw:IntKind.i64.wrap ((k:Int)+1)=((k+1:Nat):Int):=by rw [w64 (by omega) (by omega)]; omega
  have hg:=(Yx1 s k hk).2
  have hb:=Yt s k
  have step:∀ x:Int,x=lowI (bat s k)->Z66 s (k:Int) x r=some (Yn r++lowS (s.drop k)):=by
   rintro x rfl
   rw [Yqj,show decide (r.length+[lowI (bat s k)].length<=lim)=true from Yeu (by simp only [lim,Ynu,Ysu]; omega),Ygu,hw,YLh s hs n (k+1) _ (by omega) (by simp only [You,Ynu,Ysu]; omega),Yru hk]
   unfold Yn lowS
   rw [List.map_append,YBu,List.map_nil,YBu,Ypu,<-hg]; rfl
  rw [YBc,Yg,Yeu hk,Ygu,Yj,Yeu hk,Ygu,Ymu,show (((s.getD k 0).toNat:Nat):Int)=bat s k from rfl]
  by_cases a:65<=bat s k
  ·rw [show decide (bat s k>=65)=true from Yeu a,Ygu]
   by_cases b:bat s k<=90
   ·rw [Yeu b,Ygu,w8 (by omega) (by omega)]
    exact step _ (by rw [Yv2,Yku ⟨a,b⟩])
   ·rw [Yfu b,Yhu]
    exact step _ (by rw [Yv2,Yju (fun h=> b h.2)])
  ·rw [show decide (bat s k>=65)=false from Yfu a,Yhu]
   exact step _ (by rw [Yv2,Yju (fun h=> a h.1)])
theorem YG9 (s:List UInt8) (hs:s.length<=1073741824):YE5 s=some (lowS s):=by
 rw [YHn,Yhj]
 exact YLh s hs s.length 0 [] (by omega) rfl
theorem YGe (a b:List UInt8) (ha:a.length<=1073741824) (hb:b.length<=1073741824):Y67 (a,b)=some (lowS a==lowS b):=by
 rw [YJn,YEj]
 dsimp only
 rw [YG9 a ha,Yiu,YG9 b hb,Yiu]
end Go.Abs
namespace Go.Abs
theorem Y6m:(List.range 36).all (fun n=> azv (n:Int)==(if (n:Int) < 26 then 97+(n:Int) else 22+(n:Int)))=true:=by kernel_rfl
theorem YWe (n:Int) (h0:0<=n) (h1:n < 36):Yk7 n=some (azv n):=by
 obtain ⟨m,rfl⟩:=Y6v h0
 have:=Y7v.1 (Y3v.1 Y6m m (List.mem_range.2 (by omega)))
 rw [Yco,Y1l,this]
 by_cases c:(m:Int) < 26
 ·rw [Yeu c,Ygu,Yku c,w64 (by omega) (by omega),w8 (by omega) (by omega)]
 ·rw [Yfu c,Yhu,Yju c,w64 (x:=48+(m:Int)) (by omega) (by omega),w64 (by omega) (by omega),w8 (by omega) (by omega)]
  congr 1; omega
theorem YKs (l:List Int) (plain told i:Nat) (n bias delta:Int) (hb:0<=bias/\bias<=4096) (hd0:0<=delta) (hd1:delta<=1099511627776) (ht:told<=200000) (hi:i<=200000) (f:Nat):∀ (q k:Int) (r:List Int),0<=q->q<=Yb5 f->q<=1099511627776->0<=k->k<=1000000 - 36*(f:Int)->r.length+f<=4294967000->
  Zg7 l (plain:Int) (told:Int) n bias delta (i:Int) q k r=Ze7 l (plain:Int) ((told+1:Nat):Int) n (Yh1 delta ((told+1:Nat):Int) (((told:Nat):Int)==((plain:Nat):Int))) 0 ((i+1:Nat):Int) (r++layV bias (f+1) q k):=by
 have hwt:IntKind.i64.wrap ((told:Int)+1)=((told+1:Nat):Int):=by rw [w64 (by omega) (by omega)]; omega
 have hwi:IntKind.i64.wrap ((i:Int)+1)=((i+1:Nat):Int):=by rw [w64 (by omega) (by omega)]; omega
 have last:∀ (q k:Int) (r:List Int),0<=q->0<=k->k<=1099511627776->r.length<=4294967000->q < thr k bias->Zg7 l (plain:Int) (told:Int) n bias delta (i:Int) q k r=Ze7 l (plain:Int) ((told+1:Nat):Int) n (Yh1 delta ((told+1:Nat):Int) (((told:Nat):Int)==((plain:Nat):Int))) 0 ((i+1:Nat):Int) (r++[azv q]):=by
  intro q k r h0 hk0 hk1 hr hq
  have htr:=YT3 k bias
  rw [Y9d,YQ9 k bias ⟨hk0,hk1⟩ hb,Yiu,Yeu hq,Ygu,YWe q h0 (by omega),Yiu,
   show decide (r.length+[azv q].length<=lim)=true from Yeu (by simp only [lim,Ynu,Ysu]; omega),Ygu,hwt,hwi,YSe _ _ _ hd0 hd1 (by omega) (by omega),Yiu]
 induction f with
 | zero=>
  intro q k r h0 h1 _ hk0 hk1 hr
  have htr:=YT3 k bias
  have h1:q<=0:=h1
  rw [last q k r h0 hk0 (by omega) (by omega) (by omega)]
  unfold layV
  rw [Yku (by omega)]
 | succ f ih=>
  intro q k r h0 h1 hb1 hk0 hk1 hr
  have htr:=YT3 k bias
  have h1:q<=10*Yb5 f+9:=h1
  rw [layV]
  by_cases c:q < thr k bias
  ·rw [Yku c,last q k r h0 hk0 (by omega) (by omega) c]
  ·rw [Y9d,YQ9 k bias ⟨hk0,by omega⟩ hb,Yiu,Yfu c,Yhu,Yju c]
   generalize thr k bias=t at htr c ⊢
   have m0:0<=(q - t) % (36 - t):=Int.emod_nonneg _ (by omega)
   have m1:(q - t) % (36 - t) < 36 - t:=Int.emod_lt_of_pos _ (by omega)
   have d0:0<=(q - t) / (36 - t):=Int.ediv_nonneg (by omega) (by omega)
   have d1:(q - t) / (36 - t)<=(q - t) / 10:=by
    apply Int.le_ediv_of_mul_le (by omega)
    have:=Int.ediv_mul_le (q - t) (b:=36 - t) (by omega)
    have h2:(q - t) / (36 - t)*10<=(q - t) / (36 - t)*(36 - t):=Int.mul_le_mul_of_nonneg_left (by omega) d0
    omega
   rw [w64 (x:=36 - t) (by omega) (by omega),show (36 - t !=0)=true from bne_iff_ne.2 (by omega),Ygu,w64 (x:=q - t) (by omega) (by omega),Int.tmod_eq_emod_of_nonneg (by omega),YMu (by omega),
    w64 (x:=t+(q - t) % (36 - t)) (by omega) (by omega),w64 (x:=(q - t) / (36 - t)) (by omega) (by omega),w64 (x:=k+36) (by omega) (by omega),YWe _ (by omega) (by omega),Yiu,
    show decide (r.length+[azv (t+(q - t) % (36 - t))].length<=lim)=true from Yeu (by simp only [lim,Ynu,Ysu]; omega),Ygu,Ygu]
   rw [ih _ _ _ d0 (by omega) (by omega) (by omega) (by omega) (by simp only [You,Ynu,Ysu]; omega),Ypu]
   rfl
theorem Yr8 (l:List Int) (hl:l.length<=1048576) (hr:∀ r∈l,0<=r/\r < 1114112) (plain told bias delta:Int) (n:Int) (out:List Int):∀ (k i:Nat) (m:Int),i+k=l.length->
  Zd7 l plain told n bias delta m (i:Int) out=
   Ze7 l plain told (YJ n m (l.drop i)) bias (IntKind.i64.wrap (delta+(IntKind.i64.wrap ((IntKind.i64.wrap (YJ n m (l.drop i) - n))*(IntKind.i64.wrap (told+1)))))) 0 out
 | 0,i,m,h=> by
  have:i=l.length:=by omega
  subst this
  rw [YYc,Yg,Yfu (YGu _),Yhu,YUu]; rfl
 | k+1,i,m,h=> by
  have hi:i < l.length:=by omega
  have hw:IntKind.i64.wrap ((i:Int)+1)=((i+1:Nat):Int):=by rw [w64 (by omega) (by omega)]; omega
  have hg:List.getD l (Int.toNat (i:Int)) (Ty.zero (.int .i32))=l[i]:=by
   rw [Ymu,Yvu,Ywu hi]; rfl
  have hri:=hr _ (List.getElem_mem hi)
  rw [YYc,Yg,Yeu hi,Ygu,Yj,Yeu hi,Ygu,hg,hw,w64 (x:=l[i]) (by omega) (by omega),Yru hi,YJ]
  by_cases a:n<=l[i]
  ·rw [show decide (l[i]>=n)=true from Yeu a,Ygu,Ygu]
   by_cases b:l[i] < m
   ·rw [Yeu b,Ygu,Yku ⟨a,b⟩,Ygu,Yr8 l hl hr plain told bias delta n out k (i+1) _ (by omega)]
   ·rw [Yfu b,Yhu,Yju (fun h=> b h.2),Yr8 l hl hr plain told bias delta n out k (i+1) _ (by omega)]
  ·rw [show decide (l[i]>=n)=false from Yfu a,Yhu,Yju (fun h=> a h.1),Yr8 l hl hr plain told bias delta n out k (i+1) _ (by omega)]
theorem Yq8 (plain:Nat) (n:Int) (l:List Int) (hl:l.length<=65536) (hr:∀ r∈l,0<=r/\r < 1114112):∀ (k i:Nat) (x:EncS),i+k=l.length->Fine x->x.delta+k<=1099511627776->x.told+k<=200000->x.out.length+14*k<=100000000->
  Ze7 l (plain:Int) (x.told:Int) n x.bias x.delta (i:Int) x.out=
   Zc7 l (plain:Int) ((YN n plain (l.drop i) x).told:Int) (IntKind.i64.wrap (n+1)) (YN n plain (l.drop i) x).bias (IntKind.i64.wrap ((YN n plain (l.drop i) x).delta+1)) (YN n plain (l.drop i) x).out
 | 0,i,x,h,_,_,_,_=> by
  have:i=l.length:=by omega
  subst this
  rw [Y1d,Yg,Yfu (YGu _),Yhu,YUu]; rfl
 | k+1,i,x,h,hf,hd,ht,ho=> by
  have hi:i < l.length:=by omega
  have hw:IntKind.i64.wrap ((i:Int)+1)=((i+1:Nat):Int):=by rw [w64 (by omega) (by omega)]; omega
  have hg:List.getD l (Int.toNat (i:Int)) (Ty.zero (.int .i32))=l[i]:=by
   rw [Ymu,Yvu,Ywu hi]; rfl
  have hri:=hr _ (List.getElem_mem hi)
  obtain ⟨hd0,hb⟩:=hf
  rw [Y1d,Yg,Yeu hi,Ygu,Yj,Yeu hi,Ygu,hg,w64 (x:=l[i]) (by omega) (by omega),Yru hi,YN]
  by_cases a:l[i] < n
  ·rw [Yeu a,Ygu,Yju (by omega),Yku a,w64 (x:=x.delta+1) (by omega) (by omega),Y5d,Yj,Yeu hi,Ygu,hg,w64 (x:=l[i]) (by omega) (by omega),show (l[i] !=n)=true from bne_iff_ne.2 (by omega),Ygu,hw]
   exact Yq8 plain n l hl hr k (i+1) ⟨x.told,x.bias,x.delta+1,x.out⟩ (by omega) ⟨by dsimp only; omega,hb⟩ (by dsimp only; omega) (by dsimp only; omega) (by dsimp only; omega)
  ·rw [Yfu a,Yhu,Y5d,Yj,Yeu hi,Ygu,hg,w64 (x:=l[i]) (by omega) (by omega)]
   by_cases b:l[i]=n
   ·have hlay:=YZ7 x.bias 14 x.delta 36
    have had:=Y34 x.delta ((x.told+1:Nat):Int) (((x.told:Nat):Int)==((plain:Nat):Int)) hd0 (by omega)
    have h10:=YPg
    rw [show (l[i] !=n)=false from by simp [b],Yhu,Yku b,YKs l plain x.told i n x.bias x.delta hb hd0 (by omega) (by omega) (by omega) 13 x.delta 36 x.out hd0 (by omega) (by omega) (by omega) (by omega) (by omega)]
    exact Yq8 plain n l hl hr k (i+1) ⟨x.told+1,Yh1 x.delta ((x.told+1:Nat):Int) (((x.told:Nat):Int)==((plain:Nat):Int)),0,x.out++Ya3 x.delta x.bias⟩ (by omega) ⟨Int.le_refl _,had⟩ (by dsimp only; omega) (by dsimp only; omega) (by dsimp only; rw [You]; unfold Ya3; omega)
   ·rw [show (l[i] !=n)=true from bne_iff_ne.2 b,Ygu,Yju b,Yju a,hw]
    exact Yq8 plain n l hl hr k (i+1) x (by omega) ⟨hd0,hb⟩ (by omega) (by omega) (by omega)
theorem YHr (l:List Int) (n M:Int) (hl:∀ r∈l,r < 1114112) (hM:1114112<=M) (h:∃ r∈l,n<=r):YJ n M l=YJ n 1114112 l:=by
 obtain ⟨y,hy,hn⟩:=h
 have hy':=hl y hy
 obtain ⟨a1,a2,a3⟩:=Y38 n l M
 obtain ⟨b1,b2,b3⟩:=Y38 n l 1114112
 have c1:=a3 y hy hn
 have c2:=b3 y hy hn
 rcases a2 with a2 | a2
 ·omega
 ·rcases b2 with b2 | b2
  ·omega
  ·have:=a3 _ b2.1 b2.2
   have:=b3 _ a2.1 a2.2
   omega
theorem YPs (plain:Nat) (l:List Int) (hl:l.length<=65536) (hr:∀ r∈l,0<=r/\r < 1114112) (f:Nat):∀ (n:Int) (x:EncS),l.length<=x.told+f->x.told=l.countP (fun r=> decide (r < n))->Fine x->x.delta<=65537->x.out.length<=65537+14*x.told->0<=n->n<=1114112->
  Zc7 l (plain:Int) (x.told:Int) n x.bias x.delta x.out=some (Yn (YA2 l plain f n x)):=by
 have fin:∀ (n:Int) (x:EncS),l.length<=x.told->Zc7 l (plain:Int) (x.told:Int) n x.bias x.delta x.out=some (Yn x.out):=by
  intro n x h
  rw [YRc,Yg,Yfu (by omega),Yhu]
 have cle:∀ n:Int,l.countP (fun r=> decide (r < n))<=l.length:=fun n=> List.countP_le_length
 induction f with
 | zero=>
  intro n x h1 h2 _ _ ho _ _
  exact fin n x (by omega)
 | succ f ih=>
  intro n x h1 h2 hf hd ho hn0 hn1
  have hc:=cle n
  unfold YA2
  by_cases c:l.length<=x.told
  ·rw [Yku c]; exact fin n x c
  ·rw [Yju c]
   obtain ⟨m1,m2,m3,m4,m5⟩:=YTa l n (fun r h=> (hr r h).2) (by omega)
   have hms:=YHr l n 1073741824 (fun r h=> (hr r h).2) (by omega) (YDf l n (by omega))
   have hml:=Yr8 l (by omega) hr (plain:Int) (x.told:Int) x.bias x.delta n x.out l.length 0 1073741824 (by omega)
   rw [YZu,hms] at hml
   generalize YJ n 1114112 l=m at m1 m2 m3 m4 m5 hml ⊢
   have hp:=Ys4 (a:=m - n) (b:=((x.told+1:Nat):Int)) (A:=1114112) (B:=65537) (by omega) (by omega) (by omega) (by omega)
   have hdx:=hf.1
   have hw2:IntKind.i64.wrap ((x.told:Int)+1)=((x.told+1:Nat):Int):=by rw [w64 (by omega) (by omega)]; omega
   rw [YRc,Yg,Yeu (by omega),Ygu]
   rw [show ((0:Nat):Int)=0 from rfl] at hml
   rw [hml,w64 (x:=m - n) (by omega) (by omega),hw2,w64 (x:=(m - n)*((x.told+1:Nat):Int)) (by omega) (by omega),w64 (x:=x.delta+(m - n)*((x.told+1:Nat):Int)) (by omega) (by omega)]
   have hin:=Yq8 plain m l hl hr l.length 0 ⟨x.told,x.bias,x.delta+(m - n)*((x.told+1:Nat):Int),x.out⟩ (by omega) ⟨by dsimp only; omega,hf.2⟩ (by dsimp only; omega) (by dsimp only; omega) (by dsimp only; omega)
   rw [YZu,show ((0:Nat):Int)=0 from rfl] at hin
   obtain ⟨f1,f2,f3,f4⟩:=Y75 m plain l ⟨x.told,x.bias,x.delta+(m - n)*((x.told+1:Nat):Int),x.out⟩ ⟨by dsimp only; omega,hf.2⟩
   have f3:=f3 ⟨m,m3,rfl⟩
   have ft:=Y85 m plain l ⟨x.told,x.bias,x.delta+(m - n)*((x.told+1:Nat):Int),x.out⟩
   refine hin.trans ?_
   generalize YN m plain l ⟨x.told,x.bias,x.delta+(m - n)*((x.told+1:Nat):Int),x.out⟩=y at f1 f2 f3 f4 ft ⊢
   dsimp only at f4 ft
   have hd1:=f1.1
   have hcl:=cle (m+1)
   rw [w64 (x:=m+1) (by omega) (by omega),w64 (by omega) (by omega)]
   exact ih (m+1) ⟨y.told,y.bias,y.delta+1,y.out⟩ (by dsimp only; omega) (by dsimp only; omega) ⟨by dsimp only; omega,f1.2⟩ (by dsimp only; omega) (by dsimp only; omega) (by omega) (by omega)
theorem YCb (l:List Int) (hl:l.length<=65536) (hr:∀ r∈l,0<=r/\r < 1114112):∀ (k i:Nat) (out:List Int),i+k=l.length->out.length<=i->
  Za7 l (i:Int) out=Zb7 l ((out++Ys (l.drop i)).length:Int) ((out++Ys (l.drop i)).length:Int) (if (out++Ys (l.drop i)).length=0 then out++Ys (l.drop i) else (out++Ys (l.drop i))++[45])
 | 0,i,out,h,ho=> by
  have:i=l.length:=by omega
  subst this
  rw [YLc,Yg,Yfu (YGu _),Yhu,YUu,show Ys []=[] from rfl,YHu]
  by_cases c:out.length=0
  ·rw [show decide ((out.length:Int) > 0)=false from Yfu (by omega),Yhu,Yku c]
  ·rw [show decide ((out.length:Int) > 0)=true from Yeu (by omega),Ygu,Yju c,show decide (out.length+[(45:Int)].length<=lim)=true from Yeu (by simp only [lim,Ynu,Ysu]; omega),Ygu]
 | k+1,i,out,h,ho=> by
  have hi:i < l.length:=by omega
  have hw:IntKind.i64.wrap ((i:Int)+1)=((i+1:Nat):Int):=by rw [w64 (by omega) (by omega)]; omega
  have hg:List.getD l (Int.toNat (i:Int)) (Ty.zero (.int .i32))=l[i]:=by
   rw [Ymu,Yvu,Ywu hi]; rfl
  have hri:=hr _ (List.getElem_mem hi)
  rw [YLc,Yg,Yeu hi,Ygu,Yj,Yeu hi,Ygu,hg,hw,Yru hi]
  by_cases a:l[i] < 128
  ·have e:Ys (l[i]::l.drop (i+1))=l[i]::Ys (l.drop (i+1)):=by unfold Ys; rw [List.filter_cons_of_pos (by simpa using a)]
   rw [Yeu a,Ygu,Ygu,w8 (by omega) (by omega),show decide (out.length+[l[i]].length<=lim)=true from Yeu (by simp only [lim,Ynu,Ysu]; omega),Ygu,YCb l hl hr k (i+1) _ (by omega) (by simp only [You,Ynu,Ysu]; omega),e]
   simp only [Ypu,List.singleton_append]
  ·have e:Ys (l[i]::l.drop (i+1))=Ys (l.drop (i+1)):=by unfold Ys; rw [List.filter_cons_of_neg (by simpa using a)]
   rw [Yfu a,Yhu,YCb l hl hr k (i+1) _ (by omega) (by omega),e]
theorem Yeo (l:List Int) (hl:l.length<=65536) (hs:YP l):YP9 l=some (Yn (YS1 l)):=by
 have hr:∀ r∈l,0<=r/\r < 1114112:=fun r h=> YE2 (hs r h)
 have h1:=YCb l hl hr l.length 0 [] (by omega) (by simp)
 have hsl:(Ys l).length<=l.length:=by rw [Yt5]; exact List.countP_le_length
 rw [YZu,YIu,show ((0:Nat):Int)=0 from rfl] at h1
 rw [Ydo,YKj,h1,YXj]
 exact YPs (Ys l).length l hl hr l.length 128 ⟨(Ys l).length,72,0,if (Ys l).length=0 then Ys l else Ys l++[45]⟩ (by dsimp only; omega) (Yt5 l) ⟨by dsimp only; omega,by dsimp only; omega⟩ (by dsimp only; omega) (by dsimp only; split; omega; rw [You]; simp only [Ynu,Ysu]; omega) (by omega) (by omega)
theorem Y5o (s:List UInt8) (hs:s.length<=200000000):YN9 s=some (Yb1 s):=by
 rw [Y4o,Yel,YKe s (by omega),Yiu]
 unfold Yb1
 cases hv:(YM1 s).1 with
 | false=> rw [YFu,Ygu,Yku rfl]
 | true=>
  rw [YEu,Yhu,Yju (by simp)]
  by_cases c:65536 < s.length
  ·rw [show decide ((s.length:Int) > 65536)=true from Yeu (by omega),Ygu,Yku c]
  ·have hl:=YP3 s
   have hel:=YVf (Yq s) (by omega) (fun r h=> YE2 (Ym6 s r h))
   rw [show decide ((s.length:Int) > 65536)=false from Yfu (by omega),Yhu,Yju c,YJ9 s (by omega),Yiu,Yeo _ (by omega) (Yu8 s),Yiu,YVe _ (by unfold Yn; rw [YVu]; omega),Yiu]
   unfold YO2
   by_cases d:(Yn1 (Yn (YS1 (Yq s)))).2.1=32
   ·rw [show ((Yn1 (Yn (YS1 (Yq s)))).2.1==32)=true from Y7v.2 d,Ygu,Yku d]
   ·rw [show ((Yn1 (Yn (YS1 (Yq s)))).2.1==32)=false from Yqu.2 d,Yhu,Yju d]
theorem YRe (s:List UInt8) (hs:s.length<=200000000):Yg7 s=some (Yr s):=by
 have hl:=YO8 s
 rw [Y6o,Yyj,Y5o s hs,Yiu,bne0]
 unfold Yr
 by_cases a:(Yb1 s).2≠0
 ·rw [Yeu a,Ygu,Ygu,Yku a]
 ·rw [Yfu a,Yhu,Yju a,YUe s (by omega),Yiu]
  cases Yd1 s with
  | true=> rw [Ygu,Yhu,Yku rfl]
  | false=>
   rw [Yhu,Yju (by simp),show decide (([120,110,45,45]:List UInt8).length+(Yb1 s).1.length<=2 ^ 62)=true from Yeu (by simp only [Ynu,Ysu]; omega),Ygu]; rfl
theorem Y8o (s:List UInt8) (hs:s.length<=200000000):YO9 s=some (YK s):=by
 rw [Y7o,Y7l]
 unfold YK
 by_cases a:s.length < 4
 ·rw [show decide ((s.length:Int) < 4)=true from Yeu (by omega),Ygu,Yku a]
 ·rw [show decide ((s.length:Int) < 4)=false from Yfu (by omega),Yhu,Yju a,show Yi none (some (4:Int)) s.length=true from by simp [Yi]; omega,Ygu,
   show Ym none (some (4:Int)) s=s.take 4 from rfl,YGe _ _ (by rw [Yyu]; omega) (by simp),Yiu,show lowS ([120,110,45,45]:List UInt8)=xn from rfl]
  by_cases b:lowS (s.take 4)=xn
  ·rw [show (!(lowS (s.take 4)==xn))=false from by rw [b]; rfl,Yhu,Yju (fun h=> h b),show Yi (some (4:Int)) none s.length=true from Yi1 (f:=4) (by omega),Ygu,
    show Ym (some (4:Int)) none s=s.drop 4 from rfl,Y3o _ (by rw [Yzu]; omega),Yiu,bne0]
   by_cases c:(YT (s.drop 4)).2.1≠0
   ·rw [Yeu c,Ygu,Yku c]
   ·have hdl:=Y8c (s.drop 4)
    rw [Yfu c,Yhu,Yju c,YRe _ (by omega),Yiu,YUe _ (by omega),Yiu,bne0]
    have:=YA6 (YT (s.drop 4)).1
    by_cases d:(Yr (YT (s.drop 4)).1).2≠0
    ·rw [Yeu d,Yku d]
     cases Yd1 (YT (s.drop 4)).1 <;> rfl
    ·rw [Yfu d,Yju d]
     cases Yd1 (YT (s.drop 4)).1 with
     | true=> rw [Ygu,Yku rfl]
     | false=>
      rw [Yhu,Yhu,Yju (by simp),YGe _ _ (by omega) (by omega),Yiu]
      by_cases e:lowS (Yr (YT (s.drop 4)).1).1=lowS s
      ·rw [e,Yju (fun h=> h rfl),show (!(lowS s==lowS s))=false from by simp,Yhu]
      ·rw [Yku e,show (!(lowS (Yr (YT (s.drop 4)).1).1==lowS s))=true from by simp [e],Ygu]
  ·rw [show (!(lowS (s.take 4)==xn))=true from by simp only [YXu,Yqu]; exact b,Ygu,Yku b]
end Go.Abs
