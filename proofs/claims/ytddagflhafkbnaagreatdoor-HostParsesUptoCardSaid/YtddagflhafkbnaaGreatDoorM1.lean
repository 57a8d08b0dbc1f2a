/- Part M1 of the proof: see the last text of the claim. No condition of its own. -/
import Derived.Test.YtddagflhafkbnaaGreatDoorL5
import Derived.Test.YtddagflhafkbnaaGreatDoorQ2
set_option linter.all false
namespace Go.Abs
set_option autoImplicit false

theorem Y29 (k bias:Int) (h1:0≤k∧k≤1099511627776) (h2:0≤bias∧bias≤4096):YC6 (k,bias)=some (thr k bias):=by
  rw [Y7m,YPh]
  simp only
  rw [w64 (x:=bias+26) (by omega) (by omega),w64 (x:=k - bias) (by omega) (by omega)]
  unfold thr
  by_cases a:k≤bias
  · rw [Yhr a,Yjr,Ynr a]
  · rw [Yir a,Ykr,Ymr a]
    by_cases b:bias+26≤k
    · rw [show decide (k≥bias+26)=true from Yhr b,Yjr,Ynr b]
    · rw [show decide (k≥bias+26)=false from Yir b,Ykr,Ymr b]
theorem Yyg (pts:Int) (fst:Bool) (d k:Int) (hd:0≤d) (hn:d≤455) (hk:0≤k) (hk2:k≤100000):Z54 d pts fst k=some (k+36*d / (d+38)):=by
  have h:=Yug d hd
  rw [YGb,show decide (d > 455)=false from Yir (by omega),Ykr,w64 (x:=d+38) (by omega) (by omega),show (d+38 !=0)=true from bne_iff_ne.2 (by omega),Yjr,w64 (x:=36*d) (by omega) (by omega),YPr (by omega),w64 (x:=36*d / (d+38)) (by omega) (by omega),w64 (by omega) (by omega)]
theorem YNp (pts:Int) (fst:Bool) (d k:Int) (hd:455 < d) (hd2:d≤9223372036854775807) (hk:0≤k) (hk2:k≤100000):Z54 d pts fst k=Z54 (d / 35) pts fst (k+36):=by
  rw [YGb,show decide (d > 455)=true from Yhr hd,Yjr,YPr (by omega),w64 (x:=d / 35) (by omega) (by omega),w64 (x:=k+36) (by omega) (by omega)]
theorem YOp (pts:Int) (fst:Bool) (n:Nat):∀ (d k:Int),0≤d→d≤lid n→d≤9223372036854775807→0≤k→k+36*(n:Int)≤100000→Z54 d pts fst k=some (YL1 n d k):=by
  induction n with
  | zero=> intro d k hd hn _ hk hk2; exact Yyg pts fst d k hd hn hk (by omega)
  | succ n ih=>
    intro d k hd hn hb hk hk2
    unfold YL1
    unfold lid at hn
    by_cases c:455 < d
    · rw [Ynr c,YNp pts fst d k c hb hk (by omega)]
      exact ih (d / 35) (k+36) (by omega) (by omega) (by omega) (by omega) (by omega)
    · rw [Ymr c]; exact Yyg pts fst d k hd (by omega) hk (by omega)
theorem YZd (delta points:Int) (first:Bool) (h0:0≤delta) (h1:delta≤1099511627776) (hp:1≤points) (hp2:points≤1099511627776):Yy6 (delta,points,first)=some (Yi1 delta points first):=by
  have key:∀ d:Int,0≤d→d≤1099511627776→Z44 d points first=some (YL1 11 (d+d / points) 0):=by
    intro d a b
    have q0:0≤d / points:=Int.ediv_nonneg a (by omega)
    have q1:d / points≤d:=Int.ediv_le_self _ a
    have:=YKf
    rw [YZh,show (points !=0)=true from bne_iff_ne.2 (by omega),Yjr,YPr a,w64 (x:=d / points) (by omega) (by omega),w64 (x:=d+d / points) (by omega) (by omega)]
    exact YOp points first 11 _ 0 (by omega) (by omega) (by omega) (by omega) (by omega)
  rw [Y1m,YUh]
  simp only
  unfold Yi1
  cases first with
  | true=>
    rw [Yjr,YPr h0,w64 (x:=delta / 700) (by omega) (by omega),key _ (by omega) (by omega)]; rfl
  | false=>
    rw [Ykr,YPr h0,w64 (x:=delta / 2) (by omega) (by omega),key _ (by omega) (by omega)]; rfl

theorem Y9m (b:Int) (h0:0≤b) (h1:b≤255):Y39 b=some (dval b):=by
  rw [Y8m,YKh]
  unfold dval
  have hc:b < 48∨(48≤b∧b≤57)∨(58≤b∧b≤64)∨(65≤b∧b≤90)∨(91≤b∧b≤96)∨(97≤b∧b≤122)∨123≤b:=by omega
  rcases hc with h | h | h | h | h | h | h
  · rw [show decide (b≥97)=false from Yir (by omega),show decide (b≥65)=false from Yir (by omega),show decide (b≥48)=false from Yir (by omega),Ykr,Ykr,Ykr,Ymr (by omega),Ymr (by omega),Ymr (by omega)]
  · rw [show decide (b≥97)=false from Yir (by omega),show decide (b≥65)=false from Yir (by omega),show decide (b≥48)=true from Yhr (by omega),show decide (b≤57)=true from Yhr (by omega),Ykr,Ykr,Yjr,Yjr,Ymr (by omega),Ymr (by omega),Ynr (by omega),w8 (x:=b - 48) (by omega) (by omega),w64 (x:=b - 48) (by omega) (by omega),w64 (by omega) (by omega)]
    congr 1; omega
  · rw [show decide (b≥97)=false from Yir (by omega),show decide (b≥65)=false from Yir (by omega),show decide (b≥48)=true from Yhr (by omega),show decide (b≤57)=false from Yir (by omega),Ykr,Ykr,Yjr,Ykr,Ymr (by omega),Ymr (by omega),Ymr (by omega)]
  · rw [show decide (b≥97)=false from Yir (by omega),show decide (b≥65)=true from Yhr (by omega),show decide (b≤90)=true from Yhr (by omega),Ykr,Yjr,Yjr,Ymr (by omega),Ynr (by omega),w8 (x:=b - 65) (by omega) (by omega),w64 (x:=b - 65) (by omega) (by omega)]
  · rw [show decide (b≥97)=false from Yir (by omega),show decide (b≥65)=true from Yhr (by omega),show decide (b≤90)=false from Yir (by omega),show decide (b≥48)=true from Yhr (by omega),show decide (b≤57)=false from Yir (by omega),Ykr,Yjr,Ykr,Yjr,Ykr,Ymr (by omega),Ymr (by omega),Ymr (by omega)]
  · rw [show decide (b≥97)=true from Yhr (by omega),show decide (b≤122)=true from Yhr (by omega),Yjr,Yjr,Ynr (by omega),w8 (x:=b - 97) (by omega) (by omega),w64 (x:=b - 97) (by omega) (by omega)]
  · rw [show decide (b≥97)=true from Yhr (by omega),show decide (b≤122)=false from Yir (by omega),show decide (b≥65)=true from Yhr (by omega),show decide (b≤90)=false from Yir (by omega),show decide (b≥48)=true from Yhr (by omega),show decide (b≤57)=false from Yir (by omega),Yjr,Ykr,Yjr,Ykr,Yjr,Ykr,Ymr (by omega),Ymr (by omega),Ymr (by omega)]

theorem Yfb (l:List Int) (hl:l.length≤200000000) (hs:YN l):∀ (n i:Nat) (r:List Int),i+n=l.length→r.length≤4*i→Z93 l (i:Int) r=some (Ym (r++YI1 (l.drop i)))
  | 0,i,r,h,hr=> by
    have:i=l.length:=by omega
    subst this
    rw [YPb,Yc,Yir (YJr _),Ykr,List.drop_length]; simp [YI1]
  | n+1,i,r,h,hr=> by
    have hi:i < l.length:=by omega
    have hw:IntKind.i64.wrap ((i:Int)+1)=((i+1:Nat):Int):=by rw [w64 (by omega) (by omega)]; omega
    have hg:List.getD l (Int.toNat (i:Int)) (Ty.zero (.int .i32))=l[i]:=by
      rw [Ypr,Yyr,Yzr hi]; rfl
    have hsc:=hs _ (List.getElem_mem hi)
    have hr2:=Yq2 hsc
    have hb:=YF3 l[i]
    rw [YPb,Yc,Yhr hi,Yjr,Yj,Yhr hi,Yjr,hg,Yr6,hsc,Ylr,YHr,Ykr,Yri,Yo6 _ hr2.1 (by omega),Ylr,
      show decide (r.length+(Yv l[i]).length≤lim)=true from Yhr (by simp only [lim]; omega),Yjr,hw,Yfb l hl hs n (i+1) _ (by omega) (by rw [Yrr]; omega),Yur hi]
    simp only [YI1,List.flatMap_cons,Ysr]
theorem Ypb (l:List Int) (hl:l.length≤200000000) (hs:YN l):∀ (n i:Nat),i+n=l.length→Zl2 l (i:Int)=some (Yb l,(0,0))
  | 0,i,h=> by
    have:i=l.length:=by omega
    subst this
    have:=Yfb l hl hs l.length 0 [] (by omega) (by simp)
    rw [show ((0:Nat):Int)=0 from rfl,List.drop_zero,YLr] at this
    rw [Ygc,Yc,Yir (YJr _),Ykr,YHl,Ygi,this]; rfl
  | n+1,i,h=> by
    have hi:i < l.length:=by omega
    have hw:IntKind.i64.wrap ((i:Int)+1)=((i+1:Nat):Int):=by rw [w64 (by omega) (by omega)]; omega
    have hg:List.getD l (Int.toNat (i:Int)) (Ty.zero (.int .i32))=l[i]:=by
      rw [Ypr,Yyr,Yzr hi]; rfl
    rw [Ygc,Yc,Yhr hi,Yjr,Yj,Yhr hi,Yjr,hg,Yr6,hs _ (List.getElem_mem hi),Ylr,YHr,Ykr,hw,Ypb l hl hs n (i+1) (by omega)]
theorem YX8 (l:List Int) (hl:l.length≤200000000) (hs:YN l):YJ2 l=some (Yb l,(0,0)):=by
  rw [YMl,Y3j]
  exact Ypb l hl hs l.length 0 (by omega)

noncomputable def YQ3 (s:List UInt8) (plain:Nat) (N bias was:Int) (fr:Nat) (l:List Int) (y:Int×(Int×(Int×Int))):Option (List UInt8×(Int×Int)):=
  if y.2.2.1≠0 then some ([],(y.2.2.1,y.2.2.2))
  else if 1114111 < N+y.1 / ((l.length+1:Nat):Int)∨(55296≤N+y.1 / ((l.length+1:Nat):Int)∧N+y.1 / ((l.length+1:Nat):Int)≤57343) then some ([],(32,(fr:Int)))
  else Zg3 s y.2.1 (plain:Int) (N+y.1 / ((l.length+1:Nat):Int)) (y.1 % ((l.length+1:Nat):Int)+1) (Yi1 (y.1 - was) ((l.length+1:Nat):Int) (((l.length:Nat):Int)==((plain:Nat):Int))) (ins l (y.1 % ((l.length+1:Nat):Int)).toNat (N+y.1 / ((l.length+1:Nat):Int)))
theorem Y0q (s:List UInt8) (plain:Nat) (N bias was:Int) (fr:Nat) (l:List Int) (hs:s.length≤200000000) (hb:0≤bias∧bias≤4096) (hN:128≤N∧N≤1114111) (hwas:0≤was) (hl:l.length≤s.length) (n:Nat):∀ (at':Nat) (i w k:Int),at'+n=s.length→was≤i→i≤2147483647→1≤w→w≤2147483647→0≤k→k+36*(n:Int)≤1099511627776→
    Zh3 s (at':Int) (plain:Int) N i bias (fr:Int) was w k l=YQ3 s plain N bias was fr l (numV s bias fr n at' i w k):=by
  induction n with
  | zero=>
    intro at' i w k hat _ _ _ _ _ _
    have:at'=s.length:=by omega
    subst this
    rw [Y9c,show decide (((s.length:Nat):Int)≥(s.length:Int))=true from Yhr (Int.le_refl _),Yjr]
    unfold YQ3 numV
    rw [Ynr (by simp)]
  | succ n ih=>
    intro at' i w k hat hi0 hi1 hw0 hw1 hk0 hk1
    have hlt:at' < s.length:=by omega
    have hby:=Yu s at'
    have hd:=YVe (bat s at')
    have ht:=Yt3 k bias
    have hwat:IntKind.i64.wrap ((at':Int)+1)=((at'+1:Nat):Int):=by rw [w64 (by omega) (by omega)]; omega
    have hpts:IntKind.i64.wrap (((l.length:Nat):Int)+1)=((l.length+1:Nat):Int):=by rw [w64 (by omega) (by omega)]; omega
    rw [Y9c,show decide ((at':Int)≥(s.length:Int))=false from Yir (by omega),Ykr,Yj,Yhr hlt,Yjr,Ypr,show (((s.getD at' 0).toNat:Nat):Int)=bat s at' from rfl,Y9m _ hby.1 hby.2,Ylr]
    rw [numV]
    by_cases a:dval (bat s at') < 0
    · rw [Yhr a,Yjr,Ynr a]
      unfold YQ3
      rw [Ynr (by simp)]
    · have hm:=Y04 (a:=dval (bat s at')) (b:=w) (A:=35) (B:=2147483647) (by omega) (by omega) hd.2 hw1
      rw [Yir a,Ykr,Ymr a,w64 (x:=dval (bat s at')*w) (by omega) (by omega),w64 (x:=i+dval (bat s at')*w) (by omega) (by omega)]
      by_cases b:2147483647 < i+dval (bat s at')*w
      · rw [show decide (i+dval (bat s at')*w > 2147483647)=true from Yhr b,Yjr,Ynr b]
        unfold YQ3
        rw [Ynr (by simp)]
      · rw [show decide (i+dval (bat s at')*w > 2147483647)=false from Yir b,Ykr,Ymr b,Y29 k bias ⟨hk0,by omega⟩ hb,Ylr]
        by_cases c:dval (bat s at') < thr k bias
        · rw [Yhr c,Yjr,Ynr c,hpts]
          have hI:0≤i+dval (bat s at')*w:=by omega
          have hI2:i+dval (bat s at')*w≤2147483647:=by omega
          have hI3:was≤i+dval (bat s at')*w:=by omega
          unfold YQ3
          rw [Ymr (show ¬((0:Int)≠0) from fun h=> h rfl)]
          dsimp only
          generalize i+dval (bat s at')*w=I at hI hI2 hI3 ⊢
          have hb':=YD3 (I - was) ((l.length+1:Nat):Int) (((l.length:Nat):Int)==((plain:Nat):Int)) (by omega) (by omega)
          have q0:0≤I / ((l.length+1:Nat):Int):=Int.ediv_nonneg (by omega) (by omega)
          have q1:I / ((l.length+1:Nat):Int)≤I:=Int.ediv_le_self _ (by omega)
          have r0:0≤I % ((l.length+1:Nat):Int):=Int.emod_nonneg _ (by omega)
          have r1:I % ((l.length+1:Nat):Int) < ((l.length+1:Nat):Int):=Int.emod_lt_of_pos _ (by omega)
          rw [w64 (x:=I - was) (by omega) (by omega),YZd _ _ _ (by omega) (by omega) (by omega) (by omega),Ylr,show (((l.length+1:Nat):Int) !=0)=true from bne_iff_ne.2 (by omega),Yjr,
            YPr hI,Int.tmod_eq_emod_of_nonneg hI,w64 (x:=I / ((l.length+1:Nat):Int)) (by omega) (by omega),w64 (x:=N+I / ((l.length+1:Nat):Int)) (by omega) (by omega),hwat]
          simp only [Yjr]
          generalize I / ((l.length+1:Nat):Int)=Q at q0 q1 ⊢
          generalize I % ((l.length+1:Nat):Int)=M at r0 r1 ⊢
          generalize Yi1 (I - was) ((l.length+1:Nat):Int) (((l.length:Nat):Int)==((plain:Nat):Int))=B at hb' ⊢
          have hM:((M.toNat:Nat):Int)=M:=Int.toNat_of_nonneg r0
          by_cases g:N+Q > 1114111
          · rw [Yhr g,Yjr,Ynr (.inl g)]
          · rw [Yir g,Ykr,w32 (x:=N+Q) (by omega) (by omega),w64 (x:=M+1) (by omega) (by omega)]
            have c1:Yi (some M) none l.length=true:=by rw [←hM]; exact Yj1 (by omega)
            have c2:Yi none (some M) l.length=true:=by rw [←hM]; simp [Yi]; omega
            have l1:(List.take M.toNat l).length=M.toNat:=by rw [YBr]; omega
            have e1:List.drop (Option.getD (Option.map Int.toNat (some M)) 0) (List.take (Option.getD (Option.map Int.toNat none) l.length) l)=l.drop M.toNat:=by
              show List.drop M.toNat (List.take l.length l)=_
              rw [List.take_length]
            have e2:List.take (Option.getD (Option.map Int.toNat (some M)) l.length) l=l.take M.toNat:=rfl
            have k1:decide ((l.drop M.toNat).length≤lim)=true:=Yhr (by rw [YCr]; simp only [lim]; omega)
            have k2:decide ((l.take M.toNat).length+[N+Q].length≤lim)=true:=Yhr (by rw [l1]; simp only [lim,Yqr,Yvr]; omega)
            have k3:decide ((l.take M.toNat++[N+Q]).length+(l.drop M.toNat).length≤lim)=true:=Yhr (by rw [Yrr,l1,YCr]; simp only [lim,Yqr,Yvr]; omega)
            rw [e1,e2,c1,c2,k1,k2,k3]
            simp only [Yjr]
            by_cases a':N+Q≥55296
            · rw [Yhr a',Yjr]
              by_cases b':N+Q≤57343
              · rw [Yhr b',Yjr,Ynr (.inr ⟨a',b'⟩)]
              · rw [Yir b',Ykr,Ymr (by omega)]; rfl
            · rw [Yir a',Ykr,Ymr (by omega)]; rfl
        · have hm2:=Y04 (a:=w) (b:=36 - thr k bias) (A:=2147483647) (B:=35) (by omega) (by omega) hw1 (by omega)
          have hm3:1≤w*(36 - thr k bias):=Y6a hw0 (by omega)
          rw [Yir c,Ykr,Ymr c,w64 (x:=36 - thr k bias) (by omega) (by omega),w64 (x:=w*(36 - thr k bias)) (by omega) (by omega)]
          by_cases e:2147483647 < w*(36 - thr k bias)
          · rw [show decide (w*(36 - thr k bias) > 2147483647)=true from Yhr e,Yjr,Ynr e]
            unfold YQ3
            rw [Ynr (by simp)]
          · rw [show decide (w*(36 - thr k bias) > 2147483647)=false from Yir e,Ykr,Ymr e,hwat,w64 (x:=k+36) (by omega) (by omega)]
            exact ih (at'+1) _ _ _ (by omega) (by omega) (by omega) hm3 (by omega) (by omega) (by omega)
end Go.Abs
namespace Go.Abs
set_option autoImplicit false

theorem Yuo {l:List Int} {i:Nat} {x:Int} (h:YN l) (hx:scal x=true):YN (ins l i x):=by
  intro r hr
  unfold ins at hr
  rcases YDr.1 hr with hr | hr
  · rcases YDr.1 hr with hr | hr
    · exact h r (List.mem_of_mem_take hr)
    · rw [YQr.1 hr]; exact hx
  · exact h r (List.mem_of_mem_drop hr)
theorem Yzg (s:List UInt8) (plain:Nat) (hs:s.length≤200000000) (f:Nat):∀ (at':Nat) (i n bias:Int) (l:List Int),s.length≤at'+f→at'≤s.length→0≤i→i≤2147483647→128≤n→n≤1114111→0≤bias∧bias≤4096→l.length≤at'→YN l→
    Zg3 s (at':Int) (plain:Int) n i bias l=some (decV s plain f at' i n bias l):=by
  have stop:∀ (l:List Int) (n i bias:Int),l.length≤s.length→YN l→Zg3 s (s.length:Int) (plain:Int) n i bias l=some (YD2 l,(0,0)):=by
    intro l n i bias hl hsc
    rw [Y5c,Yc,Yir (YJr _),Ykr,YX8 l (by omega) hsc,Ylr,YV7 l hsc]
  induction f with
  | zero=>
    intro at' i n bias l hf hat _ _ _ _ _ hl hsc
    have:at'=s.length:=by omega
    subst this
    exact stop l n i bias hl hsc
  | succ f ih=>
    intro at' i n bias l hf hat hi0 hi1 hn0 hn1 hb hl hsc
    unfold decV
    by_cases c:at' < s.length
    · rw [Y5c,Yc,Yhr c,Yjr,Ymr (by omega),Y0q s plain n bias i at' l hs hb ⟨hn0,hn1⟩ hi0 (by omega) (s.length - at') at' i 1 36 (by omega) (Int.le_refl _) hi1 (by omega) (by omega) (by omega) (by omega)]
      have hfacts:=Y0a s bias at' (s.length - at') at' i 1 36 hi0 (by omega) (by omega)
      generalize numV s bias at' (s.length - at') at' i 1 36=y at hfacts ⊢
      unfold YQ3
      by_cases e:y.2.2.1=0
      · obtain ⟨h1,h2,m,h3,h4,h5⟩:=hfacts e
        have q0:0≤y.1 / ((l.length+1:Nat):Int):=Int.ediv_nonneg (by omega) (by omega)
        have r0:0≤y.1 % ((l.length+1:Nat):Int):=Int.emod_nonneg _ (by omega)
        have r1:y.1 % ((l.length+1:Nat):Int) < ((l.length+1:Nat):Int):=Int.emod_lt_of_pos _ (by omega)
        have hb':=YD3 (y.1 - i) ((l.length+1:Nat):Int) (((l.length:Nat):Int)==((plain:Nat):Int)) (by omega) (by omega)
        have e':¬(y.2.2.1≠0):=fun h=> h e
        rw [Ymr e',Ymr e']
        by_cases g:1114111 < n+y.1 / ((l.length+1:Nat):Int)∨(55296≤n+y.1 / ((l.length+1:Nat):Int)∧n+y.1 / ((l.length+1:Nat):Int)≤57343)
        · rw [Ynr g,Ynr g]
        · rw [Ymr g,Ymr g,h3,Ypr]
          exact ih m _ _ _ _ (by omega) h5 (by omega) (by omega) (by omega) (by omega) hb' (by rw [YO9 _ _ _ (by omega)]; omega) (Yuo hsc (Yhr (by omega)))
      · rw [Ynr e,Ynr e]
    · have:at'=s.length:=by omega
      subst this
      rw [Ynr (by omega)]
      exact stop l n i bias hl hsc
theorem Ywg (s:List UInt8) (hs:s.length≤200000000):∀ n:Nat,n≤s.length→Ze3 s 0 ((n:Int) - 1) []=if Yp s n=-1 then Zg3 s 0 0 128 0 72 [] else Zf3 s (Yp s n) 0 []
  | 0,h=> by
    rw [Y0c,show decide (((0:Nat):Int) - 1≥0)=false from rfl,Ykr,Ynr (show Yp s 0=-1 from rfl)]; rfl
  | n+1,h=> by
    have e:((n+1:Nat):Int) - 1=(n:Int):=by omega
    rw [e,Y0c,show decide ((n:Int)≥0)=true from Yhr (by omega),Yjr,Yj,Yhr (by omega),Yjr,Ypr,show (((s.getD n 0).toNat:Nat):Int)=bat s n from rfl]
    unfold Yp
    by_cases c:bat s n=45
    · rw [show (bat s n==45)=true from beq_iff_eq.2 c,Yjr,Ynr c,Ymr (by omega)]
    · rw [show (bat s n==45)=false from Ytr.2 c,Ykr,Ymr c,w64 (by omega) (by omega),Ywg s hs n (by omega)]
theorem Yvg (s:List UInt8) (k:Nat) (hs:s.length≤200000000) (hk:k < s.length):∀ (m i:Nat) (r:List Int),i+m=k→r.length=i→
    Zf3 s (k:Int) (i:Int) r=Zg3 s ((k+1:Nat):Int) (((r++((s.take k).drop i).map Y7).length:Nat):Int) 128 0 72 (r++((s.take k).drop i).map Y7)
  | 0,i,r,h,hr=> by
    have:i=k:=by omega
    subst this
    rw [Y4c,Yc,Yir (YJr _),Ykr,List.drop_eq_nil_of_le (by rw [YBr]; omega),List.map_nil,YKr,w64 (by omega) (by omega)]
    rfl
  | m+1,i,r,h,hr=> by
    have hi:i < k:=by omega
    have hlt:i < (s.take k).length:=by rw [YBr]; omega
    have hw:IntKind.i64.wrap ((i:Int)+1)=((i+1:Nat):Int):=by rw [w64 (by omega) (by omega)]; omega
    have hb:=Yu s i
    have he:bat s i=Y7 (s.take k)[i]:=by
      rw [List.getElem_take]; exact ((Ys1 s i (by omega)).2).symm
    rw [Y4c,Yc,Yhr hi,Yjr,Yj,Yhr (by omega),Yjr,Ypr,show (((s.getD i 0).toNat:Nat):Int)=bat s i from rfl,w32 (by omega) (by omega),
      show decide (r.length+[bat s i].length≤lim)=true from Yhr (by simp only [lim,Yqr,Yvr]; omega),Yjr,hw,Yvg s k hs hk m (i+1) _ (by omega) (by simp only [Yrr,Yqr,Yvr]; omega)]
    rw [Yur hlt,YEr,←he]
    simp only [Ysr,List.singleton_append]
theorem Yxg (s:List UInt8) (hs:s.length≤200000000):∀ (n k:Nat),k+n=s.length→(∀ j,j < k→bat s j≤127)→Zd3 s (k:Int)=some (match YP1 s n k with
    | some k=> ([],(31,(k:Int)))
    | none=> decV s (Yq (s.take (Yp s s.length).toNat)).length s.length (Yp s s.length+1).toNat 0 128 72 (Yq (s.take (Yp s s.length).toNat)))
  | 0,k,h,hlow=> by
    have hk:k=s.length:=by omega
    subst hk
    have hl:=Yj7 s s.length
    have hbas:∀ b∈s.take (Yp s s.length).toNat,Y7 b < 128:=by
      intro b hb
      obtain ⟨j,hj,rfl⟩:=List.mem_iff_getElem.1 (List.mem_of_mem_take hb)
      have:=hlow j hj
      have:=(Ys1 s j hj).2
      omega
    rw [YVb,Yc,Yir (YJr _),Ykr,w64 (by omega) (by omega),Ywg s hs s.length (Nat.le_refl _),Y15 _ hbas]
    unfold YP1
    dsimp only
    by_cases c:Yp s s.length=-1
    · have h4:=Yzg s 0 hs s.length 0 0 128 72 [] (by omega) (by omega) (by omega) (by omega) (by omega) (by omega) (by omega) (by simp) (fun x hx=> by cases hx)
      rw [show ((0:Nat):Int)=0 from rfl] at h4
      rw [Ynr c,h4,c]; rfl
    · have hn:((Yp s s.length).toNat:Int)=Yp s s.length:=Int.toNat_of_nonneg (by omega)
      have h3:=Yvg s (Yp s s.length).toNat hs (by omega) (Yp s s.length).toNat 0 [] (by omega) rfl
      rw [show ((0:Nat):Int)=0 from rfl,YLr,List.drop_zero,hn] at h3
      rw [Ymr c,h3,Yzg s _ hs s.length ((Yp s s.length).toNat+1) 0 128 72 _ (by omega) (by omega) (by omega) (by omega) (by omega) (by omega) (by omega) (by rw [List.length_map,YBr]; omega) (Yw8 hbas)]
      rw [show (Yp s s.length+1).toNat=(Yp s s.length).toNat+1 from by omega]
  | n+1,k,h,hlow=> by
    have hk:k < s.length:=by omega
    have hw:IntKind.i64.wrap ((k:Int)+1)=((k+1:Nat):Int):=by rw [w64 (by omega) (by omega)]; omega
    rw [YVb,Yc,Yhr hk,Yjr,Yj,Yhr hk,Yjr,Ypr,show (((s.getD k 0).toNat:Nat):Int)=bat s k from rfl,hw]
    unfold YP1
    by_cases c:127 < bat s k
    · rw [show decide (bat s k≥128)=true from Yhr (by omega),Yjr,Ynr c]
    · rw [show decide (bat s k≥128)=false from Yir (by omega),Ykr,Ymr c]
      refine Yxg s hs n (k+1) (by omega) fun j hj=> ?_
      by_cases e:j=k
      · subst e; omega
      · exact hlow j (by omega)
theorem Y2e (s:List UInt8) (hs:s.length≤200000000):YA6 s=some (Yl1 s):=by
  rw [Y3m,YAi]
  exact Yxg s hs s.length 0 (by omega) (fun j hj=> by omega)
theorem YWl (s:List UInt8) (hs:s.length≤200000000):YZ8 s=some (YQ s):=by
  rw [YVl,YHj]
  unfold YQ
  by_cases c:65536 < s.length
  · rw [show decide ((s.length:Int) > 65536)=true from Yhr (by omega),Yjr,Ynr c]
  · rw [show decide ((s.length:Int) > 65536)=false from Yir (by omega),Ykr,Ymr c,Y2e s hs]; rfl
theorem Y0e (s:List UInt8) (hs:s.length≤1073741824):∀ (n k:Nat),k+n=s.length→Zv2 s (k:Int)=some (!((s.drop k).any fun b=> decide (127 < Y7 b)))
  | 0,k,h=> by
    have:k=s.length:=by omega
    subst this
    rw [YDc,Yc,Yir (YJr _),Ykr,List.drop_length]; rfl
  | n+1,k,h=> by
    have hk:k < s.length:=by omega
    have hw:IntKind.i64.wrap ((k:Int)+1)=((k+1:Nat):Int):=by rw [w64 (by omega) (by omega)]; omega
    have hg:=(Ys1 s k hk).2
    rw [YDc,Yc,Yhr hk,Yjr,Yj,Yhr hk,Yjr,Ypr,show (((s.getD k 0).toNat:Nat):Int)=bat s k from rfl,hw,Yur hk,List.any_cons,hg,Y0e s hs n (k+1) (by omega)]
    by_cases c:127 < bat s k
    · rw [show decide (bat s k≥128)=true from Yhr (by omega),Yjr,Yhr c]; rfl
    · rw [show decide (bat s k≥128)=false from Yir (by omega),Ykr,Yir c,YFr]
theorem Y1e (s:List UInt8) (hs:s.length≤1073741824):Yz6 s=some (Yc1 s):=by
  rw [Y2m,YKj]
  exact Y0e s hs s.length 0 (by omega)

theorem YCg (s:List UInt8) (hs:s.length≤1073741824):∀ (n k:Nat) (r:List Int),k+n=s.length→r.length=k→Zp2 s (k:Int) r=some (Ym r++lowS (s.drop k))
  | 0,k,r,h,hr=> by
    have:k=s.length:=by omega
    subst this
    rw [Ysc,Yc,Yir (YJr _),Ykr,List.drop_length]
    show some (Ym r)=some (Ym r++[])
    rw [YKr]
  | n+1,k,r,h,hr=> by
    have hk:k < s.length:=by omega
    have hw:IntKind.i64.wrap ((k:Int)+1)=((k+1:Nat):Int):=by rw [w64 (by omega) (by omega)]; omega
    have hg:=(Ys1 s k hk).2
    have hb:=Yu s k
    have step:∀ x:Int,x=lowI (bat s k)→Zq2 s (k:Int) x r=some (Ym r++lowS (s.drop k)):=by
      rintro x rfl
      rw [Yqj,show decide (r.length+[lowI (bat s k)].length≤lim)=true from Yhr (by simp only [lim,Yqr,Yvr]; omega),Yjr,hw,YCg s hs n (k+1) _ (by omega) (by simp only [Yrr,Yqr,Yvr]; omega),Yur hk]
      unfold Ym lowS
      rw [List.map_append,YEr,List.map_nil,YEr,Ysr,←hg]; rfl
    rw [Ysc,Yc,Yhr hk,Yjr,Yj,Yhr hk,Yjr,Ypr,show (((s.getD k 0).toNat:Nat):Int)=bat s k from rfl]
    by_cases a:65≤bat s k
    · rw [show decide (bat s k≥65)=true from Yhr a,Yjr]
      by_cases b:bat s k≤90
      · rw [Yhr b,Yjr,w8 (by omega) (by omega)]
        exact step _ (by rw [Yj2,Ynr ⟨a,b⟩])
      · rw [Yir b,Ykr]
        exact step _ (by rw [Yj2,Ymr (fun h=> b h.2)])
    · rw [show decide (bat s k≥65)=false from Yir a,Ykr]
      exact step _ (by rw [Yj2,Ymr (fun h=> a h.1)])
theorem YT8 (s:List UInt8) (hs:s.length≤1073741824):Yb5 s=some (lowS s):=by
  rw [YAl,Ykj]
  exact YCg s hs s.length 0 [] (by omega) rfl
theorem YMd (a b:List UInt8) (ha:a.length≤1073741824) (hb:b.length≤1073741824):Ym6 (a,b)=some (lowS a==lowS b):=by
  rw [YCl,YCj]
  dsimp only
  rw [YT8 a ha,Ylr,YT8 b hb,Ylr]
end Go.Abs
namespace Go.Abs
set_option autoImplicit false

theorem Yfk:(List.range 36).all (fun n=> azv (n:Int)==(if (n:Int) < 26 then 97+(n:Int) else 22+(n:Int)))=true:=by kernel_rfl
theorem Y3e (n:Int) (h0:0≤n) (h1:n < 36):YB6 n=some (azv n):=by
  obtain ⟨m,rfl⟩:=Int.eq_ofNat_of_zero_le h0
  have:=beq_iff_eq.1 (List.all_eq_true.1 Yfk m (List.mem_range.2 (by omega)))
  rw [Y4m,Yli,this]
  by_cases c:(m:Int) < 26
  · rw [Yhr c,Yjr,Ynr c,w64 (by omega) (by omega),w8 (by omega) (by omega)]
  · rw [Yir c,Ykr,Ymr c,w64 (x:=48+(m:Int)) (by omega) (by omega),w64 (by omega) (by omega),w8 (by omega) (by omega)]
    congr 1; omega
theorem YZp (l:List Int) (plain told i:Nat) (n bias delta:Int) (hb:0≤bias∧bias≤4096) (hd0:0≤delta) (hd1:delta≤1099511627776) (ht:told≤200000) (hi:i≤200000) (f:Nat):∀ (q k:Int) (r:List Int),0≤q→q≤YM4 f→q≤1099511627776→0≤k→k≤1000000 - 36*(f:Int)→r.length+f≤4294967000→
    Z04 l (plain:Int) (told:Int) n bias delta (i:Int) q k r=Zy3 l (plain:Int) ((told+1:Nat):Int) n (Yi1 delta ((told+1:Nat):Int) (((told:Nat):Int)==((plain:Nat):Int))) 0 ((i+1:Nat):Int) (r++layV bias (f+1) q k):=by
  have hwt:IntKind.i64.wrap ((told:Int)+1)=((told+1:Nat):Int):=by rw [w64 (by omega) (by omega)]; omega
  have hwi:IntKind.i64.wrap ((i:Int)+1)=((i+1:Nat):Int):=by rw [w64 (by omega) (by omega)]; omega
  have last:∀ (q k:Int) (r:List Int),0≤q→0≤k→k≤1099511627776→r.length≤4294967000→q < thr k bias→Z04 l (plain:Int) (told:Int) n bias delta (i:Int) q k r=Zy3 l (plain:Int) ((told+1:Nat):Int) n (Yi1 delta ((told+1:Nat):Int) (((told:Nat):Int)==((plain:Nat):Int))) 0 ((i+1:Nat):Int) (r++[azv q]):=by
    intro q k r h0 hk0 hk1 hr hq
    have htr:=Yt3 k bias
    rw [Yxb,Y29 k bias ⟨hk0,hk1⟩ hb,Ylr,Yhr hq,Yjr,Y3e q h0 (by omega),Ylr,
      show decide (r.length+[azv q].length≤lim)=true from Yhr (by simp only [lim,Yqr,Yvr]; omega),Yjr,hwt,hwi,YZd _ _ _ hd0 hd1 (by omega) (by omega),Ylr]
  induction f with
  | zero=>
    intro q k r h0 h1 _ hk0 hk1 hr
    have htr:=Yt3 k bias
    have h1:q≤0:=h1
    rw [last q k r h0 hk0 (by omega) (by omega) (by omega)]
    unfold layV
    rw [Ynr (by omega)]
  | succ f ih=>
    intro q k r h0 h1 hb1 hk0 hk1 hr
    have htr:=Yt3 k bias
    have h1:q≤10*YM4 f+9:=h1
    rw [layV]
    by_cases c:q < thr k bias
    · rw [Ynr c,last q k r h0 hk0 (by omega) (by omega) c]
    · rw [Yxb,Y29 k bias ⟨hk0,by omega⟩ hb,Ylr,Yir c,Ykr,Ymr c]
      generalize thr k bias=t at htr c ⊢
      have m0:0≤(q - t) % (36 - t):=Int.emod_nonneg _ (by omega)
      have m1:(q - t) % (36 - t) < 36 - t:=Int.emod_lt_of_pos _ (by omega)
      have d0:0≤(q - t) / (36 - t):=Int.ediv_nonneg (by omega) (by omega)
      have d1:(q - t) / (36 - t)≤(q - t) / 10:=by
        apply Int.le_ediv_of_mul_le (by omega)
        have:=Int.ediv_mul_le (q - t) (b:=36 - t) (by omega)
        have h2:(q - t) / (36 - t)*10≤(q - t) / (36 - t)*(36 - t):=Int.mul_le_mul_of_nonneg_left (by omega) d0
        omega
      rw [w64 (x:=36 - t) (by omega) (by omega),show (36 - t !=0)=true from bne_iff_ne.2 (by omega),Yjr,w64 (x:=q - t) (by omega) (by omega),Int.tmod_eq_emod_of_nonneg (by omega),YPr (by omega),
        w64 (x:=t+(q - t) % (36 - t)) (by omega) (by omega),w64 (x:=(q - t) / (36 - t)) (by omega) (by omega),w64 (x:=k+36) (by omega) (by omega),Y3e _ (by omega) (by omega),Ylr,
        show decide (r.length+[azv (t+(q - t) % (36 - t))].length≤lim)=true from Yhr (by simp only [lim,Yqr,Yvr]; omega),Yjr,Yjr]
      rw [ih _ _ _ d0 (by omega) (by omega) (by omega) (by omega) (by simp only [Yrr,Yqr,Yvr]; omega),Ysr]
      rfl
theorem YL7 (l:List Int) (hl:l.length≤1048576) (hr:∀ r∈l,0≤r∧r < 1114112) (plain told bias delta:Int) (n:Int) (out:List Int):∀ (k i:Nat) (m:Int),i+k=l.length→
    Zx3 l plain told n bias delta m (i:Int) out=
      Zy3 l plain told (YJ n m (l.drop i)) bias (IntKind.i64.wrap (delta+(IntKind.i64.wrap ((IntKind.i64.wrap (YJ n m (l.drop i) - n))*(IntKind.i64.wrap (told+1)))))) 0 out
  | 0,i,m,h=> by
    have:i=l.length:=by omega
    subst this
    rw [YKc,Yc,Yir (YJr _),Ykr,List.drop_length]; rfl
  | k+1,i,m,h=> by
    have hi:i < l.length:=by omega
    have hw:IntKind.i64.wrap ((i:Int)+1)=((i+1:Nat):Int):=by rw [w64 (by omega) (by omega)]; omega
    have hg:List.getD l (Int.toNat (i:Int)) (Ty.zero (.int .i32))=l[i]:=by
      rw [Ypr,Yyr,Yzr hi]; rfl
    have hri:=hr _ (List.getElem_mem hi)
    rw [YKc,Yc,Yhr hi,Yjr,Yj,Yhr hi,Yjr,hg,hw,w64 (x:=l[i]) (by omega) (by omega),Yur hi,YJ]
    by_cases a:n≤l[i]
    · rw [show decide (l[i]≥n)=true from Yhr a,Yjr,Yjr]
      by_cases b:l[i] < m
      · rw [Yhr b,Yjr,Ynr ⟨a,b⟩,Yjr,YL7 l hl hr plain told bias delta n out k (i+1) _ (by omega)]
      · rw [Yir b,Ykr,Ymr (fun h=> b h.2),YL7 l hl hr plain told bias delta n out k (i+1) _ (by omega)]
    · rw [show decide (l[i]≥n)=false from Yir a,Ykr,Ymr (fun h=> a h.1),YL7 l hl hr plain told bias delta n out k (i+1) _ (by omega)]
theorem YK7 (plain:Nat) (n:Int) (l:List Int) (hl:l.length≤65536) (hr:∀ r∈l,0≤r∧r < 1114112):∀ (k i:Nat) (x:EncS),i+k=l.length→Fine x→x.delta+k≤1099511627776→x.told+k≤200000→x.out.length+14*k≤100000000→
    Zy3 l (plain:Int) (x.told:Int) n x.bias x.delta (i:Int) x.out=
      Zw3 l (plain:Int) ((YL n plain (l.drop i) x).told:Int) (IntKind.i64.wrap (n+1)) (YL n plain (l.drop i) x).bias (IntKind.i64.wrap ((YL n plain (l.drop i) x).delta+1)) (YL n plain (l.drop i) x).out
  | 0,i,x,h,_,_,_,_=> by
    have:i=l.length:=by omega
    subst this
    rw [YOc,Yc,Yir (YJr _),Ykr,List.drop_length]; rfl
  | k+1,i,x,h,hf,hd,ht,ho=> by
    have hi:i < l.length:=by omega
    have hw:IntKind.i64.wrap ((i:Int)+1)=((i+1:Nat):Int):=by rw [w64 (by omega) (by omega)]; omega
    have hg:List.getD l (Int.toNat (i:Int)) (Ty.zero (.int .i32))=l[i]:=by
      rw [Ypr,Yyr,Yzr hi]; rfl
    have hri:=hr _ (List.getElem_mem hi)
    obtain ⟨hd0,hb⟩:=hf
    rw [YOc,Yc,Yhr hi,Yjr,Yj,Yhr hi,Yjr,hg,w64 (x:=l[i]) (by omega) (by omega),Yur hi,YL]
    by_cases a:l[i] < n
    · rw [Yhr a,Yjr,Ymr (by omega),Ynr a,w64 (x:=x.delta+1) (by omega) (by omega),YRc,Yj,Yhr hi,Yjr,hg,w64 (x:=l[i]) (by omega) (by omega),show (l[i] !=n)=true from bne_iff_ne.2 (by omega),Yjr,hw]
      exact YK7 plain n l hl hr k (i+1) ⟨x.told,x.bias,x.delta+1,x.out⟩ (by omega) ⟨by dsimp only; omega,hb⟩ (by dsimp only; omega) (by dsimp only; omega) (by dsimp only; omega)
    · rw [Yir a,Ykr,YRc,Yj,Yhr hi,Yjr,hg,w64 (x:=l[i]) (by omega) (by omega)]
      by_cases b:l[i]=n
      · have hlay:=Yk7 x.bias 14 x.delta 36
        have had:=YD3 x.delta ((x.told+1:Nat):Int) (((x.told:Nat):Int)==((plain:Nat):Int)) hd0 (by omega)
        have h10:=YJf
        rw [show (l[i] !=n)=false from by simp [b],Ykr,Ynr b,YZp l plain x.told i n x.bias x.delta hb hd0 (by omega) (by omega) (by omega) 13 x.delta 36 x.out hd0 (by omega) (by omega) (by omega) (by omega) (by omega)]
        exact YK7 plain n l hl hr k (i+1) ⟨x.told+1,Yi1 x.delta ((x.told+1:Nat):Int) (((x.told:Nat):Int)==((plain:Nat):Int)),0,x.out++YQ2 x.delta x.bias⟩ (by omega) ⟨Int.le_refl _,had⟩ (by dsimp only; omega) (by dsimp only; omega) (by dsimp only; rw [Yrr]; unfold YQ2; omega)
      · rw [show (l[i] !=n)=true from bne_iff_ne.2 b,Yjr,Ymr b,Ymr a,hw]
        exact YK7 plain n l hl hr k (i+1) x (by omega) ⟨hd0,hb⟩ (by omega) (by omega) (by omega)
theorem Ybp (l:List Int) (n M:Int) (hl:∀ r∈l,r < 1114112) (hM:1114112≤M) (h:∃ r∈l,n≤r):YJ n M l=YJ n 1114112 l:=by
  obtain ⟨y,hy,hn⟩:=h
  have hy':=hl y hy
  obtain ⟨a1,a2,a3⟩:=Yo7 n l M
  obtain ⟨b1,b2,b3⟩:=Yo7 n l 1114112
  have c1:=a3 y hy hn
  have c2:=b3 y hy hn
  rcases a2 with a2 | a2
  · omega
  · rcases b2 with b2 | b2
    · omega
    · have:=a3 _ b2.1 b2.2
      have:=b3 _ a2.1 a2.2
      omega
theorem Y1q (plain:Nat) (l:List Int) (hl:l.length≤65536) (hr:∀ r∈l,0≤r∧r < 1114112) (f:Nat):∀ (n:Int) (x:EncS),l.length≤x.told+f→x.told=l.countP (fun r=> decide (r < n))→Fine x→x.delta≤65537→x.out.length≤65537+14*x.told→0≤n→n≤1114112→
    Zw3 l (plain:Int) (x.told:Int) n x.bias x.delta x.out=some (Ym (Yo2 l plain f n x)):=by
  have fin:∀ (n:Int) (x:EncS),l.length≤x.told→Zw3 l (plain:Int) (x.told:Int) n x.bias x.delta x.out=some (Ym x.out):=by
    intro n x h
    rw [YFc,Yc,Yir (by omega),Ykr]
  have cle:∀ n:Int,l.countP (fun r=> decide (r < n))≤l.length:=fun n=> List.countP_le_length
  induction f with
  | zero=>
    intro n x h1 h2 _ _ ho _ _
    exact fin n x (by omega)
  | succ f ih=>
    intro n x h1 h2 hf hd ho hn0 hn1
    have hc:=cle n
    unfold Yo2
    by_cases c:l.length≤x.told
    · rw [Ynr c]; exact fin n x c
    · rw [Ymr c]
      obtain ⟨m1,m2,m3,m4,m5⟩:=YX9 l n (fun r h=> (hr r h).2) (by omega)
      have hms:=Ybp l n 1073741824 (fun r h=> (hr r h).2) (by omega) (YFe l n (by omega))
      have hml:=YL7 l (by omega) hr (plain:Int) (x.told:Int) x.bias x.delta n x.out l.length 0 1073741824 (by omega)
      rw [List.drop_zero,hms] at hml
      generalize YJ n 1114112 l=m at m1 m2 m3 m4 m5 hml ⊢
      have hp:=Y04 (a:=m - n) (b:=((x.told+1:Nat):Int)) (A:=1114112) (B:=65537) (by omega) (by omega) (by omega) (by omega)
      have hdx:=hf.1
      have hw2:IntKind.i64.wrap ((x.told:Int)+1)=((x.told+1:Nat):Int):=by rw [w64 (by omega) (by omega)]; omega
      rw [YFc,Yc,Yhr (by omega),Yjr]
      rw [show ((0:Nat):Int)=0 from rfl] at hml
      rw [hml,w64 (x:=m - n) (by omega) (by omega),hw2,w64 (x:=(m - n)*((x.told+1:Nat):Int)) (by omega) (by omega),w64 (x:=x.delta+(m - n)*((x.told+1:Nat):Int)) (by omega) (by omega)]
      have hin:=YK7 plain m l hl hr l.length 0 ⟨x.told,x.bias,x.delta+(m - n)*((x.told+1:Nat):Int),x.out⟩ (by omega) ⟨by dsimp only; omega,hf.2⟩ (by dsimp only; omega) (by dsimp only; omega) (by dsimp only; omega)
      rw [List.drop_zero,show ((0:Nat):Int)=0 from rfl] at hin
      obtain ⟨f1,f2,f3,f4⟩:=YG4 m plain l ⟨x.told,x.bias,x.delta+(m - n)*((x.told+1:Nat):Int),x.out⟩ ⟨by dsimp only; omega,hf.2⟩
      have f3:=f3 ⟨m,m3,rfl⟩
      have ft:=YH4 m plain l ⟨x.told,x.bias,x.delta+(m - n)*((x.told+1:Nat):Int),x.out⟩
      refine hin.trans ?_
      generalize YL m plain l ⟨x.told,x.bias,x.delta+(m - n)*((x.told+1:Nat):Int),x.out⟩=y at f1 f2 f3 f4 ft ⊢
      dsimp only at f4 ft
      have hd1:=f1.1
      have hcl:=cle (m+1)
      rw [w64 (x:=m+1) (by omega) (by omega),w64 (by omega) (by omega)]
      exact ih (m+1) ⟨y.told,y.bias,y.delta+1,y.out⟩ (by dsimp only; omega) (by dsimp only; omega) ⟨by dsimp only; omega,f1.2⟩ (by dsimp only; omega) (by dsimp only; omega) (by omega) (by omega)
theorem YGa (l:List Int) (hl:l.length≤65536) (hr:∀ r∈l,0≤r∧r < 1114112):∀ (k i:Nat) (out:List Int),i+k=l.length→out.length≤i→
    Zu3 l (i:Int) out=Zv3 l ((out++Yt (l.drop i)).length:Int) ((out++Yt (l.drop i)).length:Int) (if (out++Yt (l.drop i)).length=0 then out++Yt (l.drop i) else (out++Yt (l.drop i))++[45])
  | 0,i,out,h,ho=> by
    have:i=l.length:=by omega
    subst this
    rw [YBc,Yc,Yir (YJr _),Ykr,List.drop_length,show Yt []=[] from rfl,YKr]
    by_cases c:out.length=0
    · rw [show decide ((out.length:Int) > 0)=false from Yir (by omega),Ykr,Ynr c]
    · rw [show decide ((out.length:Int) > 0)=true from Yhr (by omega),Yjr,Ymr c,show decide (out.length+[(45:Int)].length≤lim)=true from Yhr (by simp only [lim,Yqr,Yvr]; omega),Yjr]
  | k+1,i,out,h,ho=> by
    have hi:i < l.length:=by omega
    have hw:IntKind.i64.wrap ((i:Int)+1)=((i+1:Nat):Int):=by rw [w64 (by omega) (by omega)]; omega
    have hg:List.getD l (Int.toNat (i:Int)) (Ty.zero (.int .i32))=l[i]:=by
      rw [Ypr,Yyr,Yzr hi]; rfl
    have hri:=hr _ (List.getElem_mem hi)
    rw [YBc,Yc,Yhr hi,Yjr,Yj,Yhr hi,Yjr,hg,hw,Yur hi]
    by_cases a:l[i] < 128
    · have e:Yt (l[i]::l.drop (i+1))=l[i]::Yt (l.drop (i+1)):=by unfold Yt; rw [List.filter_cons_of_pos (by simpa using a)]
      rw [Yhr a,Yjr,Yjr,w8 (by omega) (by omega),show decide (out.length+[l[i]].length≤lim)=true from Yhr (by simp only [lim,Yqr,Yvr]; omega),Yjr,YGa l hl hr k (i+1) _ (by omega) (by simp only [Yrr,Yqr,Yvr]; omega),e]
      simp only [Ysr,List.singleton_append]
    · have e:Yt (l[i]::l.drop (i+1))=Yt (l.drop (i+1)):=by unfold Yt; rw [List.filter_cons_of_neg (by simpa using a)]
      rw [Yir a,Ykr,YGa l hl hr k (i+1) _ (by omega) (by omega),e]
theorem Y6m (l:List Int) (hl:l.length≤65536) (hs:YN l):Y19 l=some (Ym (YO1 l)):=by
  have hr:∀ r∈l,0≤r∧r < 1114112:=fun r h=> Yq2 (hs r h)
  have h1:=YGa l hl hr l.length 0 [] (by omega) (by simp)
  have hsl:(Yt l).length≤l.length:=by rw [Y35]; exact List.countP_le_length
  rw [List.drop_zero,YLr,show ((0:Nat):Int)=0 from rfl] at h1
  rw [Y5m,YIj,h1,YPj]
  exact Y1q (Yt l).length l hl hr l.length 128 ⟨(Yt l).length,72,0,if (Yt l).length=0 then Yt l else Yt l++[45]⟩ (by dsimp only; omega) (Y35 l) ⟨by dsimp only; omega,by dsimp only; omega⟩ (by dsimp only; omega) (by dsimp only; split; omega; rw [Yrr]; simp only [Yqr,Yvr]; omega) (by omega) (by omega)
theorem YYl (s:List UInt8) (hs:s.length≤200000000):Y09 s=some (Yb1 s):=by
  rw [YXl,Yyi,YQd s (by omega),Ylr]
  unfold Yb1
  cases hv:(YJ1 s).1 with
  | false=> rw [YIr,Yjr,Ynr rfl]
  | true=>
    rw [YHr,Ykr,Ymr (by simp)]
    by_cases c:65536 < s.length
    · rw [show decide ((s.length:Int) > 65536)=true from Yhr (by omega),Yjr,Ynr c]
    · have hl:=Yo3 s
      have hel:=YYe (Yq s) (by omega) (fun r h=> Yq2 (YI5 s r h))
      rw [show decide ((s.length:Int) > 65536)=false from Yir (by omega),Ykr,Ymr c,YW8 s (by omega),Ylr,Y6m _ (by omega) (YO7 s),Ylr,Y2e _ (by unfold Ym; rw [List.length_map]; omega),Ylr]
      unfold Yz2
      by_cases d:(Yl1 (Ym (YO1 (Yq s)))).2.1=32
      · rw [show ((Yl1 (Ym (YO1 (Yq s)))).2.1==32)=true from beq_iff_eq.2 d,Yjr,Ynr d]
      · rw [show ((Yl1 (Ym (YO1 (Yq s)))).2.1==32)=false from Ytr.2 d,Ykr,Ymr d]
theorem YXd (s:List UInt8) (hs:s.length≤200000000):Yw6 s=some (Ys s):=by
  have hl:=Ya8 s
  rw [YZl,Ywj,YYl s hs,Ylr,bne0]
  unfold Ys
  by_cases a:(Yb1 s).2≠0
  · rw [Yhr a,Yjr,Yjr,Ynr a]
  · rw [Yir a,Ykr,Ymr a,Y1e s (by omega),Ylr]
    cases Yc1 s with
    | true=> rw [Yjr,Ykr,Ynr rfl]
    | false=>
      rw [Ykr,Ymr (by simp),show decide (([120,110,45,45]:List UInt8).length+(Yb1 s).1.length≤2 ^ 62)=true from Yhr (by simp only [Yqr,Yvr]; omega),Yjr]; rfl
theorem YYd (s:List UInt8) (hs:s.length≤200000000):Yx6 s=some (YA s):=by
  rw [Y0m,Yqi]
  unfold YA
  by_cases a:s.length < 4
  · rw [show decide ((s.length:Int) < 4)=true from Yhr (by omega),Yjr,Ynr a]
  · rw [show decide ((s.length:Int) < 4)=false from Yir (by omega),Ykr,Ymr a,show Yi none (some (4:Int)) s.length=true from by simp [Yi]; omega,Yjr,
      show Yl none (some (4:Int)) s=s.take 4 from rfl,YMd _ _ (by rw [YBr]; omega) (by simp),Ylr,show lowS ([120,110,45,45]:List UInt8)=xn from rfl]
    by_cases b:lowS (s.take 4)=xn
    · rw [show (!(lowS (s.take 4)==xn))=false from by rw [b]; rfl,Ykr,Ymr (fun h=> h b),show Yi (some (4:Int)) none s.length=true from Yj1 (f:=4) (by omega),Yjr,
        show Yl (some (4:Int)) none s=s.drop 4 from rfl,YWl _ (by rw [YCr]; omega),Ylr,bne0]
      by_cases c:(YQ (s.drop 4)).2.1≠0
      · rw [Yhr c,Yjr,Ynr c]
      · have hdl:=Ycb (s.drop 4)
        rw [Yir c,Ykr,Ymr c,YXd _ (by omega),Ylr,Y1e _ (by omega),Ylr,bne0]
        have:=YW5 (YQ (s.drop 4)).1
        by_cases d:(Ys (YQ (s.drop 4)).1).2≠0
        · rw [Yhr d,Ynr d]
          cases Yc1 (YQ (s.drop 4)).1 <;> rfl
        · rw [Yir d,Ymr d]
          cases Yc1 (YQ (s.drop 4)).1 with
          | true=> rw [Yjr,Ynr rfl]
          | false=>
            rw [Ykr,Ykr,Ymr (by simp),YMd _ _ (by omega) (by omega),Ylr]
            by_cases e:lowS (Ys (YQ (s.drop 4)).1).1=lowS s
            · rw [e,Ymr (fun h=> h rfl),show (!(lowS s==lowS s))=false from by simp,Ykr]
            · rw [Ynr e,show (!(lowS (Ys (YQ (s.drop 4)).1).1==lowS s))=true from by simp [e],Yjr]
    · rw [show (!(lowS (s.take 4)==xn))=true from by simp only [Bool.not_eq_true',Ytr]; exact b,Yjr,Ynr b]
end Go.Abs
