/- Part M3 of the proof: see the last text of the claim. No condition of its own. -/
import Derived.Test.YtddagflhafkbnaaGreatDoorM2
import Derived.Test.YtddagflhafkbnaaGreatDoorL9
import Derived.Test.YtddagflhafkbnaaGreatDoorQ3
set_option linter.all false
namespace Go.Abs
set_option autoImplicit false

theorem Ye8 (s:List UInt8) (l:List Int) (hl:l.length≤200000000) (hs:YN l):∀ (n i:Nat) (out:List (List UInt8)) (now:List Int),i+n=l.length→YN now→now.length≤i→out.length≤i→Z52 s (i:Int) l out now=some (out++(dcut now (l.drop i)).map Yb)
  | 0,i,out,now,h,hn,hnl,hol=> by
    have:i=l.length:=by omega
    subst this
    rw [YFb,Yc,Yir (YJr _),Ykr,List.drop_length,YX8 now (by omega) hn,Ylr,show decide (out.length+([Yb now]:List (List UInt8)).length≤lim)=true from Yhr (by simp only [lim,Yqr,Yvr]; omega),Yjr]
    rfl
  | n+1,i,out,now,h,hn,hnl,hol=> by
    have hi:i < l.length:=by omega
    have hw:IntKind.i64.wrap ((i:Int)+1)=((i+1:Nat):Int):=by rw [w64 (by omega) (by omega)]; omega
    have hg:List.getD l (Int.toNat (i:Int)) (Ty.zero (.int .i32))=l[i]:=by
      rw [Ypr,Yyr,Yzr hi]; rfl
    have hsc:=hs _ (List.getElem_mem hi)
    have yes:((YJ2 now).bind fun y0=> bif (decide (((List.length out)+(List.length ([y0.1]:List (List UInt8))))≤(lim))) then Z52 s ((i+1:Nat):Int) l (out++([y0.1]:List (List UInt8))) ([]:List Int) else none)=some (out++(Yb now::(dcut [] (l.drop (i+1))).map Yb)):=by
      rw [YX8 now (by omega) hn,Ylr,show decide (out.length+([Yb now]:List (List UInt8)).length≤lim)=true from Yhr (by simp only [lim,Yqr,Yvr]; omega),Yjr,
        Ye8 s l hl hs n (i+1) _ [] (by omega) (fun x hx=> by cases hx) (by simp) (by simp only [Yrr,Yqr,Yvr]; omega),Ysr]; rfl
    rw [YFb,Yc,Yhr hi,Yjr,Yj,Yhr hi,Yjr,hg,hw,Yur hi,dcut]
    unfold dotI
    by_cases a:l[i]=46
    · rw [show (l[i]==46)=true from beq_iff_eq.2 a,Yjr,YGr,Ynr rfl,yes]; rfl
    rw [show (l[i]==46)=false from Ytr.2 a,Ykr,YFr,Yjr]
    by_cases b:l[i]=12290
    · rw [show (l[i]==12290)=true from beq_iff_eq.2 b,Yjr,YGr,Ynr rfl,yes]; rfl
    rw [show (l[i]==12290)=false from Ytr.2 b,Ykr,YFr,Yjr]
    by_cases c:l[i]=65294
    · rw [show (l[i]==65294)=true from beq_iff_eq.2 c,Yjr,YGr,Ynr rfl,yes]; rfl
    rw [show (l[i]==65294)=false from Ytr.2 c,Ykr,YFr,Yjr]
    by_cases d:l[i]=65377
    · rw [show (l[i]==65377)=true from beq_iff_eq.2 d,Yjr,Ynr rfl,yes]; rfl
    rw [show (l[i]==65377)=false from Ytr.2 d,Ykr,Ymr (by simp),Yjr,show decide (now.length+[l[i]].length≤lim)=true from Yhr (by simp only [lim,Yqr,Yvr]; omega),Yjr,
      Ye8 s l hl hs n (i+1) out (now++[l[i]]) (by omega) (fun x hx=> by
        rcases YDr.1 hx with hx | hx
        · exact hn x hx
        · rw [YQr.1 hx]; exact hsc) (by simp only [Yrr,Yqr,Yvr]; omega) (by omega)]
theorem Y99 (s:List UInt8) (hs:s.length≤200000000):YE6 s=some ((dcut [] (Yq s)).map Yb):=by
  have hl:=Yo3 s
  rw [Yym,YXh,YW8 s (by omega),Ylr]
  have:=Ye8 s (Yq s) (by omega) (YO7 s) (Yq s).length 0 [] [] (by omega) (fun x hx=> by cases hx) (by simp) (by simp)
  rw [show ((0:Nat):Int)=0 from rfl,YLr,List.drop_zero] at this
  exact this
theorem Ylb (l:List (List UInt8)) (hl:l.length≤1000000000) (hj:∀ n,(YS 46 (l.take n)).length≤4611686018427387000):∀ (n i:Nat),i+n=l.length→Z82 l (YS 46 (l.take i)) (i:Int)=some (YS 46 l)
  | 0,i,h=> by
    have:i=l.length:=by omega
    subst this
    rw [YMb,Yc,Yir (YJr _),Ykr,List.take_length]
  | n+1,i,h=> by
    have hi:i < l.length:=by omega
    have hw:IntKind.i64.wrap ((i:Int)+1)=((i+1:Nat):Int):=by rw [w64 (by omega) (by omega)]; omega
    have hg:List.getD l (Int.toNat (i:Int)) (Ty.zero .str)=l[i]:=by
      rw [Ypr,Yyr,Yzr hi]; rfl
    have key:∀ (M:List (List UInt8)) (x:List UInt8),M≠[]→YS 46 (M++[x])=YS 46 M++46::x:=by
      intro M
      induction M with
      | nil=> intro x h; exact absurd rfl h
      | cons a M ih=>
        intro x _
        cases M with
        | nil=> rfl
        | cons b M=>
          have:=ih x (by simp)
          show a++46::YS 46 (b::M++[x])=(a++46::YS 46 (b::M))++46::x
          rw [this,Ysr]; rfl
    have ht:l.take (i+1)=l.take i++[l[i]]:=List.take_succ_eq_append_getElem hi
    have hlen:=hj (i+1)
    have step:∀ t:List UInt8,t++l[i]=YS 46 (l.take (i+1))→Z92 l t (i:Int)=some (YS 46 l):=by
      intro t e
      have hte:=congrArg List.length e
      rw [Yrr] at hte
      rw [Yki,Yj,Yhr hi,Yjr,hg,show decide (t.length+l[i].length≤2 ^ 62)=true from Yhr (by omega),Yjr,hw,e]
      exact Ylb l hl hj n (i+1) (by omega)
    rw [YMb,Yc,Yhr hi,Yjr]
    by_cases c:0 < i
    · have hne:l.take i≠[]:=by
        intro e
        have:=congrArg List.length e
        rw [YBr,Yvr] at this; omega
      have e:=key (l.take i) l[i] hne
      rw [←ht] at e
      have h2:=congrArg List.length e
      rw [Yrr,Yqr] at h2
      rw [show decide ((i:Int) > 0)=true from Yhr (by omega),Yjr,show decide ((YS 46 (l.take i)).length+([46]:List UInt8).length≤2 ^ 62)=true from Yhr (by simp only [Yqr,Yvr]; omega),Yjr]
      exact step _ (by rw [e,Ysr]; rfl)
    · have:i=0:=by omega
      subst this
      rw [show decide (((0:Nat):Int) > 0)=false from rfl,Ykr]
      exact step _ (by rw [ht]; rfl)
theorem Yzo (l:List (List UInt8)):∀ n,(YS 46 (l.take n)).length≤(YS 46 l).length:=by
  induction l with
  | nil=> intro n; simp [YS]
  | cons a l ih=>
    intro n
    cases n with
    | zero=> simp [YS]
    | succ n=>
      cases l with
      | nil=> simp [YS]
      | cons b l=>
        cases n with
        | zero=> simp only [List.take_succ_cons,List.take_zero,YS,Yrr]; omega
        | succ n=>
          have:=ih (n+1)
          simp only [List.take_succ_cons] at this ⊢
          simp only [YS,Yrr,Yqr]
          omega
theorem Ya9 (l:List (List UInt8)) (hl:l.length≤1000000000) (hj:(YS 46 l).length≤4611686018427387000):YF6 l=some (Lib.join l [46]):=by
  rw [YBm,Yci,Yh7]
  have:=Ylb l hl (fun n=> Nat.le_trans (Yzo l n) hj) l.length 0 (by omega)
  rw [List.take_zero] at this
  exact this

theorem YA9 (s:List UInt8) (hb:∀ b∈s,Y7 b < 128) (hs:s.length≤65536):(Yb1 s).2=0:=by
  have hsc:=Y15 s hb
  have hsm:Yt (s.map Y7)=s.map Y7:=by
    unfold Yt
    apply List.filter_eq_self.2
    intro x hx
    obtain ⟨b,h,rfl⟩:=List.mem_map.1 hx
    exact Yhr (hb b h)
  have hout:YO1 (s.map Y7)=if (s.map Y7).length=0 then s.map Y7 else s.map Y7++[45]:=by
    unfold YO1
    rw [hsm]
    cases hL:(s.map Y7).length with
    | zero=> rfl
    | succ n=>
      unfold Yo2
      rw [Ynr (by dsimp only; omega)]
  have hdec:(Yl1 (Ym (YO1 (Yq s)))).2.1=0:=by
    rw [hsc,hout]
    by_cases c:(s.map Y7).length=0
    · have:s=[]:=by simpa using c
      subst this; rfl
    · rw [Ymr c]
      have hso:Ym (s.map Y7++[45])=s++[45]:=by
        unfold Ym
        rw [List.map_append]
        have:List.map (fun n:Int=> UInt8.ofNat n.toNat) (s.map Y7)=s:=YKq s
        rw [this]; rfl
      rw [hso]
      have hall:∀ b∈s++[45],Y7 b < 128:=by
        intro b h
        rcases YDr.1 h with h | h
        · exact hb b h
        · rw [YQr.1 h]; decide
      have hh:∀ n k,YP1 (s++[45]) n k=none:=by
        intro n
        induction n with
        | zero=> intro k; rfl
        | succ n ih=>
          intro k
          unfold YP1
          have:¬127 < bat (s++[45]) k:=by
            by_cases hk:k < (s++[45]).length
            · have h1:=hall _ (List.getElem_mem hk)
              have h2:=(Ys1 _ k hk).2
              omega
            · unfold bat
              rw [Yyr,List.getElem?_eq_none (by omega)]
              decide
          rw [Ymr this]; exact ih _
      have hlast:Yp (s++[45]) (s++[45]).length=(s.length:Int):=by
        rw [Yrr,Yqr,Yvr]
        show Yp (s++[45]) (s.length+1)=_
        unfold Yp
        rw [Ynr (show bat (s++[45]) s.length=45 from Ygk s 45 [])]
      unfold Yl1
      rw [hh]
      dsimp only
      rw [hlast]
      have hll:(s++[45]).length=s.length+1:=by simp
      rw [hll]
      unfold decV
      rw [Ynr (by omega)]
  rcases YV5 s with ⟨h1,_⟩ | ⟨h1,_⟩
  · exfalso
    apply h1
    unfold Yb1 Yz2
    rw [Ymr (by rw [Yhh s hb]; simp),Ymr (by omega),Ymr (by rw [hdec]; omega)]
  · rw [h1]
def YT (s:List UInt8):List UInt8×Bool:=
  if has s 65533=true then ([],false) else if (Ys (lowS s)).2≠0 then ([],false) else if 63 < (Ys (lowS s)).1.length then ([],false)
  else if (YA (Ys (lowS s)).1).2=0 then (if has (YA (Ys (lowS s)).1).1 65533=false then ((Ys (lowS s)).1,decide ((dcut [] (Yq (YA (Ys (lowS s)).1).1)).length=1)) else ((Ys (lowS s)).1,false))
  else ((Ys (lowS s)).1,false)
theorem Yae (s:List UInt8) (hs:s.length≤100000000):Yb9 s=some (YT s):=by
  have h1:=Yl7 s
  have h2:=YW5 (lowS s)
  have h3:=Ysb (Ys (lowS s)).1
  rw [YCm,Y5i,Yce s (by omega),Ylr]
  unfold YT
  cases has s 65533 with
  | true=> rw [Yjr,Ynr rfl]
  | false=>
    rw [Ykr,Ymr (by simp),YT8 s (by omega),Ylr,YXd _ (by omega),Ylr,bne0]
    by_cases a:(Ys (lowS s)).2≠0
    · rw [Yhr a,Yjr,Ynr a]
    · rw [Yir a,Ykr,Ymr a]
      by_cases b:63 < (Ys (lowS s)).1.length
      · rw [show decide (((Ys (lowS s)).1.length:Int) > 63)=true from Yhr (by omega),Yjr,Ynr b]
      · rw [show decide (((Ys (lowS s)).1.length:Int) > 63)=false from Yir (by omega),Ykr,Ymr b,YYd _ (by omega),Ylr]
        by_cases c:(YA (Ys (lowS s)).1).2=0
        · rw [show ((YA (Ys (lowS s)).1).2==0)=true from beq_iff_eq.2 c,Yjr,Ynr c,Yce _ (by omega),Ylr]
          cases has (YA (Ys (lowS s)).1).1 65533 with
          | true=> rw [YHr,Ykr,Ymr (by simp)]
          | false=>
            rw [YIr,Yjr,Ynr rfl,Y99 _ (by omega),Ylr,List.length_map]
            congr 2
            rw [Bool.eq_iff_iff,beq_iff_eq,YAr]
            omega
        · rw [show ((YA (Ys (lowS s)).1).2==0)=false from Ytr.2 c,Ykr,Ymr c]
end Go.Abs
namespace Go.Abs
set_option autoImplicit false

theorem YW6:∀ (l cur:List Int),(dcut cur l).length=1↔l.any dotI=false
  | [],cur=> by simp [dcut]
  | r::l,cur=> by
    unfold dcut
    rw [List.any_cons]
    cases h:dotI r with
    | true=>
      rw [Ynr rfl,YGr,Yqr]
      have:=(Ys4 l []).1
      constructor
      · intro e; omega
      · intro e; cases e
    | false=>
      rw [Ymr (by simp),YFr]
      exact YW6 l _
theorem Ygo (l:List Int) (hl:YN l):has (lowS (Yb l)) 65533=has (Yb l) 65533:=by
  unfold has
  rw [YV9 l hl,YQ7 _ (YRf hl),YQ7 l hl,List.any_map]
  congr 1
  funext x
  show (lowI x==65533)=(x==65533)
  rw [Yj2]
  by_cases c:65≤x∧x≤90
  · rw [Ynr c,Ytr.2 (by omega),Ytr.2 (by omega)]
  · rw [Ymr c]
theorem YJo (s:List UInt8) (hs:s≠[]) (h:(Ys s).2=0):(Ys s).1≠[]:=by
  unfold Ys at h ⊢
  by_cases a:(Yb1 s).2≠0
  · rw [Ynr a] at h; exact absurd h a
  rw [Ymr a]
  by_cases b:Yc1 s=true
  · rw [Ynr b]; exact hs
  · rw [Ymr b]; simp [xn]
theorem YMo (l:List Int) (hl:YN l) (hd:YY7 l) (hlen:(Yb l).length≤65536) (last:Bool):
    ((YT (Yb l)).2=false∧YG (Yb l) last=([],53))∨
    ((YT (Yb l)).2=true∧(YT (Yb l)).1=[]∧last=false∧YG (Yb l) last=([],53))∨
    ((YT (Yb l)).2=true∧((YT (Yb l)).1=[]→last=true)∧YG (Yb l) last=((YT (Yb l)).1,0)):=by
  have hlow:=YV9 l hl
  have hsc:=YQ7 _ (YRf hl)
  have hok:∀ r∈l.map lowI,r < 128→okI r:=by
    intro r hr h1
    obtain ⟨x,hx,rfl⟩:=List.mem_map.1 hr
    exact Y5p (hl x hx) (hd x hx) h1
  have hhl:=Ygo l hl
  have hll:=Yl7 (Yb l)
  unfold YT YG
  rw [hhl]
  by_cases w:has (Yb l) 65533=true
  · refine .inl ⟨by rw [Ynr w],?_⟩
    rw [Ymr (fun h=> by rw [w] at h; cases h.2),Ynr w]
  have wf:has (Yb l) 65533=false:=by simpa using w
  rw [Ymr w,Ymr w]
  have hY:(if Yc1 (lowS (Yb l))=false∧has (Yb l) 65533=false then (if (Ys (lowS (Yb l))).2≠0 then (([]:List UInt8),(53:Int)) else Yw1 (Ys (lowS (Yb l))).1 last) else Yw1 (lowS (Yb l)) last)=
      (if (Ys (lowS (Yb l))).2≠0 then (([]:List UInt8),(53:Int)) else Yw1 (Ys (lowS (Yb l))).1 last):=by
    cases hb:Yc1 (lowS (Yb l)) with
    | false=> rw [Ynr ⟨rfl,wf⟩]
    | true=>
      have he:=YA9 _ (Y56 hb) (by omega)
      have:Ys (lowS (Yb l))=(lowS (Yb l),0):=by
        unfold Ys
        rw [Ymr (by rw [he]; omega),Ynr hb]
      have e0:¬(true=false∧has (Yb l) 65533=false):=fun h=> by cases h.1
      rw [Ymr e0,this,Ymr (show ¬((0:Int)≠0) from fun h=> h rfl)]
  rw [hY]
  by_cases a:(Ys (lowS (Yb l))).2≠0
  · exact .inl ⟨by rw [Ynr a],by rw [Ynr a]⟩
  rw [Ymr a,Ymr a]
  have htok:tok (Ys (lowS (Yb l))).1:=by
    cases hb:Yc1 (lowS (Yb l)) with
    | false=> exact YLo (lowS (Yb l)) _ (by rw [hlow,hsc]; exact hok) hb (Prod.ext rfl (Decidable.not_not.1 a))
    | true=>
      have he:=YA9 _ (Y56 hb) (by omega)
      have:Ys (lowS (Yb l))=(lowS (Yb l),0):=by
        unfold Ys
        rw [Ymr (by rw [he]; omega),Ynr hb]
      rw [this]
      intro b hbm
      have h1:=Y56 hb b hbm
      have h2:=Y15 _ (Y56 hb)
      rw [hlow,hsc] at h2
      refine hok _ ?_ h1
      rw [h2,←hlow]
      exact List.mem_map_of_mem hbm
  generalize (Ys (lowS (Yb l))).1=t at htok
  unfold Yw1
  by_cases b:63 < t.length
  · exact .inl ⟨by rw [Ynr b],by rw [Ynr b]⟩
  rw [Ymr b,Ymr b]
  have hx:isXn t=(decide (4≤t.length)&&(lowS (t.take 4)==xn)):=by unfold isXn; rw [YQq (YMq htok)]
  cases hn:isXn t with
  | false=>
    have hu:YA t=(t,0):=by
      unfold YA
      by_cases c:t.length < 4
      · rw [Ynr c]
      · rw [Ymr c]
        rw [hn,Yhr (by omega),Bool.true_and] at hx
        rw [Ynr (Ytr.1 hx.symm)]
    have hdc:(dcut [] (Yq t)).length=1:=by
      rw [YW6,Y15 t (Y0b htok),List.any_eq_false]
      intro x hx
      rw [YRq htok x hx]; simp
    rw [hu]
    dsimp only
    rw [Ynr rfl,YPq htok,Ynr rfl,hdc]
    by_cases e:t=[]∧last=false
    · rw [Ynr e]
      exact .inr (.inl ⟨rfl,e.1,e.2,rfl⟩)
    · rw [Ymr e,Ymr (by simp)]
      refine .inr (.inr ⟨rfl,fun h=> ?_,rfl⟩)
      cases last with
      | true=> rfl
      | false=> exact absurd ⟨h,rfl⟩ e
  | true=>
    have hne:t≠[]:=by
      intro e
      rw [e] at hn; cases hn
    have e1:¬(t=[]∧last=false):=fun h=> hne h.1
    rw [Ymr e1,Ynr (show true=true from rfl)]
    by_cases c:(YA t).2=0
    · have e2:¬((YA t).2≠0):=fun h=> h c
      rw [Ynr c,Ymr e2]
      cases hh:has (YA t).1 65533 with
      | true=> rw [Ymr (by simp),Ynr rfl]; exact .inl ⟨rfl,rfl⟩
      | false=>
        rw [Ynr rfl,Ymr (by simp)]
        cases hdo:Yu4 (YA t).1 with
        | true=>
          rw [Ynr rfl]
          refine .inl ⟨Yir (fun e=> ?_),rfl⟩
          have:=(YW6 (Yq (YA t).1) []).1 e
          unfold Yu4 at hdo
          rw [hdo] at this; cases this
        | false=>
          rw [Ymr (by simp)]
          exact .inr (.inr ⟨Yhr ((YW6 _ _).2 hdo),fun h=> absurd h hne,rfl⟩)
    · rw [Ymr c,Ynr c]; exact .inl ⟨rfl,rfl⟩
end Go.Abs
namespace Go.Abs
set_option autoImplicit false

theorem Y8h (y:List UInt8) (hy:y.length≤1073741824) (s:List UInt8):(bif (decide ((((List.length y):Nat):Int) > (0:Int))) then
          bif (Ya (IntKind.wrap IntKind.i64 ((((List.length y):Nat):Int) - (1:Int))) (List.length y)) then
            bif ((((UInt8.toNat (List.getD y (Int.toNat (IntKind.wrap IntKind.i64 ((((List.length y):Nat):Int) - (1:Int)))) (0:UInt8))):Nat):Int)==(46:Int)) then
              Zv1 s y (IntKind.wrap IntKind.i64 ((((List.length y):Nat):Int) - (1:Int)))
            else
              Zv1 s y (((List.length y):Nat):Int)
          else
            none
        else
          Zv1 s y (((List.length y):Nat):Int))=some (if 253 < (Yz1 y).length then ([],5) else (y,0)):=by
  have fin:∀ n:Nat,n=(Yz1 y).length→Zv1 s y (n:Int)=some (if 253 < (Yz1 y).length then ([],5) else (y,0)):=by
    rintro n rfl
    rw [YOj]
    by_cases c:253 < (Yz1 y).length
    · rw [show decide (((Yz1 y).length:Int) > 253)=true from Yhr (by omega),Yjr,Ynr c]
    · rw [show decide (((Yz1 y).length:Int) > 253)=false from Yir (by omega),Ykr,Ymr c]
  by_cases c:0 < y.length
  · have hw:IntKind.i64.wrap ((y.length:Int) - 1)=((y.length - 1:Nat):Int):=by rw [w64 (by omega) (by omega)]; omega
    have hg:=Y57 y c
    rw [show decide ((y.length:Int) > 0)=true from Yhr (by omega),Yjr,hw,Yj,Yhr (by omega),Yjr,Ypr]
    by_cases g:y.getD (y.length - 1) 0=46
    · rw [g,show ((((46:UInt8).toNat:Nat):Int)==46)=true from rfl,Yjr]
      refine fin _ ?_
      unfold Yz1
      rw [hg,g,Ynr rfl,List.length_dropLast]
    · rw [show ((((y.getD (y.length - 1) 0).toNat:Nat):Int)==46)=false from Ytr.2 (fun e=> g (YH2 (show Y7 _=Y7 46 from e))),Ykr]
      refine fin _ ?_
      unfold Yz1
      rw [hg,Ymr (by simpa using g)]
  · rw [show decide ((y.length:Int) > 0)=false from Yir (by omega),Ykr]
    refine fin _ ?_
    have:y=[]:=List.eq_nil_of_length_eq_zero (by omega)
    subst this; rfl
theorem YRp (s:List UInt8) (h:(YT s).2=true):(YT s).1.length≤63:=by
  unfold YT at h ⊢
  repeat' split at h
  all_goals first | (cases h; done) | skip
  rename_i h1 h2 h3 h4 h5
  rw [Ymr h1,Ymr h2,Ymr h3,Ynr h4,Ynr h5]
  dsimp only; omega
theorem YSp (s:List UInt8) (hs:s≠[]) (h:(YT s).2=true):(YT s).1≠[]:=by
  have hlow:lowS s≠[]:=fun e=> hs (by
    have:=Yl7 s
    rw [e] at this
    exact List.eq_nil_of_length_eq_zero (by simpa using this.symm))
  unfold YT at h ⊢
  repeat' split at h
  all_goals first | (cases h; done) | skip
  rename_i h1 h2 h3 h4 h5
  rw [Ymr h1,Ymr h2,Ymr h3,Ynr h4,Ynr h5]
  exact YJo _ hlow (Decidable.not_not.1 h2)
theorem Yhb (s:List UInt8):∀ (M:List (List Int)) (don:List (List UInt8)),(∀ x∈M,YN x∧YY7 x∧(Yb x).length≤65536)→don.length+M.length≤70000→(∀ x∈don,x.length≤63)→(don.length+M.length=1→∀ x∈M,x≠[])→
    Zu1 s (don.length:Int) (don++M.map Yb)=some (if (Yw don.length (M.map Yb)).2≠0 then ([],(Yw don.length (M.map Yb)).2) else YX1 (don++(Yw don.length (M.map Yb)).1))
  | [],don,hM,hl,hd,h1=> by
    have hj:=YBf 63 don hd
    have hl:don.length≤70000:=by simpa using hl
    rw [List.map_nil,YKr,Y46,Yc,Yir (YJr _),Ykr,Ya9 don (by omega) (by rw [←Yh7]; omega),Ylr,Y8h _ (by omega)]
    unfold Yw YX1
    rw [Ymr (show ¬((0:Int)≠0) from fun h=> h rfl),YKr]
  | x::M,don,hM,hl,hd,h1=> by
    have hll:(don++(x::M).map Yb).length=don.length+M.length+1:=by simp only [Yrr,List.length_map,Yqr]; omega
    have hl:don.length+M.length+1≤70000:=by simpa [Nat.add_assoc] using hl
    have hi:don.length < (don++(x::M).map Yb).length:=by omega
    have hg:List.getD (don++(x::M).map Yb) (Int.toNat (don.length:Int)) (Ty.zero .str)=Yb x:=by
      rw [Ypr,Yyr,List.getElem?_append_right (by omega),Nat.sub_self]; rfl
    have hset:∀ y,List.set (don++(x::M).map Yb) (Int.toNat (don.length:Int)) y=(don++[y])++M.map Yb:=by
      intro y
      rw [Ypr,YEr,List.set_append_right _ _ (by omega),Nat.sub_self,List.set_cons_zero,Ysr]; rfl
    have hw:IntKind.i64.wrap ((don.length:Int)+1)=((don.length+1:Nat):Int):=by rw [w64 (by omega) (by omega)]; omega
    obtain ⟨x1,x2,x3⟩:=hM x (by simp)
    rw [Y46,Yc,Yhr hi,Yjr,Yj,Yhr hi,Yjr,hg,Yae _ (by omega),Ylr,hset,hw,w64 (x:=(((don++(x::M).map Yb).length:Nat):Int) - 1) (by omega) (by omega),YEr,Yw]
    have hemp:(M.map Yb).isEmpty=M.isEmpty:=by cases M <;> rfl
    have next:(YT (Yb x)).2=true→Zu1 s ((don.length+1:Nat):Int) ((don++[(YT (Yb x)).1])++M.map Yb)=some (if (Yw (don.length+1) (M.map Yb)).2≠0 then ([],(Yw (don.length+1) (M.map Yb)).2) else YX1 (don++((YT (Yb x)).1::(Yw (don.length+1) (M.map Yb)).1))):=by
      intro hok
      have hlen:=YRp _ hok
      have ih:=Yhb s M (don++[(YT (Yb x)).1]) (fun y hy=> hM y (by simp [hy])) (by simp only [Yrr,Yqr,Yvr]; omega) (fun y hy=> by
        rcases YDr.1 hy with hy | hy
        · exact hd y hy
        · rw [YQr.1 hy]; exact hlen) (fun e y hy=> by
        simp only [Yrr,Yqr,Yvr] at e
        have:M=[]:=List.eq_nil_of_length_eq_zero (by omega)
        rw [this] at hy; cases hy)
      have hlen2:(don++[(YT (Yb x)).1]).length=don.length+1:=by simp
      rw [hlen2] at ih
      rw [ih]
      simp only [Ysr,List.singleton_append]
    rcases YMo x x1 x2 x3 ((M.map Yb).isEmpty&&decide (0 < don.length)) with ⟨q1,q2⟩ | ⟨q1,q2,q3,q4⟩ | ⟨q1,q2,q3⟩
    · rw [q1,YIr,Yjr,q2,Ynr (show ((53:Int))≠0 by omega)]
      rfl
    · rw [q1,YHr,Ykr,q2,show (([]:List UInt8)==[])=true from rfl,Yjr,q4,Ynr (show ((53:Int))≠0 by omega)]
      have:(don.length:Int) < (((don++(Yb x::M.map Yb)).length:Nat):Int) - 1:=by
        have e:(don++(Yb x::M.map Yb)).length=don.length+M.length+1:=hll
        rw [e]
        cases M with
        | cons z M=> simp only [Yqr]; omega
        | nil=>
          exfalso
          rw [List.map_nil,List.isEmpty_nil,Bool.true_and,decide_eq_false_iff_not] at q3
          have hx:=h1 (by simp only [Yqr,Yvr]; omega) x (by simp)
          have hne:Yb x≠[]:=fun e=> by
            have:=Y2h x
            rw [e] at this
            exact hx (List.eq_nil_of_length_eq_zero (by simpa using this))
          exact YSp _ hne q1 q2
      rw [Yhr this,Yjr]; rfl
    · rw [q1,YHr,Ykr,q3,Ymr (show ¬((0:Int)≠0) from fun h=> h rfl)]
      have tail:(if (if (Yw (don.length+1) (M.map Yb)).2≠0 then (([]:List (List UInt8)),(Yw (don.length+1) (M.map Yb)).2) else ((YT (Yb x)).1::(Yw (don.length+1) (M.map Yb)).1,0)).2≠0 then (([]:List UInt8),(if (Yw (don.length+1) (M.map Yb)).2≠0 then (([]:List (List UInt8)),(Yw (don.length+1) (M.map Yb)).2) else ((YT (Yb x)).1::(Yw (don.length+1) (M.map Yb)).1,0)).2)
          else YX1 (don++(if (Yw (don.length+1) (M.map Yb)).2≠0 then (([]:List (List UInt8)),(Yw (don.length+1) (M.map Yb)).2) else ((YT (Yb x)).1::(Yw (don.length+1) (M.map Yb)).1,0)).1))=
          (if (Yw (don.length+1) (M.map Yb)).2≠0 then ([],(Yw (don.length+1) (M.map Yb)).2) else YX1 (don++((YT (Yb x)).1::(Yw (don.length+1) (M.map Yb)).1))):=by
        by_cases d:(Yw (don.length+1) (M.map Yb)).2≠0
        · rw [Ynr d,Ynr d,Ynr d]
        · rw [Ymr d,Ymr d,Ymr (show ¬((0:Int)≠0) from fun h=> h rfl)]
      rw [tail]
      by_cases e:(YT (Yb x)).1=[]
      · have hlast:=q2 e
        rw [Yor,hemp] at hlast
        have hMe:M=[]:=by cases M with
          | nil=> rfl
          | cons a b=> cases hlast.1
        have nlt:¬(don.length:Int) < (((don++(Yb x::M.map Yb)).length:Nat):Int) - 1:=by
          have e:(don++(Yb x::M.map Yb)).length=don.length+M.length+1:=hll
          rw [e,hMe]
          simp only [Yvr]; omega
        rw [show ((YT (Yb x)).1==[])=true from by rw [e]; rfl,Yjr,Yir nlt,Ykr,Yjr]
        exact next q1
      · rw [show ((YT (Yb x)).1==[])=false from by simpa using e,Ykr,Yjr]
        exact next q1
theorem Yv9:∀ (l cur:List Int),∀ x∈dcut cur l,(Yb x).length≤(Yb cur++Yb l).length
  | [],cur,x,hx=> by rw [YQr.1 hx,Yrr]; omega
  | r::l,cur,x,hx=> by
    unfold dcut at hx
    have e:Yb (r::l)=rbs r++Yb l:=Yr1 r l
    split at hx
    · rcases Yxr.1 hx with rfl | hx
      · rw [Yrr]; omega
      · have:=Yv9 l [] x hx
        rw [YS1,YLr] at this
        rw [Yrr,e,Yrr]; omega
    · have:=Yv9 l (cur++[r]) x hx
      rw [Ys3,Yr1,YS1,YKr] at this
      rw [e]
      simp only [Yrr] at this ⊢
      omega
theorem YKe:∀ (l cur:List Int),(dcut cur l).length=1→dcut cur l=[cur++l]
  | [],cur,_=> by rw [YKr]; rfl
  | r::l,cur,h=> by
    unfold dcut at h ⊢
    split at h
    · have:=(Ys4 l []).1
      simp only [Yqr] at h; omega
    · rename_i hd
      rw [Ymr hd,YKe l _ h,Ysr]; rfl
theorem YTp:YT []=([],true):=by
  have e0:has [] 65533=false:=rfl
  have e1:lowS []=[]:=rfl
  have e2:Ys []=([],0):=by
    unfold Ys
    rw [Ymr (by rw [YA9 [] (fun b hb=> by cases hb) (by simp)]; omega),Ynr (show Yc1 []=true from rfl)]
  have e3:YA []=([],0):=by unfold YA; rw [Ynr (by simp)]
  unfold YT
  rw [e0,e1,e2,e3]
  rfl
theorem Y8e (s:List UInt8) (hs:s.length≤100000000):Yj4 s=some (YY s):=by
  rw [Yvm,YGj,YQd s (by omega),Ylr]
  by_cases hne:s=[]
  · subst hne
    rw [Ydk,show (YJ1 []).1=true from rfl,YHr,Ykr,show decide (((([]:List UInt8).length:Nat):Int) > 65536)=false from rfl,Ykr,Y99 [] (by simp),Ylr]
    rw [show (dcut [] (Yq [])).map Yb=[[]] from rfl,Y46,show decide ((0:Int) < ((([[]]:List (List UInt8)).length:Nat):Int))=true from rfl,Yjr,show Ya (0:Int) ([[]]:List (List UInt8)).length=true from rfl,Yjr,
      show List.getD ([[]]:List (List UInt8)) (Int.toNat 0) (Ty.zero .str)=[] from rfl,Yae [] (by simp),YTp,Ylr,YHr,Ykr,show (([]:List UInt8)==[])=true from rfl,Yjr]
    rw [show decide ((0:Int) < IntKind.i64.wrap (((([[]]:List (List UInt8)).length:Nat):Int) - 1))=false from by
        rw [show IntKind.i64.wrap (((([[]]:List (List UInt8)).length:Nat):Int) - 1)=0 from k1]; rfl,Ykr,Yjr,show List.set ([[]]:List (List UInt8)) (Int.toNat 0) []=[[]] from rfl,show IntKind.i64.wrap ((0:Int)+1)=1 from a1,Y46,
      show decide ((1:Int) < ((([[]]:List (List UInt8)).length:Nat):Int))=false from rfl,Ykr,Ya9 [[]] (by simp) (by simp [YS]),Ylr,Y8h _ (by simp [Lib.join_one])]
    rw [Lib.join_one]; rfl
  unfold YY
  cases hv:(YJ1 s).1 with
  | false=> rw [YIr,Yjr,Ynr rfl]
  | true=>
    rw [YHr,Ykr,Ymr (by simp)]
    by_cases c:65536 < s.length
    · rw [show decide ((s.length:Int) > 65536)=true from Yhr (by omega),Yjr,Ynr c]
    · rw [show decide ((s.length:Int) > 65536)=false from Yir (by omega),Ykr,Ymr c,Ymr hne,Y99 s (by omega),Ylr]
      have hsl:=Yo3 s
      have hdl:=Ys4 (Yq s) []
      have htot:Yb (Yq s)=s:=Y3h s hv
      have hM:∀ x∈dcut [] (Yq s),YN x∧YY7 x∧(Yb x).length≤65536:=by
        intro x hx
        refine ⟨fun r hr=> ?_,fun r hr=> ?_,?_⟩
        · rcases YV6 _ _ x hx r hr with h | h
          · cases h
          · exact YI5 s r h.1
        · rcases YV6 _ _ x hx r hr with h | h
          · cases h
          · exact h.2
        · have:=Yv9 (Yq s) [] x hx
          rw [YS1,YLr,htot] at this
          omega
      have h2:=Yhb s (dcut [] (Yq s)) [] hM (by simp only [Yvr]; omega) (fun x hx=> by cases hx) (fun e x hx=> by
        rw [Yvr,Nat.zero_add] at e
        have:=YKe _ _ e
        rw [this] at hx
        have hx:=YQr.1 hx
        rw [YLr] at hx
        rw [hx]
        intro e2
        rw [e2] at htot
        exact hne htot.symm)
      rw [Yvr,YLr,YLr,show ((0:Nat):Int)=0 from rfl] at h2
      rw [h2]

theorem Yjb (s:List UInt8):∀ (todo don:List (List UInt8)),don.length+todo.length≤900000000→(∀ x∈todo,x.length≤100000000)→(YS 46 (don++todo.map uniL)).length≤4611686018427387000→
    Zx1 s (don.length:Int) (don++todo)=some (Lib.join (don++todo.map uniL) [46])
  | [],don,hl,ht,hj=> by
    have hl:don.length≤900000000:=by simpa using hl
    rw [List.map_nil,YKr] at hj
    rw [YIc,Yc,Yir (by simp),Ykr,YKr,List.map_nil,YKr,Ya9 don (by omega) hj]; rfl
  | x::todo,don,hl,ht,hj=> by
    have hi:don.length < (don++x::todo).length:=by rw [Yrr,Yqr]; omega
    have hl:don.length+todo.length+1≤900000000:=by simpa [Nat.add_assoc] using hl
    have hg:List.getD (don++x::todo) (Int.toNat (don.length:Int)) (Ty.zero .str)=x:=by
      rw [Ypr,Yyr,List.getElem?_append_right (by omega),Nat.sub_self]; rfl
    have hset:∀ y,List.set (don++x::todo) (Int.toNat (don.length:Int)) y=(don++[y])++todo:=by
      intro y
      rw [Ypr,List.set_append_right _ _ (by omega),Nat.sub_self,List.set_cons_zero,Ysr]; rfl
    have hw:IntKind.i64.wrap ((don.length:Int)+1)=((don.length+1:Nat):Int):=by rw [w64 (by omega) (by omega)]; omega
    have step:∀ y,y=uniL x→Zx1 s ((don.length+1:Nat):Int) ((don++[y])++todo)=some (Lib.join (don++(x::todo).map uniL) [46]):=by
      rintro y rfl
      have e:(don++[uniL x])++todo.map uniL=don++(x::todo).map uniL:=by rw [YEr,Ysr]; rfl
      have ih:=Yjb s todo (don++[uniL x]) (by simp only [Yrr,Yqr,Yvr]; omega) (fun y hy=> ht y (by simp [hy])) (by rw [e]; exact hj)
      rw [e,show (don++[uniL x]).length=don.length+1 from by simp] at ih
      exact ih
    rw [YIc,Yc,Yhr hi,Yjr,Yj,Yhr hi,Yjr,hg,YYd x (by have:=ht x (by simp); omega),Ylr,hset,hw]
    by_cases c:(YA x).2=0
    · rw [show ((YA x).2==0)=true from beq_iff_eq.2 c,Yjr,Yjr,step _ (by unfold uniL; rw [Ynr c])]
    · have:=step x (by unfold uniL; rw [Ymr c])
      rw [Ysr,List.singleton_append] at this
      rw [show ((YA x).2==0)=false from Ytr.2 c,Ykr,this]
theorem YTa (sep:Int) (c:UInt8) (hc:Y7 c=sep):∀ (l cur:List UInt8),YS c (Ya1 sep cur l)=cur++l
  | [],cur=> by rw [YKr]; rfl
  | b::l,cur=> by
    unfold Ya1
    by_cases h:((b.toNat:Nat):Int)=sep
    · have hb:b=c:=YH2 (show Y7 b=Y7 c by rw [hc]; exact h)
      rw [Ynr h]
      have ih:=YTa sep c hc l []
      have hp:=YM5 sep l []
      cases hs:Ya1 sep [] l with
      | nil=> rw [hs] at hp; simp at hp
      | cons z zs=>
        rw [hs] at ih
        rw [YS,ih,hb]; rfl
    · rw [Ymr h,YTa sep c hc l (cur++[b]),Ysr]; rfl
theorem Ydh (s:List UInt8):(YS 46 ((YP s 46).map uniL)).length≤4*s.length:=by
  have h:=Yzf (YP s 46)
  unfold YP at h ⊢
  rw [YTa 46 46 rfl,YLr] at h
  exact h
theorem Yxm (s:List UInt8) (hs:s.length≤100000000):Y89 s=some (Yeh s):=by
  have h1:=Yq3 46 s []
  have h2:=Y84 46 s []
  have h3:=Ydh s
  rw [Ywm,YTj,Yn6 s 46 (by omega),Ylr]
  have:=Yjb s (YP s 46) [] (by simp only [Yvr]; unfold YP; omega) (fun x hx=> by
    have:=h2 x hx
    simp only [Yvr] at*; omega) (by rw [YLr]; omega)
  rw [YLr,YLr,Yvr,show ((0:Nat):Int)=0 from rfl] at this
  rw [this]; rfl
theorem YCk (s:List UInt8) (hs:s.length≤100000000):YH8 s=some (Yeh s):=by
  have h1:=Yq3 46 s []
  have h2:=Y84 46 s []
  have h3:=Ydh s
  rw [YBk,YIi,Yf6 s 46 (by omega),Ylr]
  have:=Yrb s (YP s 46) [] (by simp only [Yvr]; unfold YP; omega) (fun x hx=> by
    have:=h2 x hx
    simp only [Yvr] at*; omega) (by
      rw [YLr,Yh7]; omega)
  rw [YLr,YLr,Yvr,show ((0:Nat):Int)=0 from rfl] at this
  rw [this]; rfl
end Go.Abs
namespace Go.Abs
set_option autoImplicit false

theorem Yfo (c:Int):hasB forb c=Y51 c:=rfl
theorem Yf8 (s:List UInt8) (dom:Bool) (hs:s.length≤1073741824):∀ (n i:Nat),i+n=s.length→Z12 s dom (i:Int)=some ((s.drop i).any fun b=> Y51 (Y7 b)||(dom&&(decide (Y7 b < 32)||(Y7 b==37||Y7 b==127))))
  | 0,i,h=> by
    have:i=s.length:=by omega
    subst this
    rw [Yzb,Yc,Yir (YJr _),Ykr,List.drop_length]; rfl
  | n+1,i,h=> by
    have hi:i < s.length:=by omega
    have hw:IntKind.i64.wrap ((i:Int)+1)=((i+1:Nat):Int):=by rw [w64 (by omega) (by omega)]; omega
    have hg:((((List.getD s (Int.toNat (i:Int)) (0:UInt8)).toNat:Nat)):Int)=Y7 s[i]:=by
      rw [Ypr,Yyr,Yzr hi]; rfl
    rw [Yzb,Yc,Yhr hi,Yjr,Yj,Yhr hi,Yjr,hg,hw]
    rw [show ([(0:UInt8),(9:UInt8),(10:UInt8),(13:UInt8),(32:UInt8),(35:UInt8),(47:UInt8),(58:UInt8),(60:UInt8),(62:UInt8),(63:UInt8),(64:UInt8),(91:UInt8),(92:UInt8),(93:UInt8),(94:UInt8),(124:UInt8)]:List UInt8)=forb from rfl,Yyl forb _ (by simp [forb]),Ylr,Yfo,Yur hi,List.any_cons,Yf8 s dom hs n (i+1) (by omega)]
    simp only [Yjr]
    cases Y51 (Y7 s[i]) with
    | true=> rfl
    | false=>
      rw [Ykr,YFr]
      cases dom with
      | false=> rw [Ykr,Bool.false_and,YFr]
      | true=>
        rw [Yjr,Bool.true_and]
        cases decide (Y7 s[i] < 32) with
        | true=> rfl
        | false=>
          rw [Ykr,YFr]
          cases (Y7 s[i]==37) with
          | true=> rfl
          | false=>
            rw [Ykr,YFr]
            cases (Y7 s[i]==127) with
            | true=> rfl
            | false=> rw [Ykr,YFr]
theorem Y1d {α:Type} {p q:α→Bool} (h:∀ x,p x=q x) (l:List α):l.any p=l.any q:=by
  have:p=q:=funext h
  rw [this]
theorem Yzm (s:List UInt8) (hs:s.length≤1073741824):YK2 (s,true)=some (s.any badB):=by
  rw [Y9e]
  dsimp only
  rw [Ywb]
  have:=Yf8 s true hs s.length 0 (by omega)
  rw [show ((0:Nat):Int)=0 from rfl,List.drop_zero] at this
  rw [this]
  congr 1
  apply Y1d
  intro b
  unfold badB
  cases Y51 (Y7 b) <;> cases decide (Y7 b < 32) <;> cases (Y7 b==37) <;> cases (Y7 b==127) <;> rfl
theorem YAm (s:List UInt8) (hs:s.length≤1073741824):YK2 (s,false)=some (YB4 s):=by
  rw [Y9e]
  dsimp only
  rw [Ywb]
  have:=Yf8 s false hs s.length 0 (by omega)
  rw [show ((0:Nat):Int)=0 from rfl,List.drop_zero] at this
  rw [this]
  congr 1
  apply Y1d
  intro b
  cases Y51 (Y7 b) <;> rfl
theorem YGh (s:List UInt8) (hs:s.length≤65536):((Yf5 s).bind fun y0=>
            (Yj4 y0).bind fun y1=>
              bif (y1.2 !=(0:Int)) then
                some (((Ty.zero (.int .i64)),((Ty.zero .str),((Ty.zero (.int .u32)),(Ty.zero (.arr 8 (.int .u16)))))),y1.2)
              else
                bif (y1.1==([]:List UInt8)) then
                  some (((Ty.zero (.int .i64)),((Ty.zero .str),((Ty.zero (.int .u32)),(Ty.zero (.arr 8 (.int .u16)))))),(51:Int))
                else
                  (YK2 (y1.1,true)).bind fun y2=>
                    bif y2 then
                      some (((Ty.zero (.int .i64)),((Ty.zero .str),((Ty.zero (.int .u32)),(Ty.zero (.arr 8 (.int .u16)))))),(52:Int))
                    else
                      (Yh5 y1.1).bind fun y3=>
                        bif y3 then
                          (Yi5 y1.1).bind fun y4=>
                            bif (y4.2 !=(0:Int)) then
                              some (((Ty.zero (.int .i64)),((Ty.zero .str),((Ty.zero (.int .u32)),(Ty.zero (.arr 8 (.int .u16)))))),y4.2)
                            else
                              some (((2:Int),((Ty.zero .str),(y4.1,(Ty.zero (.arr 8 (.int .u16)))))),(0:Int))
                        else
                          some (((1:Int),(y1.1,((Ty.zero (.int .u32)),(Ty.zero (.arr 8 (.int .u16)))))),(0:Int)))=some (YL5 s):=by
  have hl:=Y6d (Y31 s)
  have hdl:=YBn s
  rw [Ya7,Ybm s (by omega),Ylr,Y8e _ (by omega),Ylr,bne0]
  unfold YL5
  by_cases c:(YY (Y31 s)).2≠0
  · rw [Yhr c,Yjr,Ynr c]
  · rw [Yir c,Ykr,Ymr c]
    by_cases d:(YY (Y31 s)).1=[]
    · rw [show ((YY (Y31 s)).1==[])=true from by rw [d]; rfl,Yjr,Ynr d]
    · rw [show ((YY (Y31 s)).1==[])=false from by simpa using d,Ykr,Ymr d,Yzm _ (by omega),Ylr]
      cases (YY (Y31 s)).1.any badB with
      | true=> rw [Yjr,Ynr rfl]
      | false=>
        rw [Ykr,Ymr (by simp),Yom _ (by omega),Ylr]
        unfold Yt4
        cases YR3 (YY (Y31 s)).1 with
        | false=> rw [Ykr,Ymr (by simp)]; rfl
        | true=>
          rw [Yjr,Ynr rfl,Yqm _ (by omega),Ylr,bne0]
          by_cases e:(ipOf (YY (Y31 s)).1).2≠0
          · rw [Yhr e,Yjr,Ynr e]
          · rw [Yir e,Ykr,Ymr e]; rfl
theorem YFh (s:List UInt8) (hs:s.length≤65536):((YK2 (s,false)).bind fun y0=>
            bif y0 then
              some (((Ty.zero (.int .i64)),((Ty.zero .str),((Ty.zero (.int .u32)),(Ty.zero (.arr 8 (.int .u16)))))),(52:Int))
            else
              bif (s==([]:List UInt8)) then
                some (((5:Int),((Ty.zero .str),((Ty.zero (.int .u32)),(Ty.zero (.arr 8 (.int .u16)))))),(0:Int))
              else
                (Yg5 ((1:Int),s)).bind fun y1=>
                  bif (decide ((((List.length y1.1):Nat):Int) > (65536:Int))) then
                    some (((Ty.zero (.int .i64)),((Ty.zero .str),((Ty.zero (.int .u32)),(Ty.zero (.arr 8 (.int .u16)))))),(5:Int))
                  else
                    some (((4:Int),(y1.1,((Ty.zero (.int .u32)),(Ty.zero (.arr 8 (.int .u16)))))),(0:Int)))=some (if s=[] then (((5:Int),(([]:List UInt8),((0:Int),z8))),0) else Yv5 s):=by
  rw [YAm s (by omega),Ylr,Ya7]
  by_cases e:s=[]
  · subst e; rfl
  rw [Ymr e]
  unfold Yv5
  cases YB4 s with
  | true=> rw [Yjr,Ynr rfl]
  | false=>
    rw [Ykr,Ymr (by simp),show (s==[])=false from by simpa using e,Ykr,Yem s (by omega),Ylr]
    by_cases c:65536 < (YA2 s).length
    · rw [show decide (((YA2 s).length:Int) > 65536)=true from Yhr (by omega),Yjr,Ynr c]
    · rw [show decide (((YA2 s).length:Int) > 65536)=false from Yir (by omega),Ykr,Ymr c]; rfl
theorem Yum (s:List UInt8) (sp:Bool):Y79 (s,sp)=some (Yw5 s sp):=by
  rw [Ytm]
  dsimp only
  rw [YBj]
  unfold Yw5
  by_cases a:65536 < s.length
  · rw [show decide ((s.length:Int) > 65536)=true from Yhr (by omega),Yjr,Ynr a]; rfl
  rw [show decide ((s.length:Int) > 65536)=false from Yir (by omega),Ykr,Ymr a,YGh s (by omega),YFh s (by omega)]
  cases s with
  | nil=>
    rw [show decide (((([]:List UInt8).length:Nat):Int) > 0)=false from rfl,Ykr,Ymr (show ¬([]:List UInt8).head? =some 91 by simp)]
    cases sp with
    | true=> rw [YHr,Ykr,Ynr rfl]
    | false=> rw [YIr,Yjr,Ymr (show ¬(false=true) by simp)]
  | cons b t=>
    have h0:(((UInt8.toNat (List.getD (b::t) (Int.toNat (0:Int)) (0:UInt8))):Nat):Int)=Y7 b:=rfl
    rw [show decide ((((b::t).length:Nat):Int) > 0)=true from Yhr (by simp only [Yqr]; omega),Yjr,YF4,Yjr,h0]
    by_cases c:b=91
    · subst c
      have hw:IntKind.i64.wrap ((((91:UInt8)::t).length:Int) - 1)=((((91:UInt8)::t).length - 1:Nat):Int):=by
        rw [w64 (by omega) (by omega)]; simp only [Yqr]; omega
      rw [show (Y7 91==91)=true from rfl,Yjr,hw,Ynr (show ((91:UInt8)::t).head? =some 91 from rfl)]
      unfold YLa
      rw [Y57 _ (by simp)]
      by_cases e:((91:UInt8)::t).length < 2
      · rw [show decide (((((91:UInt8)::t).length:Nat):Int) < 2)=true from Yhr (by omega),Yjr]
        have:t=[]:=List.eq_nil_of_length_eq_zero (by simp only [Yqr] at e; omega)
        subst this
        rw [Ynr (show (some (List.getD ([91]:List UInt8) (([91]:List UInt8).length - 1) 0))≠some 93 by decide)]; rfl
      · rw [show decide (((((91:UInt8)::t).length:Nat):Int) < 2)=false from Yir (by omega),Ykr,Yj,Yhr (by omega),Yjr,Ypr]
        generalize hgl:List.getD ((91:UInt8)::t) (((91:UInt8)::t).length - 1) 0=g
        by_cases d:g=93
        · subst d
          have hcut:Yl (some (1:Int)) (some ((((91:UInt8)::t).length - 1:Nat):Int)) ((91:UInt8)::t)=Yi2 ((91:UInt8)::t):=Yq4 1 _ _
          have hil:(Yi2 ((91:UInt8)::t)).length≤65536:=by
            unfold Yi2
            rw [YCr,YBr]; omega
          rw [show ((((93:UInt8).toNat:Nat):Int) !=93)=false from rfl,Ykr,Ymr (show ¬(some (93:UInt8)≠some 93) from fun h=> h rfl),Ymr e,show Yi (some (1:Int)) (some ((((91:UInt8)::t).length - 1:Nat):Int)) ((91:UInt8)::t).length=true from Yr4 (f:=1) (by omega) (by omega),Yjr,hcut,Ysm _ (by omega),Ylr,bne0]
          by_cases f:(v6Of (Yi2 ((91:UInt8)::t))).2≠0
          · rw [Yhr f,Yjr,Ynr f]; rfl
          · rw [Yir f,Ykr,Ymr f]; rfl
        · have hb:((((g.toNat:Nat):Int)) !=93)=true:=bne_iff_ne.2 (fun h=> d (YH2 (show Y7 g=Y7 93 from h)))
          rw [hb,Yjr,Ynr (show some g≠some 93 by simpa using d)]; rfl
    · have hb:(Y7 b==91)=false:=Ytr.2 (fun h=> c (YH2 (show Y7 b=Y7 91 from h)))
      rw [hb,Ykr,Ymr (show ¬(b::t).head? =some 91 by simpa using c)]
      cases sp with
      | true=> rw [YHr,Ykr,Ynr rfl]
      | false=> rw [YIr,Yjr,Ymr (show ¬(false=true) by simp)]
theorem YOo (s:List UInt8) (sp:Bool) (hs:s.length≤100000000) (h47:YL8 ()=some true):Yxd (s,sp)=some true:=by
  rw [Y0l]
  dsimp only
  rw [Y1k,Yzk,Ylr,Yum,Ylr,Ykd,Ylr,Y8e s hs,Ylr,(beqH _ _).2 rfl,Yjr,Yyd,Ylr,beq_self_eq_true,Yjr,beq_self_eq_true,Yjr,Yyd,Ylr,beq_self_eq_true,Yjr,
    YCk s hs,Ylr,Yxm s hs,Ylr,beq_self_eq_true,Yjr,h47,Ylr]
end Go.Abs
