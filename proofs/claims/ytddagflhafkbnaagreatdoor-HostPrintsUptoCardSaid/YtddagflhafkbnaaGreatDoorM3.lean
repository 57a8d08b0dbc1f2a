/- Part M3 of the proof: see the last text of the claim. No condition of its own. -/
import Derived.Test.YtddagflhafkbnaaGreatDoorM2
import Derived.Test.YtddagflhafkbnaaGreatDoorL8
import Derived.Test.YtddagflhafkbnaaGreatDoorQ3
set_option linter.all false
set_option autoImplicit false
namespace Go.Abs
theorem YU8 (s:List UInt8) (l:List Int) (hl:l.length<=200000000) (hs:YQ l):∀ (n i:Nat) (out:List (List UInt8)) (now:List Int),i+n=l.length->YQ now->now.length<=i->out.length<=i->Z32 s (i:Int) l out now=some (out++(dcut now (l.drop i)).map Yb)
 | 0,i,out,now,h,hn,hnl,hol=> by
  have:i=l.length:=by omega
  subst this
  rw [Yuc,Yg,Y6u (Yxu _),Y8u,List.drop_length,YH9 now (by omega) hn,Y9u,show decide (out.length+([Yb now]:List (List UInt8)).length<=lim)=true from Y5u (by simp only [lim,Yeu,Yju]; omega),Y7u]
  rfl
 | n+1,i,out,now,h,hn,hnl,hol=> by
  have hi:i < l.length:=by omega
  have hw:IntKind.i64.wrap ((i:Int)+1)=((i+1:Nat):Int):=by rw [w64 (by omega) (by omega)]; omega
  have hg:List.getD l (Int.toNat (i:Int)) (Ty.zero (.int .i32))=l[i]:=by
   rw [Ydu,Ymu,Ynu hi]; rfl
  have hsc:=hs _ (List.getElem_mem hi)
  have yes:((YW2 now).bind fun y0=> bif (decide (((List.length out)+(List.length ([y0.1]:List (List UInt8))))<=(lim))) then Z32 s ((i+1:Nat):Int) l (out++([y0.1]:List (List UInt8))) ([]:List Int) else none)=some (out++(Yb now::(dcut [] (l.drop (i+1))).map Yb)):=by
   rw [YH9 now (by omega) hn,Y9u,show decide (out.length+([Yb now]:List (List UInt8)).length<=lim)=true from Y5u (by simp only [lim,Yeu,Yju]; omega),Y7u,
    YU8 s l hl hs n (i+1) _ [] (by omega) (fun x hx=> by cases hx) (by simp) (by simp only [Yfu,Yeu,Yju]; omega),Ygu]; rfl
  rw [Yuc,Yg,Y5u hi,Y7u,Yj,Y5u hi,Y7u,hg,hw,Yiu hi,dcut]
  unfold dotI
  by_cases a:l[i]=46
  ·rw [show (l[i]==46)=true from beq_iff_eq.2 a,Y7u,Yuu,Ybu rfl,yes]; rfl
  rw [show (l[i]==46)=false from Yhu.2 a,Y8u,Ytu,Y7u]
  by_cases b:l[i]=12290
  ·rw [show (l[i]==12290)=true from beq_iff_eq.2 b,Y7u,Yuu,Ybu rfl,yes]; rfl
  rw [show (l[i]==12290)=false from Yhu.2 b,Y8u,Ytu,Y7u]
  by_cases c:l[i]=65294
  ·rw [show (l[i]==65294)=true from beq_iff_eq.2 c,Y7u,Yuu,Ybu rfl,yes]; rfl
  rw [show (l[i]==65294)=false from Yhu.2 c,Y8u,Ytu,Y7u]
  by_cases d:l[i]=65377
  ·rw [show (l[i]==65377)=true from beq_iff_eq.2 d,Y7u,Ybu rfl,yes]; rfl
  rw [show (l[i]==65377)=false from Yhu.2 d,Y8u,Yau (by simp),Y7u,show decide (now.length+[l[i]].length<=lim)=true from Y5u (by simp only [lim,Yeu,Yju]; omega),Y7u,
   YU8 s l hl hs n (i+1) out (now++[l[i]]) (by omega) (fun x hx=> by
    rcases Yru.1 hx with hx | hx
    ·exact hn x hx
    ·rw [YEu.1 hx]; exact hsc) (by simp only [Yfu,Yeu,Yju]; omega) (by omega)]
theorem YU9 (s:List UInt8) (hs:s.length<=200000000):Yd7 s=some ((dcut [] (Yq s)).map Yb):=by
 have hl:=YH3 s
 rw [YOo,Yoj,YG9 s (by omega),Y9u]
 have:=YU8 s (Yq s) (by omega) (Ys8 s) (Yq s).length 0 [] [] (by omega) (fun x hx=> by cases hx) (by simp) (by simp)
 rw [show ((0:Nat):Int)=0 from rfl,Yzu,List.drop_zero] at this
 exact this
theorem Ygc (l:List (List UInt8)) (hl:l.length<=1000000000) (hj:∀ n,(Y81 46 (l.take n)).length<=4611686018427387000):∀ (n i:Nat),i+n=l.length->Z62 l (Y81 46 (l.take i)) (i:Int)=some (Y81 46 l)
 | 0,i,h=> by
  have:i=l.length:=by omega
  subst this
  rw [YDc,Yg,Y6u (Yxu _),Y8u,List.take_length]
 | n+1,i,h=> by
  have hi:i < l.length:=by omega
  have hw:IntKind.i64.wrap ((i:Int)+1)=((i+1:Nat):Int):=by rw [w64 (by omega) (by omega)]; omega
  have hg:List.getD l (Int.toNat (i:Int)) (Ty.zero .str)=l[i]:=by
   rw [Ydu,Ymu,Ynu hi]; rfl
  have key:∀ (M:List (List UInt8)) (x:List UInt8),M≠[]->Y81 46 (M++[x])=Y81 46 M++46::x:=by
   intro M
   induction M with
   | nil=> intro x h; exact absurd rfl h
   | cons a M ih=>
    intro x _
    cases M with
    | nil=> rfl
    | cons b M=>
     have:=ih x (by simp)
     show a++46::Y81 46 (b::M++[x])=(a++46::Y81 46 (b::M))++46::x
     rw [this,Ygu]; rfl
  have ht:l.take (i+1)=l.take i++[l[i]]:=List.take_succ_eq_append_getElem hi
  have hlen:=hj (i+1)
  have step:∀ t:List UInt8,t++l[i]=Y81 46 (l.take (i+1))->Z72 l t (i:Int)=some (Y81 46 l):=by
   intro t e
   have hte:=congrArg List.length e
   rw [Yfu] at hte
   rw [YSj,Yj,Y5u hi,Y7u,hg,show decide (t.length+l[i].length<=2 ^ 62)=true from Y5u (by omega),Y7u,hw,e]
   exact Ygc l hl hj n (i+1) (by omega)
  rw [YDc,Yg,Y5u hi,Y7u]
  by_cases c:0 < i
  ·have hne:l.take i≠[]:=by
    intro e
    have:=congrArg List.length e
    rw [Ypu,Yju] at this; omega
   have e:=key (l.take i) l[i] hne
   rw [<-ht] at e
   have h2:=congrArg List.length e
   rw [Yfu,Yeu] at h2
   rw [show decide ((i:Int) > 0)=true from Y5u (by omega),Y7u,show decide ((Y81 46 (l.take i)).length+([46]:List UInt8).length<=2 ^ 62)=true from Y5u (by simp only [Yeu,Yju]; omega),Y7u]
   exact step _ (by rw [e,Ygu]; rfl)
  ·have:i=0:=by omega
   subst this
   rw [show decide (((0:Nat):Int) > 0)=false from rfl,Y8u]
   exact step _ (by rw [ht]; rfl)
theorem Y8r (l:List (List UInt8)):∀ n,(Y81 46 (l.take n)).length<=(Y81 46 l).length:=by
 induction l with
 | nil=> intro n; simp [Y81]
 | cons a l ih=>
  intro n
  cases n with
  | zero=> simp [Y81]
  | succ n=>
   cases l with
   | nil=> simp [Y81]
   | cons b l=>
    cases n with
    | zero=> simp only [List.take_succ_cons,List.take_zero,Y81,Yfu]; omega
    | succ n=>
     have:=ih (n+1)
     simp only [List.take_succ_cons] at this ⊢
     simp only [Y81,Yfu,Yeu]
     omega
theorem Yof (l:List (List UInt8)) (hl:l.length<=1000000000) (hj:(Y81 46 l).length<=4611686018427387000):YV9 l=some (Lib.join l [46]):=by
 rw [YRo,YIj,YLa]
 have:=Ygc l hl (fun n=> Nat.le_trans (Y8r l n) hj) l.length 0 (by omega)
 rw [List.take_zero] at this
 exact this
theorem Yqa (s:List UInt8) (hb:∀ b∈s,Y8 b < 128) (hs:s.length<=65536):(Yb1 s).2=0:=by
 have hsc:=Yn5 s hb
 have hsm:Ys (s.map Y8)=s.map Y8:=by
  unfold Ys
  apply List.filter_eq_self.2
  intro x hx
  obtain ⟨b,h,rfl⟩:=List.mem_map.1 hx
  exact Y5u (hb b h)
 have hout:YT1 (s.map Y8)=if (s.map Y8).length=0 then s.map Y8 else s.map Y8++[45]:=by
  unfold YT1
  rw [hsm]
  cases hL:(s.map Y8).length with
  | zero=> rfl
  | succ n=>
   unfold Yy2
   rw [Ybu (by dsimp only; omega)]
 have hdec:(Yo1 (Ym (YT1 (Yq s)))).2.1=0:=by
  rw [hsc,hout]
  by_cases c:(s.map Y8).length=0
  ·have:s=[]:=by simpa using c
   subst this; rfl
  ·rw [Yau c]
   have hso:Ym (s.map Y8++[45])=s++[45]:=by
    unfold Ym
    rw [List.map_append]
    have:List.map (fun n:Int=> UInt8.ofNat n.toNat) (s.map Y8)=s:=YBt s
    rw [this]; rfl
   rw [hso]
   have hall:∀ b∈s++[45],Y8 b < 128:=by
    intro b h
    rcases Yru.1 h with h | h
    ·exact hb b h
    ·rw [YEu.1 h]; decide
   have hh:∀ n k,YU1 (s++[45]) n k=none:=by
    intro n
    induction n with
    | zero=> intro k; rfl
    | succ n ih=>
     intro k
     unfold YU1
     have:¬127 < bat (s++[45]) k:=by
      by_cases hk:k < (s++[45]).length
      ·have h1:=hall _ (List.getElem_mem hk)
       have h2:=(Yx1 _ k hk).2
       omega
      ·unfold bat
       rw [Ymu,List.getElem?_eq_none (by omega)]
       decide
     rw [Yau this]; exact ih _
   have hlast:Yp (s++[45]) (s++[45]).length=(s.length:Int):=by
    rw [Yfu,Yeu,Yju]
    show Yp (s++[45]) (s.length+1)=_
    unfold Yp
    rw [Ybu (show bat (s++[45]) s.length=45 from Ygm s 45 [])]
   unfold Yo1
   rw [hh]
   dsimp only
   rw [hlast]
   have hll:(s++[45]).length=s.length+1:=by simp
   rw [hll]
   unfold decV
   rw [Ybu (by omega)]
 rcases Yn6 s with ⟨h1,_⟩ | ⟨h1,_⟩
 ·exfalso
  apply h1
  unfold Yb1 YM2
  rw [Yau (by rw [YLi s hb]; simp),Yau (by omega),Yau (by rw [hdec]; omega)]
 ·rw [h1]
def YV (s:List UInt8):List UInt8×Bool:=
 if has s 65533=true then ([],false) else if (Yr (lowS s)).2≠0 then ([],false) else if 63 < (Yr (lowS s)).1.length then ([],false)
 else if (YL (Yr (lowS s)).1).2=0 then (if has (YL (Yr (lowS s)).1).1 65533=false then ((Yr (lowS s)).1,decide ((dcut [] (Yq (YL (Yr (lowS s)).1).1)).length=1)) else ((Yr (lowS s)).1,false))
 else ((Yr (lowS s)).1,false)
theorem Ypf (s:List UInt8) (hs:s.length<=100000000):YW9 s=some (YV s):=by
 have h1:=YX7 s
 have h2:=Yo6 (lowS s)
 have h3:=Ybj (Yr (lowS s)).1
 rw [YSo,YBj,Yrf s (by omega),Y9u]
 unfold YV
 cases has s 65533 with
 | true=> rw [Y7u,Ybu rfl]
 | false=>
  rw [Y8u,Yau (by simp),YD9 s (by omega),Y9u,Y9f _ (by omega),Y9u,bne0]
  by_cases a:(Yr (lowS s)).2≠0
  ·rw [Y5u a,Y7u,Ybu a]
  ·rw [Y6u a,Y8u,Yau a]
   by_cases b:63 < (Yr (lowS s)).1.length
   ·rw [show decide (((Yr (lowS s)).1.length:Int) > 63)=true from Y5u (by omega),Y7u,Ybu b]
   ·rw [show decide (((Yr (lowS s)).1.length:Int) > 63)=false from Y6u (by omega),Y8u,Yau b,Yfo _ (by omega),Y9u]
    by_cases c:(YL (Yr (lowS s)).1).2=0
    ·rw [show ((YL (Yr (lowS s)).1).2==0)=true from beq_iff_eq.2 c,Y7u,Ybu c,Yrf _ (by omega),Y9u]
     cases has (YL (Yr (lowS s)).1).1 65533 with
     | true=> rw [Yvu,Y8u,Yau (by simp)]
     | false=>
      rw [Ywu,Y7u,Ybu rfl,YU9 _ (by omega),Y9u,List.length_map]
      congr 2
      rw [Bool.eq_iff_iff,beq_iff_eq,You]
      omega
    ·rw [show ((YL (Yr (lowS s)).1).2==0)=false from Yhu.2 c,Y8u,Yau c]
end Go.Abs
namespace Go.Abs
theorem Yv7:∀ (l cur:List Int),(dcut cur l).length=1↔l.any dotI=false
 | [],cur=> by simp [dcut]
 | r::l,cur=> by
  unfold dcut
  rw [List.any_cons]
  cases h:dotI r with
  | true=>
   rw [Ybu rfl,Yuu,Yeu]
   have:=(YO4 l []).1
   constructor
   ·intro e; omega
   ·intro e; cases e
  | false=>
   rw [Yau (by simp),Ytu]
   exact Yv7 l _
theorem YIq (l:List Int) (hl:YQ l):has (lowS (Yb l)) 65533=has (Yb l) 65533:=by
 unfold has
 rw [YQa l hl,Yu8 _ (Ygh hl),Yu8 l hl,List.any_map]
 congr 1
 funext x
 show (lowI x==65533)=(x==65533)
 rw [Yt2]
 by_cases c:65<=x/\x<=90
 ·rw [Ybu c,Yhu.2 (by omega),Yhu.2 (by omega)]
 ·rw [Yau c]
theorem Yir (s:List UInt8) (hs:s≠[]) (h:(Yr s).2=0):(Yr s).1≠[]:=by
 unfold Yr at h ⊢
 by_cases a:(Yb1 s).2≠0
 ·rw [Ybu a] at h; exact absurd h a
 rw [Yau a]
 by_cases b:Yc1 s=true
 ·rw [Ybu b]; exact hs
 ·rw [Yau b]; simp [xn]
theorem Ylr (l:List Int) (hl:YQ l) (hd:YE8 l) (hlen:(Yb l).length<=65536) (last:Bool):
  ((YV (Yb l)).2=false/\YG (Yb l) last=([],53))\/
  ((YV (Yb l)).2=true/\(YV (Yb l)).1=[]/\last=false/\YG (Yb l) last=([],53))\/
  ((YV (Yb l)).2=true/\((YV (Yb l)).1=[]->last=true)/\YG (Yb l) last=((YV (Yb l)).1,0)):=by
 have hlow:=YQa l hl
 have hsc:=Yu8 _ (Ygh hl)
 have hok:∀ r∈l.map lowI,r < 128->okI r:=by
  intro r hr h1
  obtain ⟨x,hx,rfl⟩:=List.mem_map.1 hr
  exact YFr (hl x hx) (hd x hx) h1
 have hhl:=YIq l hl
 have hll:=YX7 (Yb l)
 unfold YV YG
 rw [hhl]
 by_cases w:has (Yb l) 65533=true
 ·refine .inl ⟨by rw [Ybu w],?_⟩
  rw [Yau (fun h=> by rw [w] at h; cases h.2),Ybu w]
 have wf:has (Yb l) 65533=false:=by simpa using w
 rw [Yau w,Yau w]
 have hY:(if Yc1 (lowS (Yb l))=false/\has (Yb l) 65533=false then (if (Yr (lowS (Yb l))).2≠0 then (([]:List UInt8),(53:Int)) else YB1 (Yr (lowS (Yb l))).1 last) else YB1 (lowS (Yb l)) last)=
   (if (Yr (lowS (Yb l))).2≠0 then (([]:List UInt8),(53:Int)) else YB1 (Yr (lowS (Yb l))).1 last):=by
  cases hb:Yc1 (lowS (Yb l)) with
  | false=> rw [Ybu ⟨rfl,wf⟩]
  | true=>
   have he:=Yqa _ (YA6 hb) (by omega)
   have:Yr (lowS (Yb l))=(lowS (Yb l),0):=by
    unfold Yr
    rw [Yau (by rw [he]; omega),Ybu hb]
   have e0:¬(true=false/\has (Yb l) 65533=false):=fun h=> by cases h.1
   rw [Yau e0,this,Yau (show ¬((0:Int)≠0) from fun h=> h rfl)]
 rw [hY]
 by_cases a:(Yr (lowS (Yb l))).2≠0
 ·exact .inl ⟨by rw [Ybu a],by rw [Ybu a]⟩
 rw [Yau a,Yau a]
 have htok:tok (Yr (lowS (Yb l))).1:=by
  cases hb:Yc1 (lowS (Yb l)) with
  | false=> exact Ykr (lowS (Yb l)) _ (by rw [hlow,hsc]; exact hok) hb (Prod.ext rfl (Decidable.not_not.1 a))
  | true=>
   have he:=Yqa _ (YA6 hb) (by omega)
   have:Yr (lowS (Yb l))=(lowS (Yb l),0):=by
    unfold Yr
    rw [Yau (by rw [he]; omega),Ybu hb]
   rw [this]
   intro b hbm
   have h1:=YA6 hb b hbm
   have h2:=Yn5 _ (YA6 hb)
   rw [hlow,hsc] at h2
   refine hok _ ?_ h1
   rw [h2,<-hlow]
   exact List.mem_map_of_mem hbm
 generalize (Yr (lowS (Yb l))).1=t at htok
 unfold YB1
 by_cases b:63 < t.length
 ·exact .inl ⟨by rw [Ybu b],by rw [Ybu b]⟩
 rw [Yau b,Yau b]
 have hx:isXn t=(decide (4<=t.length)&&(lowS (t.take 4)==xn)):=by unfold isXn; rw [YIt (YDt htok)]
 cases hn:isXn t with
 | false=>
  have hu:YL t=(t,0):=by
   unfold YL
   by_cases c:t.length < 4
   ·rw [Ybu c]
   ·rw [Yau c]
    rw [hn,Y5u (by omega),Bool.true_and] at hx
    rw [Ybu (Yhu.1 hx.symm)]
  have hdc:(dcut [] (Yq t)).length=1:=by
   rw [Yv7,Yn5 t (YWb htok),List.any_eq_false]
   intro x hx
   rw [YJt htok x hx]; simp
  rw [hu]
  dsimp only
  rw [Ybu rfl,YHt htok,Ybu rfl,hdc]
  by_cases e:t=[]/\last=false
  ·rw [Ybu e]
   exact .inr (.inl ⟨rfl,e.1,e.2,rfl⟩)
  ·rw [Yau e,Yau (by simp)]
   refine .inr (.inr ⟨rfl,fun h=> ?_,rfl⟩)
   cases last with
   | true=> rfl
   | false=> exact absurd ⟨h,rfl⟩ e
 | true=>
  have hne:t≠[]:=by
   intro e
   rw [e] at hn; cases hn
  have e1:¬(t=[]/\last=false):=fun h=> hne h.1
  rw [Yau e1,Ybu (show true=true from rfl)]
  by_cases c:(YL t).2=0
  ·have e2:¬((YL t).2≠0):=fun h=> h c
   rw [Ybu c,Yau e2]
   cases hh:has (YL t).1 65533 with
   | true=> rw [Yau (by simp),Ybu rfl]; exact .inl ⟨rfl,rfl⟩
   | false=>
    rw [Ybu rfl,Yau (by simp)]
    cases hdo:YP4 (YL t).1 with
    | true=>
     rw [Ybu rfl]
     refine .inl ⟨Y6u (fun e=> ?_),rfl⟩
     have:=(Yv7 (Yq (YL t).1) []).1 e
     unfold YP4 at hdo
     rw [hdo] at this; cases this
    | false=>
     rw [Yau (by simp)]
     exact .inr (.inr ⟨Y5u ((Yv7 _ _).2 hdo),fun h=> absurd h hne,rfl⟩)
  ·rw [Yau c,Ybu c]; exact .inl ⟨rfl,rfl⟩
end Go.Abs
namespace Go.Abs
theorem YFi (y:List UInt8) (hy:y.length<=1073741824) (s:List UInt8):(bif (decide ((((List.length y):Nat):Int) > (0:Int))) then
     bif (Ya (IntKind.wrap IntKind.i64 ((((List.length y):Nat):Int) - (1:Int))) (List.length y)) then
      bif ((((UInt8.toNat (List.getD y (Int.toNat (IntKind.wrap IntKind.i64 ((((List.length y):Nat):Int) - (1:Int)))) (0:UInt8))):Nat):Int)==(46:Int)) then
       Zv1 s y (IntKind.wrap IntKind.i64 ((((List.length y):Nat):Int) - (1:Int)))
      else
       Zv1 s y (((List.length y):Nat):Int)
     else
      none
    else
     Zv1 s y (((List.length y):Nat):Int))=some (if 253 < (YD1 y).length then ([],5) else (y,0)):=by
 have fin:∀ n:Nat,n=(YD1 y).length->Zv1 s y (n:Int)=some (if 253 < (YD1 y).length then ([],5) else (y,0)):=by
  rintro n rfl
  rw [YHl]
  by_cases c:253 < (YD1 y).length
  ·rw [show decide (((YD1 y).length:Int) > 253)=true from Y5u (by omega),Y7u,Ybu c]
  ·rw [show decide (((YD1 y).length:Int) > 253)=false from Y6u (by omega),Y8u,Yau c]
 by_cases c:0 < y.length
 ·have hw:IntKind.i64.wrap ((y.length:Int) - 1)=((y.length - 1:Nat):Int):=by rw [w64 (by omega) (by omega)]; omega
  have hg:=YG7 y c
  rw [show decide ((y.length:Int) > 0)=true from Y5u (by omega),Y7u,hw,Yj,Y5u (by omega),Y7u,Ydu]
  by_cases g:y.getD (y.length - 1) 0=46
  ·rw [g,show ((((46:UInt8).toNat:Nat):Int)==46)=true from rfl,Y7u]
   refine fin _ ?_
   unfold YD1
   rw [hg,g,Ybu rfl,List.length_dropLast]
  ·rw [show ((((y.getD (y.length - 1) 0).toNat:Nat):Int)==46)=false from Yhu.2 (fun e=> g (Yl3 (show Y8 _=Y8 46 from e))),Y8u]
   refine fin _ ?_
   unfold YD1
   rw [hg,Yau (by simpa using g)]
 ·rw [show decide ((y.length:Int) > 0)=false from Y6u (by omega),Y8u]
  refine fin _ ?_
  have:y=[]:=List.eq_nil_of_length_eq_zero (by omega)
  subst this; rfl
theorem Yys (s:List UInt8) (h:(YV s).2=true):(YV s).1.length<=63:=by
 unfold YV at h ⊢
 repeat' split at h
 all_goals first | (cases h; done) | skip
 rename_i h1 h2 h3 h4 h5
 rw [Yau h1,Yau h2,Yau h3,Ybu h4,Ybu h5]
 dsimp only; omega
theorem Yzs (s:List UInt8) (hs:s≠[]) (h:(YV s).2=true):(YV s).1≠[]:=by
 have hlow:lowS s≠[]:=fun e=> hs (by
  have:=YX7 s
  rw [e] at this
  exact List.eq_nil_of_length_eq_zero (by simpa using this.symm))
 unfold YV at h ⊢
 repeat' split at h
 all_goals first | (cases h; done) | skip
 rename_i h1 h2 h3 h4 h5
 rw [Yau h1,Yau h2,Yau h3,Ybu h4,Ybu h5]
 exact Yir _ hlow (Decidable.not_not.1 h2)
theorem Ydc (s:List UInt8):∀ (M:List (List Int)) (don:List (List UInt8)),(∀ x∈M,YQ x/\YE8 x/\(Yb x).length<=65536)->don.length+M.length<=70000->(∀ x∈don,x.length<=63)->(don.length+M.length=1->∀ x∈M,x≠[])->
  Zu1 s (don.length:Int) (don++M.map Yb)=some (if (Yv don.length (M.map Yb)).2≠0 then ([],(Yv don.length (M.map Yb)).2) else Y72 (don++(Yv don.length (M.map Yb)).1))
 | [],don,hM,hl,hd,h1=> by
  have hj:=YZg 63 don hd
  have hl:don.length<=70000:=by simpa using hl
  rw [List.map_nil,Yyu,Yy6,Yg,Y6u (Yxu _),Y8u,Yof don (by omega) (by rw [<-YLa]; omega),Y9u,YFi _ (by omega)]
  unfold Yv Y72
  rw [Yau (show ¬((0:Int)≠0) from fun h=> h rfl),Yyu]
 | x::M,don,hM,hl,hd,h1=> by
  have hll:(don++(x::M).map Yb).length=don.length+M.length+1:=by simp only [Yfu,List.length_map,Yeu]; omega
  have hl:don.length+M.length+1<=70000:=by simpa [Nat.add_assoc] using hl
  have hi:don.length < (don++(x::M).map Yb).length:=by omega
  have hg:List.getD (don++(x::M).map Yb) (Int.toNat (don.length:Int)) (Ty.zero .str)=Yb x:=by
   rw [Ydu,Ymu,List.getElem?_append_right (by omega),Nat.sub_self]; rfl
  have hset:∀ y,List.set (don++(x::M).map Yb) (Int.toNat (don.length:Int)) y=(don++[y])++M.map Yb:=by
   intro y
   rw [Ydu,Ysu,List.set_append_right _ _ (by omega),Nat.sub_self,List.set_cons_zero,Ygu]; rfl
  have hw:IntKind.i64.wrap ((don.length:Int)+1)=((don.length+1:Nat):Int):=by rw [w64 (by omega) (by omega)]; omega
  obtain ⟨x1,x2,x3⟩:=hM x (by simp)
  rw [Yy6,Yg,Y5u hi,Y7u,Yj,Y5u hi,Y7u,hg,Ypf _ (by omega),Y9u,hset,hw,w64 (x:=(((don++(x::M).map Yb).length:Nat):Int) - 1) (by omega) (by omega),Ysu,Yv]
  have hemp:(M.map Yb).isEmpty=M.isEmpty:=by cases M <;> rfl
  have next:(YV (Yb x)).2=true->Zu1 s ((don.length+1:Nat):Int) ((don++[(YV (Yb x)).1])++M.map Yb)=some (if (Yv (don.length+1) (M.map Yb)).2≠0 then ([],(Yv (don.length+1) (M.map Yb)).2) else Y72 (don++((YV (Yb x)).1::(Yv (don.length+1) (M.map Yb)).1))):=by
   intro hok
   have hlen:=Yys _ hok
   have ih:=Ydc s M (don++[(YV (Yb x)).1]) (fun y hy=> hM y (by simp [hy])) (by simp only [Yfu,Yeu,Yju]; omega) (fun y hy=> by
    rcases Yru.1 hy with hy | hy
    ·exact hd y hy
    ·rw [YEu.1 hy]; exact hlen) (fun e y hy=> by
    simp only [Yfu,Yeu,Yju] at e
    have:M=[]:=List.eq_nil_of_length_eq_zero (by omega)
    rw [this] at hy; cases hy)
   have hlen2:(don++[(YV (Yb x)).1]).length=don.length+1:=by simp
   rw [hlen2] at ih
   rw [ih]
   simp only [Ygu,List.singleton_append]
  rcases Ylr x x1 x2 x3 ((M.map Yb).isEmpty&&decide (0 < don.length)) with ⟨q1,q2⟩ | ⟨q1,q2,q3,q4⟩ | ⟨q1,q2,q3⟩
  ·rw [q1,Ywu,Y7u,q2,Ybu (show ((53:Int))≠0 by omega)]
   rfl
  ·rw [q1,Yvu,Y8u,q2,show (([]:List UInt8)==[])=true from rfl,Y7u,q4,Ybu (show ((53:Int))≠0 by omega)]
   have:(don.length:Int) < (((don++(Yb x::M.map Yb)).length:Nat):Int) - 1:=by
    have e:(don++(Yb x::M.map Yb)).length=don.length+M.length+1:=hll
    rw [e]
    cases M with
    | cons z M=> simp only [Yeu]; omega
    | nil=>
     exfalso
     rw [List.map_nil,List.isEmpty_nil,Bool.true_and,decide_eq_false_iff_not] at q3
     have hx:=h1 (by simp only [Yeu,Yju]; omega) x (by simp)
     have hne:Yb x≠[]:=fun e=> by
      have:=Yxi x
      rw [e] at this
      exact hx (List.eq_nil_of_length_eq_zero (by simpa using this))
     exact Yzs _ hne q1 q2
   rw [Y5u this,Y7u]; rfl
  ·rw [q1,Yvu,Y8u,q3,Yau (show ¬((0:Int)≠0) from fun h=> h rfl)]
   have tail:(if (if (Yv (don.length+1) (M.map Yb)).2≠0 then (([]:List (List UInt8)),(Yv (don.length+1) (M.map Yb)).2) else ((YV (Yb x)).1::(Yv (don.length+1) (M.map Yb)).1,0)).2≠0 then (([]:List UInt8),(if (Yv (don.length+1) (M.map Yb)).2≠0 then (([]:List (List UInt8)),(Yv (don.length+1) (M.map Yb)).2) else ((YV (Yb x)).1::(Yv (don.length+1) (M.map Yb)).1,0)).2)
     else Y72 (don++(if (Yv (don.length+1) (M.map Yb)).2≠0 then (([]:List (List UInt8)),(Yv (don.length+1) (M.map Yb)).2) else ((YV (Yb x)).1::(Yv (don.length+1) (M.map Yb)).1,0)).1))=
     (if (Yv (don.length+1) (M.map Yb)).2≠0 then ([],(Yv (don.length+1) (M.map Yb)).2) else Y72 (don++((YV (Yb x)).1::(Yv (don.length+1) (M.map Yb)).1))):=by
    by_cases d:(Yv (don.length+1) (M.map Yb)).2≠0
    ·rw [Ybu d,Ybu d,Ybu d]
    ·rw [Yau d,Yau d,Yau (show ¬((0:Int)≠0) from fun h=> h rfl)]
   rw [tail]
   by_cases e:(YV (Yb x)).1=[]
   ·have hlast:=q2 e
    rw [Ycu,hemp] at hlast
    have hMe:M=[]:=by cases M with
     | nil=> rfl
     | cons a b=> cases hlast.1
    have nlt:¬(don.length:Int) < (((don++(Yb x::M.map Yb)).length:Nat):Int) - 1:=by
     have e:(don++(Yb x::M.map Yb)).length=don.length+M.length+1:=hll
     rw [e,hMe]
     simp only [Yju]; omega
    rw [show ((YV (Yb x)).1==[])=true from by rw [e]; rfl,Y7u,Y6u nlt,Y8u,Y7u]
    exact next q1
   ·rw [show ((YV (Yb x)).1==[])=false from by simpa using e,Y8u,Y7u]
    exact next q1
theorem Yja:∀ (l cur:List Int),∀ x∈dcut cur l,(Yb x).length<=(Yb cur++Yb l).length
 | [],cur,x,hx=> by rw [YEu.1 hx,Yfu]; omega
 | r::l,cur,x,hx=> by
  unfold dcut at hx
  have e:Yb (r::l)=rbs r++Yb l:=Yw1 r l
  split at hx
  ·rcases Ylu.1 hx with rfl | hx
   ·rw [Yfu]; omega
   ·have:=Yja l [] x hx
    rw [YZ1,Yzu] at this
    rw [Yfu,e,Yfu]; omega
  ·have:=Yja l (cur++[r]) x hx
   rw [YL3,Yw1,YZ1,Yyu] at this
   rw [e]
   simp only [Yfu] at this ⊢
   omega
theorem YYf:∀ (l cur:List Int),(dcut cur l).length=1->dcut cur l=[cur++l]
 | [],cur,_=> by rw [Yyu]; rfl
 | r::l,cur,h=> by
  unfold dcut at h ⊢
  split at h
  ·have:=(YO4 l []).1
   simp only [Yeu] at h; omega
  ·rename_i hd
   rw [Yau hd,YYf l _ h,Ygu]; rfl
theorem YAs:YV []=([],true):=by
 have e0:has [] 65533=false:=rfl
 have e1:lowS []=[]:=rfl
 have e2:Yr []=([],0):=by
  unfold Yr
  rw [Yau (by rw [Yqa [] (fun b hb=> by cases hb) (by simp)]; omega),Ybu (show Yc1 []=true from rfl)]
 have e3:YL []=([],0):=by unfold YL; rw [Ybu (by simp)]
 unfold YV
 rw [e0,e1,e2,e3]
 rfl
theorem YNo (s:List UInt8) (hs:s.length<=100000000):YM5 s=some (YF s):=by
 rw [YMo,Yzl,Y2f s (by omega),Y9u]
 by_cases hne:s=[]
 ·subst hne
  rw [Ydm,show (YO1 []).1=true from rfl,Yvu,Y8u,show decide (((([]:List UInt8).length:Nat):Int) > 65536)=false from rfl,Y8u,YU9 [] (by simp),Y9u]
  rw [show (dcut [] (Yq [])).map Yb=[[]] from rfl,Yy6,show decide ((0:Int) < ((([[]]:List (List UInt8)).length:Nat):Int))=true from rfl,Y7u,show Ya (0:Int) ([[]]:List (List UInt8)).length=true from rfl,Y7u,
   show List.getD ([[]]:List (List UInt8)) (Int.toNat 0) (Ty.zero .str)=[] from rfl,Ypf [] (by simp),YAs,Y9u,Yvu,Y8u,show (([]:List UInt8)==[])=true from rfl,Y7u]
  rw [show decide ((0:Int) < IntKind.i64.wrap (((([[]]:List (List UInt8)).length:Nat):Int) - 1))=false from by
    rw [show IntKind.i64.wrap (((([[]]:List (List UInt8)).length:Nat):Int) - 1)=0 from k1]; rfl,Y8u,Y7u,show List.set ([[]]:List (List UInt8)) (Int.toNat 0) []=[[]] from rfl,show IntKind.i64.wrap ((0:Int)+1)=1 from a1,Yy6,
   show decide ((1:Int) < ((([[]]:List (List UInt8)).length:Nat):Int))=false from rfl,Y8u,Yof [[]] (by simp) (by simp [Y81]),Y9u,YFi _ (by simp [Lib.join_one])]
  rw [Lib.join_one]; rfl
 unfold YF
 cases hv:(YO1 s).1 with
 | false=> rw [Ywu,Y7u,Ybu rfl]
 | true=>
  rw [Yvu,Y8u,Yau (by simp)]
  by_cases c:65536 < s.length
  ·rw [show decide ((s.length:Int) > 65536)=true from Y5u (by omega),Y7u,Ybu c]
  ·rw [show decide ((s.length:Int) > 65536)=false from Y6u (by omega),Y8u,Yau c,Yau hne,YU9 s (by omega),Y9u]
   have hsl:=YH3 s
   have hdl:=YO4 (Yq s) []
   have htot:Yb (Yq s)=s:=Yyi s hv
   have hM:∀ x∈dcut [] (Yq s),YQ x/\YE8 x/\(Yb x).length<=65536:=by
    intro x hx
    refine ⟨fun r hr=> ?_,fun r hr=> ?_,?_⟩
    ·rcases Yu7 _ _ x hx r hr with h | h
     ·cases h
     ·exact Yb6 s r h.1
    ·rcases Yu7 _ _ x hx r hr with h | h
     ·cases h
     ·exact h.2
    ·have:=Yja (Yq s) [] x hx
     rw [YZ1,Yzu,htot] at this
     omega
   have h2:=Ydc s (dcut [] (Yq s)) [] hM (by simp only [Yju]; omega) (fun x hx=> by cases hx) (fun e x hx=> by
    rw [Yju,Nat.zero_add] at e
    have:=YYf _ _ e
    rw [this] at hx
    have hx:=YEu.1 hx
    rw [Yzu] at hx
    rw [hx]
    intro e2
    rw [e2] at htot
    exact hne htot.symm)
   rw [Yju,Yzu,Yzu,show ((0:Nat):Int)=0 from rfl] at h2
   rw [h2]
end Go.Abs
namespace Go.Abs
theorem YHq (c:Int):hasB forb c=Y51 c:=rfl
theorem YV8 (s:List UInt8) (dom:Bool) (hs:s.length<=1073741824):∀ (n i:Nat),i+n=s.length->Zz1 s dom (i:Int)=some ((s.drop i).any fun b=> Y51 (Y8 b)||(dom&&(decide (Y8 b < 32)||(Y8 b==37||Y8 b==127))))
 | 0,i,h=> by
  have:i=s.length:=by omega
  subst this
  rw [YUd,Yg,Y6u (Yxu _),Y8u,List.drop_length]; rfl
 | n+1,i,h=> by
  have hi:i < s.length:=by omega
  have hw:IntKind.i64.wrap ((i:Int)+1)=((i+1:Nat):Int):=by rw [w64 (by omega) (by omega)]; omega
  have hg:((((List.getD s (Int.toNat (i:Int)) (0:UInt8)).toNat:Nat)):Int)=Y8 s[i]:=by
   rw [Ydu,Ymu,Ynu hi]; rfl
  rw [YUd,Yg,Y5u hi,Y7u,Yj,Y5u hi,Y7u,hg,hw]
  rw [show ([(0:UInt8),(9:UInt8),(10:UInt8),(13:UInt8),(32:UInt8),(35:UInt8),(47:UInt8),(58:UInt8),(60:UInt8),(62:UInt8),(63:UInt8),(64:UInt8),(91:UInt8),(92:UInt8),(93:UInt8),(94:UInt8),(124:UInt8)]:List UInt8)=forb from rfl,YMn forb _ (by simp [forb]),Y9u,YHq,Yiu hi,List.any_cons,YV8 s dom hs n (i+1) (by omega)]
  simp only [Y7u]
  cases Y51 (Y8 s[i]) with
  | true=> rfl
  | false=>
   rw [Y8u,Ytu]
   cases dom with
   | false=> rw [Y8u,Bool.false_and,Ytu]
   | true=>
    rw [Y7u,Bool.true_and]
    cases decide (Y8 s[i] < 32) with
    | true=> rfl
    | false=>
     rw [Y8u,Ytu]
     cases (Y8 s[i]==37) with
     | true=> rfl
     | false=>
      rw [Y8u,Ytu]
      cases (Y8 s[i]==127) with
      | true=> rfl
      | false=> rw [Y8u,Ytu]
theorem Y5e {α:Type} {p q:α->Bool} (h:∀ x,p x=q x) (l:List α):l.any p=l.any q:=by
 have:p=q:=funext h
 rw [this]
theorem YPo (s:List UInt8) (hs:s.length<=1073741824):YX2 (s,true)=some (s.any badB):=by
 rw [Ymf]
 dsimp only
 rw [YRd]
 have:=YV8 s true hs s.length 0 (by omega)
 rw [show ((0:Nat):Int)=0 from rfl,List.drop_zero] at this
 rw [this]
 congr 1
 apply Y5e
 intro b
 unfold badB
 cases Y51 (Y8 b) <;> cases decide (Y8 b < 32) <;> cases (Y8 b==37) <;> cases (Y8 b==127) <;> rfl
theorem YQo (s:List UInt8) (hs:s.length<=1073741824):YX2 (s,false)=some (Yw3 s):=by
 rw [Ymf]
 dsimp only
 rw [YRd]
 have:=YV8 s false hs s.length 0 (by omega)
 rw [show ((0:Nat):Int)=0 from rfl,List.drop_zero] at this
 rw [this]
 congr 1
 apply Y5e
 intro b
 cases Y51 (Y8 b) <;> rfl
theorem Yaj (s:List UInt8) (hs:s.length<=65536):((YI5 s).bind fun y0=>
      (YM5 y0).bind fun y1=>
       bif (y1.2 !=(0:Int)) then
        some (((Ty.zero (.int .i64)),((Ty.zero .str),((Ty.zero (.int .u32)),(Ty.zero (.arr 8 (.int .u16)))))),y1.2)
       else
        bif (y1.1==([]:List UInt8)) then
         some (((Ty.zero (.int .i64)),((Ty.zero .str),((Ty.zero (.int .u32)),(Ty.zero (.arr 8 (.int .u16)))))),(51:Int))
        else
         (YX2 (y1.1,true)).bind fun y2=>
          bif y2 then
           some (((Ty.zero (.int .i64)),((Ty.zero .str),((Ty.zero (.int .u32)),(Ty.zero (.arr 8 (.int .u16)))))),(52:Int))
          else
           (YK5 y1.1).bind fun y3=>
            bif y3 then
             (YL5 y1.1).bind fun y4=>
              bif (y4.2 !=(0:Int)) then
               some (((Ty.zero (.int .i64)),((Ty.zero .str),((Ty.zero (.int .u32)),(Ty.zero (.arr 8 (.int .u16)))))),y4.2)
              else
               some (((2:Int),((Ty.zero .str),(y4.1,(Ty.zero (.arr 8 (.int .u16)))))),(0:Int))
            else
             some (((1:Int),(y1.1,((Ty.zero (.int .u32)),(Ty.zero (.arr 8 (.int .u16)))))),(0:Int)))=some (Yb3 s):=by
 have hl:=Ybe (YN s)
 have hdl:=YWp s
 rw [YN7,Yqo s (by omega),Y9u,YNo _ (by omega),Y9u,bne0]
 unfold Yb3
 by_cases c:(YF (YN s)).2≠0
 ·rw [Y5u c,Y7u,Ybu c]
 ·rw [Y6u c,Y8u,Yau c]
  by_cases d:(YF (YN s)).1=[]
  ·rw [show ((YF (YN s)).1==[])=true from by rw [d]; rfl,Y7u,Ybu d]
  ·rw [show ((YF (YN s)).1==[])=false from by simpa using d,Y8u,Yau d,YPo _ (by omega),Y9u]
   cases (YF (YN s)).1.any badB with
   | true=> rw [Y7u,Ybu rfl]
   | false=>
    rw [Y8u,Yau (by simp),YEo _ (by omega),Y9u]
    unfold Yf2
    cases YZ2 (YF (YN s)).1 with
    | false=> rw [Y8u,Yau (by simp)]; rfl
    | true=>
     rw [Y7u,Ybu rfl,YGo _ (by omega),Y9u,bne0]
     by_cases e:(ipOf (YF (YN s)).1).2≠0
     ·rw [Y5u e,Y7u,Ybu e]
     ·rw [Y6u e,Y8u,Yau e]; rfl
theorem Y9j (s:List UInt8) (hs:s.length<=65536):((YX2 (s,false)).bind fun y0=>
      bif y0 then
       some (((Ty.zero (.int .i64)),((Ty.zero .str),((Ty.zero (.int .u32)),(Ty.zero (.arr 8 (.int .u16)))))),(52:Int))
      else
       bif (s==([]:List UInt8)) then
        some (((5:Int),((Ty.zero .str),((Ty.zero (.int .u32)),(Ty.zero (.arr 8 (.int .u16)))))),(0:Int))
       else
        (YJ5 ((1:Int),s)).bind fun y1=>
         bif (decide ((((List.length y1.1):Nat):Int) > (65536:Int))) then
          some (((Ty.zero (.int .i64)),((Ty.zero .str),((Ty.zero (.int .u32)),(Ty.zero (.arr 8 (.int .u16)))))),(5:Int))
         else
          some (((4:Int),(y1.1,((Ty.zero (.int .u32)),(Ty.zero (.arr 8 (.int .u16)))))),(0:Int)))=some (if s=[] then (((5:Int),(([]:List UInt8),((0:Int),z8))),0) else Y73 s):=by
 rw [YQo s (by omega),Y9u,YN7]
 by_cases e:s=[]
 ·subst e; rfl
 rw [Yau e]
 unfold Y73
 cases Yw3 s with
 | true=> rw [Y7u,Ybu rfl]
 | false=>
  rw [Y8u,Yau (by simp),show (s==[])=false from by simpa using e,Y8u,Yto s (by omega),Y9u]
  by_cases c:65536 < (Y22 s).length
  ·rw [show decide (((Y22 s).length:Int) > 65536)=true from Y5u (by omega),Y7u,Ybu c]
  ·rw [show decide (((Y22 s).length:Int) > 65536)=false from Y6u (by omega),Y8u,Yau c]; rfl
theorem Yjf (s:List UInt8) (sp:Bool):Yb7 (s,sp)=some (Yk1 s sp):=by
 rw [YLo]
 dsimp only
 rw [Yul]
 unfold Yk1
 by_cases a:65536 < s.length
 ·rw [show decide ((s.length:Int) > 65536)=true from Y5u (by omega),Y7u,Ybu a]; rfl
 rw [show decide ((s.length:Int) > 65536)=false from Y6u (by omega),Y8u,Yau a,Yaj s (by omega),Y9j s (by omega)]
 cases s with
 | nil=>
  rw [show decide (((([]:List UInt8).length:Nat):Int) > 0)=false from rfl,Y8u,Yau (show ¬([]:List UInt8).head? =some 91 by simp)]
  cases sp with
  | true=> rw [Yvu,Y8u,Ybu rfl]
  | false=> rw [Ywu,Y7u,Yau (show ¬(false=true) by simp)]
 | cons b t=>
  have h0:(((UInt8.toNat (List.getD (b::t) (Int.toNat (0:Int)) (0:UInt8))):Nat):Int)=Y8 b:=rfl
  rw [show decide ((((b::t).length:Nat):Int) > 0)=true from Y5u (by simp only [Yeu]; omega),Y7u,Y05,Y7u,h0]
  by_cases c:b=91
  ·subst c
   have hw:IntKind.i64.wrap ((((91:UInt8)::t).length:Int) - 1)=((((91:UInt8)::t).length - 1:Nat):Int):=by
    rw [w64 (by omega) (by omega)]; simp only [Yeu]; omega
   rw [show (Y8 91==91)=true from rfl,Y7u,hw,Ybu (show ((91:UInt8)::t).head? =some 91 from rfl)]
   unfold Yw4
   rw [YG7 _ (by simp)]
   by_cases e:((91:UInt8)::t).length < 2
   ·rw [show decide (((((91:UInt8)::t).length:Nat):Int) < 2)=true from Y5u (by omega),Y7u]
    have:t=[]:=List.eq_nil_of_length_eq_zero (by simp only [Yeu] at e; omega)
    subst this
    rw [Ybu (show (some (List.getD ([91]:List UInt8) (([91]:List UInt8).length - 1) 0))≠some 93 by decide)]; rfl
   ·rw [show decide (((((91:UInt8)::t).length:Nat):Int) < 2)=false from Y6u (by omega),Y8u,Yj,Y5u (by omega),Y7u,Ydu]
    generalize hgl:List.getD ((91:UInt8)::t) (((91:UInt8)::t).length - 1) 0=g
    by_cases d:g=93
    ·subst d
     have hcut:Yl (some (1:Int)) (some ((((91:UInt8)::t).length - 1:Nat):Int)) ((91:UInt8)::t)=Y62 ((91:UInt8)::t):=Yb4 1 _ _
     have hil:(Y62 ((91:UInt8)::t)).length<=65536:=by
      unfold Y62
      rw [Yqu,Ypu]; omega
     rw [show ((((93:UInt8).toNat:Nat):Int) !=93)=false from rfl,Y8u,Yau (show ¬(some (93:UInt8)≠some 93) from fun h=> h rfl),Yau e,show Yi (some (1:Int)) (some ((((91:UInt8)::t).length - 1:Nat):Int)) ((91:UInt8)::t).length=true from Yc4 (f:=1) (by omega) (by omega),Y7u,hcut,YIo _ (by omega),Y9u,bne0]
     by_cases f:(v6Of (Y62 ((91:UInt8)::t))).2≠0
     ·rw [Y5u f,Y7u,Ybu f]; rfl
     ·rw [Y6u f,Y8u,Yau f]; rfl
    ·have hb:((((g.toNat:Nat):Int)) !=93)=true:=bne_iff_ne.2 (fun h=> d (Yl3 (show Y8 g=Y8 93 from h)))
     rw [hb,Y7u,Ybu (show some g≠some 93 by simpa using d)]; rfl
  ·have hb:(Y8 b==91)=false:=Yhu.2 (fun h=> c (Yl3 (show Y8 b=Y8 91 from h)))
   rw [hb,Y8u,Yau (show ¬(b::t).head? =some 91 by simpa using c)]
   cases sp with
   | true=> rw [Yvu,Y8u,Ybu rfl]
   | false=> rw [Ywu,Y7u,Yau (show ¬(false=true) by simp)]
end Go.Abs
namespace Go.Abs
def dgB (n:Nat):UInt8:=UInt8.ofNat (48+n)
theorem Y1g (n:Nat) (h:n < 10):Ym ([(IntKind.wrap IntKind.u8 (IntKind.wrap IntKind.u32 ((48:Int)+(n:Int))))]:List Int)=[dgB n]:=by
 rw [wu32 (by omega) (by omega),w8 (by omega) (by omega)]
 show [UInt8.ofNat ((48:Int)+(n:Int)).toNat]=_
 rw [show ((48:Int)+(n:Int)).toNat=48+n from by omega]; rfl
theorem Yla (n:Nat) (h:n < 10):YJ1 (n:Int)=some [dgB n]:=by
 rw [Ylf,Ysc,show decide ((n:Int) < 10)=true from Y5u (by omega),Y7u,Y1g n h]
theorem Yka (n:Nat) (h0:10<=n) (h:n < 4294967296) (y:List UInt8) (hy:YJ1 ((n / 10:Nat):Int)=some y) (hl:y.length<=100):YJ1 (n:Int)=some (y++[dgB (n % 10)]):=by
 have e1:Int.tdiv (n:Int) 10=((n / 10:Nat):Int):=by
  rw [YDu (by omega)]; omega
 have e2:Int.tmod (n:Int) 10=((n % 10:Nat):Int):=by
  rw [Int.tmod_eq_emod_of_nonneg (by omega)]; omega
 rw [Ylf,Ysc,show decide ((n:Int) < 10)=false from Y6u (by omega),Y8u,e1,e2,wu32 (by omega) (by omega),hy,Y9u,Y1g _ (by omega),
  show decide (y.length+([dgB (n % 10)]:List UInt8).length<=2 ^ 62)=true from Y5u (by simp only [Yeu,Yju]; omega),Y7u]
def decS (n:Nat):List UInt8:=if n < 10 then [dgB n] else if n < 100 then [dgB (n / 10),dgB (n % 10)] else [dgB (n / 10 / 10),dgB (n / 10 % 10),dgB (n % 10)]
theorem YYp (n:Nat) (h:n < 1000):YJ1 (n:Int)=some (decS n):=by
 unfold decS
 by_cases c1:n < 10
 ·rw [Ybu c1]; exact Yla n c1
 rw [Yau c1]
 by_cases c2:n < 100
 ·rw [Ybu c2]
  exact Yka n (by omega) (by omega) _ (Yla (n / 10) (by omega)) (by simp)
 ·rw [Yau c2]
  exact Yka n (by omega) (by omega) _ (Yka (n / 10) (by omega) (by omega) _ (Yla (n / 10 / 10) (by omega)) (by simp)) (by simp)
theorem Y0q:(List.range 256).all (fun n=> Y23 n==decS n)=true:=by kernel_rfl
theorem Yy7 (n:Int) (h0:0<=n) (h:n < 256):YJ1 n=some (Lib.itoa n):=by
 obtain ⟨k,rfl⟩:=Int.eq_ofNat_of_zero_le h0
 have:=List.all_eq_true.1 Y0q k (List.mem_range.2 (by omega))
 rw [YYg k (by omega),YYp k (by omega),beq_iff_eq.1 this]
def hexD:List UInt8:=[48,49,50,51,52,53,54,55,56,57,97,98,99,100,101,102]
theorem YKq:(List.range 16).all (fun n=> (hexD.take (n+1)).drop n==[dig (n:Int)])=true:=by kernel_rfl
theorem Yzg (n:Nat) (h:n < 16):Yl (some (n:Int)) (some ((n+1:Nat):Int)) hexD=[dig (n:Int)]:=by
 have:=List.all_eq_true.1 YKq n (List.mem_range.2 h)
 rw [Yb4,beq_iff_eq.1 this]
theorem YAg (n:Nat) (h:n < 16):Yi (some (n:Int)) (some ((n+1:Nat):Int)) (List.length hexD)=true:=Yc4 (by omega) (by show n+1<=16; omega)
theorem YM7 (n:Nat) (h:n < 16):Yo3 (n:Int)=some [dig (n:Int)]:=by
 have hw:IntKind.u16.wrap ((n:Int)+1)=((n+1:Nat):Int):=by rw [w16 (by omega) (by omega)]; omega
 rw [Ynf,YGc,show decide ((n:Int) < 16)=true from Y5u (by omega),Y7u,hw]
 show (bif Yi (some (n:Int)) (some ((n+1:Nat):Int)) (List.length hexD) then some (Yl (some (n:Int)) (some ((n+1:Nat):Int)) hexD) else none)=_
 rw [YAg n h,Y7u,Yzg n h]
theorem YY4 (n:Nat) (h0:16<=n) (h:n < 65536) (y:List UInt8) (hy:Yo3 ((n / 16:Nat):Int)=some y) (hl:y.length<=100):Yo3 (n:Int)=some (y++[dig ((n % 16:Nat):Int)]):=by
 have e1:Int.tdiv (n:Int) 16=((n / 16:Nat):Int):=by
  rw [YDu (by omega)]; omega
 have e2:Int.tmod (n:Int) 16=((n % 16:Nat):Int):=by
  rw [Int.tmod_eq_emod_of_nonneg (by omega)]; omega
 have hw:IntKind.u16.wrap (((n % 16:Nat):Int)+1)=((n % 16+1:Nat):Int):=by rw [w16 (by omega) (by omega)]; omega
 have hw2:IntKind.u16.wrap ((n / 16:Nat):Int)=((n / 16:Nat):Int):=w16 (by omega) (by omega)
 rw [Ynf,YGc,show decide ((n:Int) < 16)=false from Y6u (by omega),Y8u,e1,e2,hw,hw2,hy,Y9u]
 show (bif Yi (some ((n % 16:Nat):Int)) (some ((n % 16+1:Nat):Int)) (List.length hexD) then (bif decide (y.length+(Yl (some ((n % 16:Nat):Int)) (some ((n % 16+1:Nat):Int)) hexD).length<=2 ^ 62) then some (y++Yl (some ((n % 16:Nat):Int)) (some ((n % 16+1:Nat):Int)) hexD) else none) else none)=_
 rw [YAg _ (by omega),Y7u,Yzg _ (by omega),show decide (y.length+([dig ((n % 16:Nat):Int)]:List UInt8).length<=2 ^ 62)=true from Y5u (by simp only [Yeu,Yju]; omega),Y7u]
theorem YGs (u:Int) (h0:0<=u) (h1:u < 65536):Yo3 u=some (hexT u):=by
 obtain ⟨n,rfl⟩:=Int.eq_ofNat_of_zero_le h0
 unfold hexT
 by_cases c1:n < 16
 ·rw [Ybu (by omega)]; exact YM7 n c1
 rw [Yau (by omega)]
 by_cases c2:n < 256
 ·rw [Ybu (by omega),YY4 n (by omega) (by omega) _ (YM7 (n / 16) (by omega)) (by simp)]
  rw [show (n:Int) / 16=((n / 16:Nat):Int) from by omega,show (n:Int) % 16=((n % 16:Nat):Int) from by omega]; rfl
 rw [Yau (by omega)]
 by_cases c3:n < 4096
 ·rw [Ybu (by omega),YY4 n (by omega) (by omega) _ (YY4 (n / 16) (by omega) (by omega) _ (YM7 (n / 16 / 16) (by omega)) (by simp)) (by simp)]
  rw [show (n:Int) / 256=((n / 16 / 16:Nat):Int) from by omega,show (n:Int) / 16 % 16=((n / 16 % 16:Nat):Int) from by omega,show (n:Int) % 16=((n % 16:Nat):Int) from by omega]; rfl
 ·rw [Yau (by omega),YY4 n (by omega) (by omega) _ (YY4 (n / 16) (by omega) (by omega) _ (YY4 (n / 16 / 16) (by omega) (by omega) _ (YM7 (n / 16 / 16 / 16) (by omega)) (by simp)) (by simp)) (by simp)]
  rw [show (n:Int) / 4096=((n / 16 / 16 / 16:Nat):Int) from by omega,show (n:Int) / 256 % 16=((n / 16 / 16 % 16:Nat):Int) from by omega,show (n:Int) / 16 % 16=((n / 16 % 16:Nat):Int) from by omega,show (n:Int) % 16=((n % 16:Nat):Int) from by omega]; rfl
end Go.Abs
namespace Go.Abs
def Both (v x y:List Int) (best at' most i:Int):Prop:=
 ∃ b a n:Int,Z97 x best most i v=(if n=1 then some (0,0) else some (b,n))/\Z38 y at' most i v=Z58 y a n [] 0 v/\((n=1/\a=-1)\/(n≠1/\a=b))/\1<=n
def Inv (best at' most:Int):Prop:=1<=most/\((most=1/\at'=-1)\/(most≠1/\at'=best))
theorem Ykm (v x y:List Int) (best at' most:Int) (i:Nat) (hi:i < 8) (hI:Inv best at' most) (next:∀ b a m:Int,Inv b a m->Both v x y b a m ((i+1:Nat):Int)):
  ∀ (k n:Nat),i+n+k=8->∃ b a m:Int,Za7 x best most (i:Int) (n:Int) (i:Int) v=(if m=1 then some (0,0) else some (b,m))/\Z48 y at' most (i:Int) (n:Int) v=Z58 y a m [] 0 v/\((m=1/\a=-1)\/(m≠1/\a=b))/\1<=m:=by
 have hw1:IntKind.i64.wrap ((i:Int)+1)=((i+1:Nat):Int):=by rw [w64 (by omega) (by omega)]; omega
 have stop:∀ n:Nat,∃ b a m:Int,(bif decide ((n:Int) > most) then Z97 x (i:Int) (n:Int) ((i+1:Nat):Int) v else Z97 x best most ((i+1:Nat):Int) v)=(if m=1 then some (0,0) else some (b,m))/\
   (bif decide ((n:Int) > most) then Z38 y (i:Int) (n:Int) ((i+1:Nat):Int) v else Z38 y at' most ((i+1:Nat):Int) v)=Z58 y a m [] 0 v/\((m=1/\a=-1)\/(m≠1/\a=b))/\1<=m:=by
  intro n
  by_cases c:most < n
  ·rw [show decide ((n:Int) > most)=true from Y5u c,Y7u,Y7u]
   exact next i i n ⟨by have:=hI.1; omega,.inr ⟨by have:=hI.1; omega,rfl⟩⟩
  ·rw [show decide ((n:Int) > most)=false from Y6u c,Y8u,Y8u]
   exact next best at' most hI
 intro k
 induction k with
 | zero=>
  intro n hk
  have hw:IntKind.i64.wrap ((i:Int)+(n:Int))=((i+n:Nat):Int):=by rw [w64 (by omega) (by omega)]; omega
  rw [Yv6,Yxc,hw,hw1,show decide (((i+n:Nat):Int) < 8)=false from Y6u (by omega),Y8u,Y8u]
  exact stop n
 | succ k ih=>
  intro n hk
  have hw:IntKind.i64.wrap ((i:Int)+(n:Int))=((i+n:Nat):Int):=by rw [w64 (by omega) (by omega)]; omega
  have hwn:IntKind.i64.wrap ((n:Int)+1)=((n+1:Nat):Int):=by rw [w64 (by omega) (by omega)]; omega
  rw [Yv6,Yxc,hw,hw1,hwn,show decide (((i+n:Nat):Int) < 8)=true from Y5u (by omega),Y7u,Y7u,Yj,Y5u (by omega),Y7u,Y7u,Ydu]
  cases (List.getD v (i+n) (Ty.zero (.int .u16))==(0:Int)) with
  | true=> exact ih (n+1) (by omega)
  | false=> exact stop n
theorem Yie (v x y:List Int):∀ (k i:Nat) (best at' most:Int),i+k=8->Inv best at' most->Both v x y best at' most (i:Int)
 | 0,i,best,at',most,hk,hI=> by
  refine ⟨best,at',most,?_,?_,hI.2,hI.1⟩
  ·rw [Yu6,show decide ((i:Int) < 8)=false from Y6u (by omega),Y8u]
   by_cases c:most=1
   ·rw [Ybu c,show (most==1)=true from beq_iff_eq.2 c,Y7u]
   ·rw [Yau c,show (most==1)=false from Yhu.2 c,Y8u]
  ·rw [Ywc,show decide ((i:Int) < 8)=false from Y6u (by omega),Y8u]
 | k+1,i,best,at',most,hk,hI=> by
  obtain ⟨b,a,m,h1,h2,h3⟩:=Ykm v x y best at' most i (by omega) hI (fun b a m hb=> Yie v x y k (i+1) b a m (by omega) hb) (8 - i) 0 (by omega)
  refine ⟨b,a,m,?_,?_,h3⟩
  ·rw [Yu6,show decide ((i:Int) < 8)=true from Y5u (by omega),Y7u]
   exact h1
  ·rw [Ywc,show decide ((i:Int) < 8)=true from Y5u (by omega),Y7u]
   exact h2
theorem YSq (v:List Int) (h8:v.length=8) (hr:Yp1 v) (hrun:YE4 v=some (0,0)):Yz5 v=some (told v):=by
 rw [Yze,YEc,hrun]
 simp only [Y9u]
 rw [show ((0:Int)==0)=true from rfl,Y7u]
 have e:List.drop (Option.getD (Option.map Int.toNat none) 0) (List.take (Option.getD (Option.map Int.toNat none) 8) v)=v:=(List.take_of_length_le (by omega):List.take 8 v=v)
 rw [e,YHb v hr (by omega),Y9u]
theorem YTq (v:List Int) (h8:v.length=8) (hr:Yp1 v) (a n:Nat) (h2:2<=n) (hle:a+n<=8) (hrun:YE4 v=some ((a:Int),(n:Int))):Yz5 v=some (told (v.take a)++[58,58]++told (v.drop (a+n))):=by
 rw [Yze,YEc,hrun]
 simp only [Y9u]
 rw [show ((n:Int)==0)=false from Yhu.2 (by omega),Y8u]
 have hw:IntKind.i64.wrap ((a:Int)+(n:Int))=((a+n:Nat):Int):=by rw [w64 (by omega) (by omega)]; omega
 have hc:Yi none (some (a:Int)) 8=true:=by simp [Yi]; omega
 rw [hc,Y7u,hw,Yd1 hle,Y7u]
 have e1:List.drop (Option.getD (Option.map Int.toNat none) 0) (List.take (Option.getD (Option.map Int.toNat (some (a:Int))) 8) v)=v.take a:=by
  show List.drop 0 (List.take (Int.toNat (a:Int)) v)=_
  rw [List.drop_zero,Ydu]
 have e2:List.drop (Option.getD (Option.map Int.toNat (some ((a+n:Nat):Int))) 0) (List.take (Option.getD (Option.map Int.toNat none) 8) v)=v.drop (a+n):=by
  show List.drop (Int.toNat ((a+n:Nat):Int)) (List.take 8 v)=_
  rw [Ydu,List.take_of_length_le (by omega)]
 have r1:=YDa hr a
 have r2:=YCa hr (a+n)
 have l1:(v.take a).length=a:=by rw [Ypu]; omega
 have l2:(v.drop (a+n)).length=8 - (a+n):=by rw [Yqu,h8]
 rw [e1,e2,YHb _ r1 (by omega),YHb _ r2 (by omega)]
 have t1:=Ys5 _ r1
 have t2:=Ys5 _ r2
 simp only [Y9u]
 rw [show decide ((told (v.take a)).length+([58,58]:List UInt8).length<=2 ^ 62)=true from Y5u (by simp; omega),Y7u,
  show decide ((told (v.take a)++([58,58]:List UInt8)).length+(told (v.drop (a+n))).length<=2 ^ 62)=true from Y5u (by simp; omega),Y7u]
def sepB (s:List UInt8):Bool:=decide (((s.length:Nat):Int) > 0)&&(Y8 (s.getD (s.length - 1) 0) !=58)
def addP (s:List UInt8) (x:Int):List UInt8:=(if sepB s=true then s++[58] else s)++hexT x
def YD2 (s:List UInt8):List Int->List UInt8
 | []=> s
 | x::l=> YD2 (addP s x) l
theorem Y0e (s:List UInt8) (x:Int) (h:0<=x/\x < 65536):(addP s x).length<=s.length+5:=by
 have:=(YL7 x h.1 h.2).2.2.2
 unfold addP
 split <;> simp only [Yfu,Yeu,Yju] <;> omega
theorem YJb (x v:List Int) (h8:v.length=8) (at' most:Int) (s:List UInt8) (i:Nat) (hi:i < 8) (hv:0<=v.getD i 0/\v.getD i 0 < 65536) (hs:s.length<=1000):
  Z68 x at' most s (i:Int) v=Z58 x at' most (s++hexT (v.getD i 0)) ((i+1:Nat):Int) v:=by
 have hw1:IntKind.i64.wrap ((i:Int)+1)=((i+1:Nat):Int):=by rw [w64 (by omega) (by omega)]; omega
 have hl:=(YL7 _ hv.1 hv.2).2.2.2
 have he:Yo3 (List.getD v i (Ty.zero (.int .u16)))=some (hexT (v.getD i 0)):=YGs _ hv.1 hv.2
 rw [YPj,Yj,Y5u hi,Y7u,Ydu,he,Y9u,hw1,
  show decide (s.length+(hexT (v.getD i 0)).length<=2 ^ 62)=true from Y5u (by omega),Y7u]
theorem Yqi (x v:List Int) (h8:v.length=8) (at' most:Int) (s:List UInt8) (i:Nat) (hi:i < 8) (hne:(i:Int)≠at') (hv:0<=v.getD i 0/\v.getD i 0 < 65536) (hs:s.length<=900):
  Z58 x at' most s (i:Int) v=Z58 x at' most (addP s (v.getD i 0)) ((i+1:Nat):Int) v:=by
 rw [YZ8,show decide ((i:Int) < 8)=true from Y5u (by omega),Y7u,show ((i:Int)==at')=false from Yhu.2 hne,Y8u]
 by_cases c:s.length=0
 ·have hs0:sepB s=false:=by unfold sepB; rw [Y6u (by omega)]; rfl
  rw [show decide (((List.length s:Nat):Int) > 0)=false from Y6u (by omega),Y8u,YJb x v h8 at' most s i hi hv (by omega)]
  unfold addP; rw [hs0,Yau (by simp)]
 ·have hw:IntKind.i64.wrap (((List.length s:Nat):Int) - 1)=((s.length - 1:Nat):Int):=by rw [w64 (by omega) (by omega)]; omega
  rw [show decide (((List.length s:Nat):Int) > 0)=true from Y5u (by omega),Y7u,hw,Yj,Y5u (by omega),Y7u,Ydu]
  show (bif (Y8 (s.getD (s.length - 1) 0) !=58) then _ else _)=_
  have hs0:sepB s=(Y8 (s.getD (s.length - 1) 0) !=58):=by unfold sepB; rw [Y5u (by omega)]; rfl
  rw [<-hs0]
  unfold addP
  cases sepB s with
  | true=>
   rw [Y7u,Ybu rfl,show decide (List.length s+List.length ([(58:UInt8)]:List UInt8)<=2 ^ 62)=true from Y5u (by simp only [Yeu,Yju]; omega),Y7u,
    YJb x v h8 at' most _ i hi hv (by simp only [Yfu,Yeu,Yju]; omega)]
  | false=> rw [Y8u,Yau (by simp),YJb x v h8 at' most s i hi hv (by omega)]
theorem getR {v:List Int} (h8:v.length=8) (hr:Yp1 v) (i:Nat) (hi:i < 8):v.drop i=v.getD i 0::v.drop (i+1)/\(0<=v.getD i 0/\v.getD i 0 < 65536):=by
 have e:v.getD i 0=v[i]'(by omega):=by rw [Ymu,Ynu (by omega)]; rfl
 rw [e]
 exact ⟨Yiu (by omega),hr _ (List.getElem_mem _)⟩
theorem YIb (x v:List Int) (h8:v.length=8) (hr:Yp1 v) (at' most:Int):∀ (k i:Nat) (s:List UInt8),i+k=8->at' < (i:Int)->s.length+10*k<=500->Z58 x at' most s (i:Int) v=some (([91]++YD2 s (v.drop i))++[93])
 | 0,i,s,hk,ha,hs=> by
  rw [YZ8,show decide ((i:Int) < 8)=false from Y6u (by omega),Y8u,List.drop_eq_nil_of_le (by omega),YD2,
   show decide (List.length ([(91:UInt8)]:List UInt8)+List.length s<=2 ^ 62)=true from Y5u (by simp only [Yeu,Yju]; omega),Y7u,
   show decide (List.length (([(91:UInt8)]:List UInt8)++s)+List.length ([(93:UInt8)]:List UInt8)<=2 ^ 62)=true from Y5u (by simp only [Yfu,Yeu,Yju]; omega),Y7u]
 | k+1,i,s,hk,ha,hs=> by
  obtain ⟨e,hv⟩:=getR h8 hr i (by omega)
  have:=Y0e s _ hv
  rw [Yqi x v h8 at' most s i (by omega) (by omega) hv (by omega),YIb x v h8 hr at' most k (i+1) _ (by omega) (by omega) (by omega),e,YD2]
theorem Yri (x v:List Int) (h8:v.length=8) (hr:Yp1 v) (a:Nat) (most:Int) (ha:a < 8):∀ (k i:Nat) (s:List UInt8),i+k=a->s.length+10*k<=300->
  Z58 x (a:Int) most s (i:Int) v=Z58 x (a:Int) most (YD2 s ((v.drop i).take k)) (a:Int) v/\(YD2 s ((v.drop i).take k)).length<=s.length+10*k
 | 0,i,s,hk,hs=> by
  have:i=a:=by omega
  subst this
  exact ⟨rfl,by show s.length<=_; omega⟩
 | k+1,i,s,hk,hs=> by
  obtain ⟨e,hv⟩:=getR h8 hr i (by omega)
  have:=Y0e s _ hv
  obtain ⟨h1,h2⟩:=Yri x v h8 hr a most ha k (i+1) (addP s (v.getD i 0)) (by omega) (by omega)
  rw [Yqi x v h8 (a:Int) most s i (by omega) (by omega) hv (by omega),h1,e,List.take_succ_cons,YD2]
  exact ⟨rfl,by omega⟩
theorem Yct (s:List UInt8) (x:Int) (h:0<=x/\x < 65536):sepB (s++hexT x)=true:=by
 obtain ⟨_,f2,f3,_⟩:=YL7 x h.1 h.2
 have hl:1<=(hexT x).length:=by
  cases e:hexT x with
  | nil=> exact absurd e f3
  | cons=> simp
 have hlen:(s++hexT x).length=s.length+(hexT x).length:=Yfu
 have hg:(s++hexT x).getD ((s++hexT x).length - 1) 0=(hexT x).getD ((hexT x).length - 1) 0:=by
  rw [Ymu,Ymu,hlen,List.getElem?_append_right (by omega)]
  congr 2; omega
 have hm:(hexT x).getD ((hexT x).length - 1) 0∈hexT x:=by
  rw [Ymu,Ynu (by omega)]
  exact List.getElem_mem _
 have hb:=(f2 _ hm).1
 unfold sepB
 rw [hg,Y5u (by rw [hlen]; omega),Bool.true_and,bne_iff_ne]
 intro e
 exact hb (UInt8.toNat_inj.1 (by unfold Y8 at e; have:(58:UInt8).toNat=58:=rfl; omega))
theorem YDi (x:Int) (l:List Int):told (x::l)=hexT x++(if l=[] then [] else 58::told l):=by
 cases l with
 | nil=> rw [Ybu rfl,Yyu]; rfl
 | cons y l=> rw [Yau (List.cons_ne_nil y l)]; rfl
theorem YB8:∀ (l:List Int) (s:List UInt8),Yp1 l->YD2 s l=s++(if sepB s=true then (if l=[] then [] else 58::told l) else told l)
 | [],s,_=> by
  rw [YD2]
  by_cases c:sepB s=true
  ·rw [Ybu c,Ybu rfl,Yyu]
  ·rw [Yau c]; show s=s++[]; rw [Yyu]
 | x::l,s,h=> by
  have hx:=h x (by simp)
  rw [YD2,YB8 l _ (fun y hy=> h y (by simp [hy]))]
  have hs:sepB (addP s x)=true:=by unfold addP; exact Yct _ x hx
  rw [Ybu hs]
  unfold addP
  by_cases c:sepB s=true
  ·rw [Ybu c,Ybu c,Yau (List.cons_ne_nil x l),YDi]; simp
  ·rw [Yau c,Yau c,YDi]; simp
theorem Yki:sepB []=false:=rfl
theorem Ydt (s:List UInt8):sepB (s++[58,58])=false:=by
 unfold sepB
 have:(s++[58,58]:List UInt8).getD ((s++[58,58]:List UInt8).length - 1) 0=58:=by
  rw [Ymu,Yfu,List.getElem?_append_right (by simp)]
  simp only [Yeu,Yju]
  rw [show s.length+(0+1+1) - 1 - s.length=1 from by omega]; rfl
 rw [this]
 show (_&&false)=false
 rw [Bool.and_false]
theorem YMs (v:List Int) (h8:v.length=8) (hr:Yp1 v):∃ s,Yz5 v=some s/\s.length<=200/\YZ9 v=some (([91]++s)++[93]):=by
 obtain ⟨b,a,n,h1,h2,h3,h4⟩:=Yie v v v 8 0 0 (-1) 1 (by omega) ⟨Int.le_refl _,.inl ⟨rfl,rfl⟩⟩
 have hR:=YYs v h8
 have hrun:YE4 v=(if n=1 then some (0,0) else some (b,n)):=by rw [Yye,YJc]; exact h1
 rw [YXo,Ytj,show (-(1:Int))=-1 from rfl]
 rw [show ((0:Nat):Int)=0 from rfl] at h2
 rw [h2]
 rcases h3 with ⟨rfl,rfl⟩ | ⟨hn,rfl⟩
 ·rw [Ybu rfl] at hrun
  have:=YIb v v h8 hr (-1) 1 8 0 [] (by omega) (by omega) (by simp)
  rw [show ((0:Nat):Int)=0 from rfl] at this
  have hl:=Ys5 v hr
  refine ⟨_,YSq v h8 hr hrun,by omega,?_⟩
  rw [this,List.drop_zero,YB8 v _ hr,Yki,Yau (by simp),Yzu]
 ·rw [Yau hn] at hrun
  obtain ⟨a',n',e,q⟩:=hR
  rw [hrun] at e
  have ea:a=(a':Int):=congrArg Prod.fst (Option.some.inj e)
  have en:n=(n':Int):=congrArg Prod.snd (Option.some.inj e)
  subst ea en
  rcases q with rfl | ⟨q1,q2,q3⟩
  ·omega
  ·obtain ⟨t1,t2⟩:=Yri v v h8 hr a' (n':Int) (by omega) a' 0 [] (by omega) (by simp; omega)
   rw [show ((0:Nat):Int)=0 from rfl,List.drop_zero] at t1
   rw [List.drop_zero] at t2
   have hw:IntKind.i64.wrap (IntKind.i64.wrap (IntKind.i64.wrap ((a':Int)+(n':Int)) - 1)+1)=((a'+n':Nat):Int):=by
    rw [w64 (x:=(a':Int)+(n':Int)) (by omega) (by omega),w64 (x:=(a':Int)+(n':Int) - 1) (by omega) (by omega),w64 (by omega) (by omega)]; omega
   simp only [Yju,Nat.zero_add] at t2
   have e0:YD2 [] (v.take a')=told (v.take a'):=by rw [YB8 _ _ (YDa hr a'),Yki,Yau (by simp),Yzu]
   rw [e0] at t1 t2
   have l1:(v.take a').length=a':=by rw [Ypu]; omega
   have l2:(v.drop (a'+n')).length=8 - (a'+n'):=by rw [Yqu,h8]
   have u1:=Ys5 _ (YDa hr a')
   have u2:=Ys5 _ (YCa hr (a'+n'))
   refine ⟨_,YTq v h8 hr a' n' q1 q2 hrun,by simp only [Yfu,Yeu,Yju]; omega,?_⟩
   rw [t1,YZ8,show decide ((a':Int) < 8)=true from Y5u (by omega),Y7u,show ((a':Int)==(a':Int))=true from beq_iff_eq.2 rfl,Y7u,hw,
    show decide (List.length (told (v.take a'))+List.length ([(58:UInt8),(58:UInt8)]:List UInt8)<=2 ^ 62)=true from Y5u (by simp only [Yeu,Yju]; omega),Y7u,
    YIb v v h8 hr (a':Int) (n':Int) (8 - (a'+n')) (a'+n') _ (by omega) (by omega) (by simp only [Yfu,Yeu,Yju]; omega),
    YB8 _ _ (YCa hr (a'+n')),Ydt,Yau (by simp)]
end Go.Abs
namespace Go.Abs
def Y75 (s:List UInt8):List (List UInt8):=if s=[] then [] else if (YR s 46).getD ((YR s 46).length - 1) []=[] then (YR s 46).take ((YR s 46).length - 1) else YR s 46
theorem Yui (s:List UInt8):1<=(YR s 46).length:=Ye6 46 s []
theorem Y1h (y:List (List UInt8)) (h1:1<=y.length) (h2:y.length<=2000000000):
  (bif (Ya (IntKind.wrap IntKind.i64 ((((List.length y):Nat):Int) - (1:Int))) (List.length y)) then
     bif ((List.getD y (Int.toNat (IntKind.wrap IntKind.i64 ((((List.length y):Nat):Int) - (1:Int)))) (Ty.zero .str))==([]:List UInt8)) then
      bif (Yi none (some (IntKind.wrap IntKind.i64 ((((List.length y):Nat):Int) - (1:Int)))) (List.length y)) then
       some (List.take (Option.getD (Option.map (Int.toNat) (some (IntKind.wrap IntKind.i64 ((((List.length y):Nat):Int) - (1:Int))))) (List.length y)) y)
      else
       none
     else
      some y
    else
     none)=some (if y.getD (y.length - 1) []=[] then y.take (y.length - 1) else y):=by
 have hw:IntKind.i64.wrap (((List.length y:Nat):Int) - 1)=((y.length - 1:Nat):Int):=by rw [w64 (by omega) (by omega)]; omega
 rw [hw,Yj,Y5u (by omega),Y7u,Ydu]
 have hc:Yi none (some ((y.length - 1:Nat):Int)) y.length=true:=by simp [Yi]
 show (bif (y.getD (y.length - 1) []==([]:List UInt8)) then _ else _)=_
 by_cases c:y.getD (y.length - 1) []=[]
 ·rw [Ybu c,show (y.getD (y.length - 1) []==([]:List UInt8))=true from beq_iff_eq.2 c,Y7u,hc,Y7u]
  rfl
 ·rw [Yau c,show (y.getD (y.length - 1) []==([]:List UInt8))=false from Yhu.2 c,Y8u]
theorem YBm (s:List UInt8) (hs:s.length<=1073741823):Yo9 s=some (Y75 s):=by
 have hl:=Yc3 46 s []
 have hl:(YR s 46).length<=s.length+1:=hl
 have hp:=Yui s
 rw [YAm,Yjk]
 unfold Y75
 by_cases c:s=[]
 ·rw [Ybu c,show (s==([]:List UInt8))=true from beq_iff_eq.2 c,Y7u]
 ·rw [Yau c,show (s==([]:List UInt8))=false from Yhu.2 c,Y8u,YM6 s 46 (by omega),Y9u]
  exact Y1h _ hp (by omega)
theorem YKo (s:List UInt8) (hs:s.length<=1073741823):YT9 s=some (Y75 s):=by
 have hl:=Yc3 46 s []
 have hl:(YR s 46).length<=s.length+1:=hl
 have hp:=Yui s
 rw [YJo,Ygj]
 unfold Y75
 by_cases c:s=[]
 ·rw [Ybu c,show (s==([]:List UInt8))=true from beq_iff_eq.2 c,Y7u]
 ·rw [Yau c,show (s==([]:List UInt8))=false from Yhu.2 c,Y8u,YU6 s 46 (by omega),Y9u]
  exact Y1h _ hp (by omega)
theorem Ymr (s:List UInt8):(Y75 s).length<=s.length+1:=by
 have hl:=Yc3 46 s []
 have hl:(YR s 46).length<=s.length+1:=hl
 unfold Y75
 split
 ·simp
 ·split
  ·rw [Ypu]; omega
  ·exact hl
theorem Yji (l:List (List UInt8)) (hl:l.length<=2000000000):∀ (k i:Nat),i+k=l.length->Zz7 l l (i:Int)=some true
 | 0,i,hk=> by rw [YVd,Yg,Y6u (by omega),Y8u]
 | k+1,i,hk=> by
  have hw:IntKind.i64.wrap ((i:Int)+1)=((i+1:Nat):Int):=by rw [w64 (by omega) (by omega)]; omega
  rw [YVd,Yg,Y5u (by omega),Y7u,Yj,Y5u (by omega),Y7u,Y7u,beq_self_eq_true,Yvu,Y8u,hw]
  exact Yji l hl k (i+1) (by omega)
theorem Y8t (l:List (List UInt8)) (hl:l.length<=2000000000):Yy9 (l,l)=some true:=by
 rw [Yvn,YWl]
 dsimp only
 rw [show (((List.length l:Nat):Int) !=((List.length l:Nat):Int))=false from by simp,Y8u]
 exact Yji l hl l.length 0 (by omega)
theorem YR9 (h:D35):Ya7 h=some (Yi1 h):=by
 have sym:∀ w:D35,(some (open Classical in if w=h then 0 else 51):Option Int)=some (open Classical in if h=w then 0 else 51):=by
  intro w
  by_cases e:h=w
  ·rw [Ybu e,Ybu e.symm]
  ·rw [Yau e,Yau (fun g=> e g.symm)]
 have p6:∀ x w,Zx7 x h w=some (open Classical in if h=w then 0 else 51):=fun x w=> by rw [YSl,YB6,sym]
 have p3:∀ x w,Zu7 x h w=some (open Classical in if h=w then 0 else 51):=fun x w=> by rw [YFl,p6]
 have p4:∀ x w,Zv7 x h w=some (open Classical in if h=w then 0 else 51):=fun x w=> by rw [YJl,p3]
 have p5:∀ x w,Zw7 x h w=some (open Classical in if h=w then 0 else 51):=fun x w=> by rw [YPl,p4]
 have fin:∀ w,Yr1 (kd h)->w=Yn1 h->(some (open Classical in if h=w then 0 else 51):Option Int)=some (Yi1 h):=by
  rintro w hk rfl
  unfold Yi1
  by_cases e:h=Yn1 h
  ·rw [Ybu e,Ybu ⟨hk,e⟩]
  ·rw [Yau e,Yau (fun x=> e x.2)]
 have bad:∀ sp,kd h≠0->Yn1 h=(Yk1 h.2.1 sp).1->(Yk1 h.2.1 sp).2≠0->Yi1 h=51:=by
  intro sp hk hw he
  unfold Yi1
  rw [Yau]
  rintro ⟨_,e⟩
  rw [hw,Yfs _ _ he] at e
  exact hk (congrArg (fun x:D35=> kd x) e)
 have hz:((Ty.zero .str),((Ty.zero (.int .u32)),(Ty.zero (.arr 8 (.int .u16)))))=(([]:List UInt8),((0:Int),z8)):=rfl
 rw [YCo,Ysl,hz]
 have one:∀ b:Bool,b=decide (kd h=0\/kd h=5)->Zs7 h h.1 b h (h.1,(([]:List UInt8),((0:Int),z8)))=some (Yi1 h):=by
  intro b hb
  rw [Yyl]
  by_cases c:kd h=0\/kd h=5
  ·rw [hb,Y5u c,Y7u,YDl,YB6,sym]
   exact fin _ (by unfold Yr1; omega) (by unfold Yn1 Yn2; rw [Ybu c]; try rfl)
  ·rw [hb,Y6u c,Y8u]
   by_cases g:kd h=1
   ·have hw:Yn1 h=(Yk1 h.2.1 true).1:=by unfold Yn1 Yn2; rw [Yau c,Yau (by omega),Yau (by omega),show (kd h==1)=true from beq_iff_eq.2 g]
    rw [show (h.1==1)=true from beq_iff_eq.2 g,Y7u,Yjf,Y9u]
    by_cases e:(Yk1 h.2.1 true).2=0
    ·rw [show ((Yk1 h.2.1 true).2 !=0)=false from by rw [e]; rfl,Y8u,p3]
     exact fin _ (by unfold Yr1; omega) hw.symm
    ·rw [show ((Yk1 h.2.1 true).2 !=0)=true from bne_iff_ne.2 e,Y7u,bad true (by omega) hw e]
   rw [show (h.1==1)=false from Yhu.2 g,Y8u]
   by_cases f:kd h=4
   ·have hw:Yn1 h=(Yk1 h.2.1 false).1:=by unfold Yn1 Yn2; rw [Yau c,Yau (by omega),Yau (by omega),show (kd h==1)=false from Yhu.2 g]
    rw [show (h.1==4)=true from beq_iff_eq.2 f,Y7u,Yjf,Y9u]
    by_cases e:(Yk1 h.2.1 false).2=0
    ·rw [show ((Yk1 h.2.1 false).2 !=0)=false from by rw [e]; rfl,Y8u,p4]
     exact fin _ (by unfold Yr1; omega) hw.symm
    ·rw [show ((Yk1 h.2.1 false).2 !=0)=true from bne_iff_ne.2 e,Y7u,bad false (by omega) hw e]
   rw [show (h.1==4)=false from Yhu.2 f,Y8u]
   by_cases d:kd h=2
   ·rw [show (h.1==2)=true from beq_iff_eq.2 d,Y7u,p5]
    exact fin _ (by unfold Yr1; omega) (by unfold Yn1 Yn2; rw [Yau c,Ybu d]; try rfl)
   rw [show (h.1==2)=false from Yhu.2 d,Y8u]
   by_cases e:kd h=3
   ·rw [show (h.1==3)=true from beq_iff_eq.2 e,Y7u,p5]
    exact fin _ (by unfold Yr1; omega) (by unfold Yn1 Yn2; rw [Yau c,Yau d,Ybu e]; try rfl)
   rw [show (h.1==3)=false from Yhu.2 e,Y8u]
   unfold Yi1
   rw [Yau (fun x=> by have:=x.1; unfold Yr1 at this; omega)]
 by_cases c:kd h=0
 ·rw [show (h.1==0)=true from beq_iff_eq.2 c,Y7u]
  exact one true (Y5u (.inl c)).symm
 ·rw [show (h.1==0)=false from Yhu.2 c,Y8u]
  refine one _ ?_
  by_cases f:kd h=5
  ·rw [Y5u (.inr f)]; exact beq_iff_eq.2 f
  ·rw [Y6u (fun x=> by omega)]; exact Yhu.2 f
theorem YZp (v:Int) (h0:0<=v) (h1:v < 4294967296):YJ1 (shr IntKind.u32 v 24)=some (Lib.itoa (v / 16777216 % 256))/\YJ1 (bits Go.BinOp.and IntKind.u32 (shr IntKind.u32 v 16) 255)=some (Lib.itoa (v / 65536 % 256))/\
  YJ1 (bits Go.BinOp.and IntKind.u32 (shr IntKind.u32 v 8) 255)=some (Lib.itoa (v / 256 % 256))/\YJ1 (bits Go.BinOp.and IntKind.u32 v 255)=some (Lib.itoa (v % 256)):=by
 have s24:shr IntKind.u32 v 24=v / 16777216:=Yy8 v 24 (by omega)
 have s16:shr IntKind.u32 v 16=v / 65536:=Yy8 v 16 (by omega)
 have s8:shr IntKind.u32 v 8=v / 256:=Yy8 v 8 (by omega)
 rw [s24,s16,s8,Yz6 (by omega) (by omega),Yz6 (by omega) (by omega),Yz6 h0 h1,show v / 16777216=v / 16777216 % 256 from by omega]
 refine ⟨?_,Yy7 _ (by omega) (by omega),Yy7 _ (by omega) (by omega),Yy7 _ (by omega) (by omega)⟩
 rw [show v / 16777216 % 256 % 256=v / 16777216 % 256 from by omega]
 exact Yy7 _ (by omega) (by omega)
theorem YLs (x:D35) (b:Bool) (k:Int) (n:List UInt8) (v:Int) (l:List Int) (h0:0<=v) (h1:v < 4294967296):Zp7 x 2 false (k,(n,(v,l)))=some (YV1 46 ((YN2 v).map Lib.itoa),0):=by
 obtain ⟨d1,d2,d3,d4⟩:=YZp v h0 h1
 have l1:=(YV5 (v / 16777216 % 256) (by omega) (by omega)).2.2.2.2
 have l2:=(YV5 (v / 65536 % 256) (by omega) (by omega)).2.2.2.2
 have l3:=(YV5 (v / 256 % 256) (by omega) (by omega)).2.2.2.2
 have l4:=(YV5 (v % 256) (by omega) (by omega)).2.2.2.2
 rw [Yu5,Y8u,show ((2:Int)==2)=true from rfl,Y7u]
 dsimp only
 rw [d1,d2,d3,d4]
 simp only [YN2,Ysu,List.map_nil]
 generalize Lib.itoa (v / 16777216 % 256)=a at*
 generalize Lib.itoa (v / 65536 % 256)=b at*
 generalize Lib.itoa (v / 256 % 256)=c at*
 generalize Lib.itoa (v % 256)=d at*
 have fit:∀ p q:List UInt8,p.length<=100->q.length<=100->decide (p.length+q.length<=2 ^ 62)=true:=fun p q hp hq=> Y5u (by omega)
 simp only [Y9u]
 rw [fit _ _ (by omega) (by simp),Y7u,fit _ _ (by simp; omega) (by omega),Y7u,fit _ _ (by simp; omega) (by simp),Y7u,fit _ _ (by simp; omega) (by omega),Y7u,fit _ _ (by simp; omega) (by simp),Y7u,fit _ _ (by simp; omega) (by omega),Y7u]
 simp [YV1]
theorem Yms (k:Int) (n:List UInt8) (v4:Int) (v6:List Int) (w1:v6.length=8) (w2:Yp1 v6) (w3:0<=v4) (w4:v4 < 4294967296) (hc:Yi1 ((k,(n,(v4,v6))):D35)=0) (hk:Yr1 k) (he:((k,(n,(v4,v6))):D35)=Yn2 k (k,(n,(v4,v6)))):∃ p,Yx5 ((k,(n,(v4,v6))):D35)=some (p,0)/\Yc7 ((k,(n,(v4,v6))):D35)=some (p,0):=by
 rw [Yre,YKd,Ykf,Ypd,YR9,Yk9,hc,Y9u,Y9u,show ((0:Int) !=0)=false from rfl,Y8u,Y8u]
 clear hc
 unfold Yr1 at hk
 unfold Yn2 at he
 dsimp only at he ⊢
 by_cases k2:k=2
 ·subst k2
  rw [show ((2:Int)==2)=true from rfl,Y7u,show ((2:Int)==1)=false from rfl,Y8u,show ((2:Int)==4)=false from rfl,YLs _ true _ _ _ _ w3 w4,Yyq v4 w3 w4]
  exact ⟨_,rfl,rfl⟩
 by_cases k3:k=3
 ·subst k3
  obtain ⟨s,s1,s2,s3⟩:=YMs v6 w1 w2
  rw [show ((3:Int)==2)=false from rfl,Y8u,show ((3:Int)==3)=true from rfl,Y7u,show ((3:Int)==1)=false from rfl,Y8u,show ((3:Int)==4)=false from rfl,Yu5,Y8u,show ((3:Int)==2)=false from rfl,Y8u,show ((3:Int)==3)=true from rfl,Y7u]
  dsimp only
  rw [s1,s3,Y9u,Y9u,show decide (([91]:List UInt8).length+s.length<=2 ^ 62)=true from Y5u (by simp only [Yeu,Yju]; omega),Y7u,show decide ((([91]:List UInt8)++s).length+([93]:List UInt8).length<=2 ^ 62)=true from Y5u (by simp only [Yfu,Yeu,Yju]; omega),Y7u]
  exact ⟨_,rfl,rfl⟩
 rw [show (k==2)=false from Yhu.2 k2,Y8u,show (k==3)=false from Yhu.2 k3,Y8u]
 by_cases k1:k=1
 ·rw [show (k==1)=true from beq_iff_eq.2 k1,Y7u,Yu5,Y7u]; exact ⟨_,rfl,rfl⟩
 rw [show (k==1)=false from Yhu.2 k1,Y8u]
 by_cases k4:k=4
 ·rw [show (k==4)=true from beq_iff_eq.2 k4,Yu5,Y7u]; exact ⟨_,rfl,rfl⟩
 have k05:k=0\/k=5:=by omega
 rw [Ybu k05] at he
 have hn:n=[]:=congrArg (fun x:D35=> x.2.1) he
 rw [show (k==4)=false from Yhu.2 k4,Yu5,Y8u,show (k==2)=false from Yhu.2 k2,Y8u,show (k==3)=false from Yhu.2 k3,Y8u,Yll,hn]
 exact ⟨_,rfl,rfl⟩
theorem Yns (h:D35) (hw:wfH h):∃ p e,Yx5 h=some (p,e)/\Yc7 h=some (p,e):=by
 rcases YJp h with c | ⟨c,hk,he⟩
 ·refine ⟨[],51,Yls h c,?_⟩
  rw [Ykf,Ypd,YR9,c,Y9u,show ((51:Int) !=0)=true from rfl,Y7u]
 ·obtain ⟨k,n,v4,v6⟩:=h
  obtain ⟨w1,w2,w3,w4⟩:=hw
  obtain ⟨p,h1,h2⟩:=Yms k n v4 v6 w1 w2 w3 w4 c hk he
  exact ⟨p,0,h1,h2⟩
theorem Yor (h:D35) (name:List UInt8) (hw:wfH h) (hs:name.length<=1073741823) (h47:Yu9 ()=some true):YKe (h,name)=some true:=by
 obtain ⟨p,e,h1,h2⟩:=Yns h hw
 have hl:=Ymr name
 rw [Ycn]
 dsimp only
 rw [Y7l,h1,Y9u,h2,Y9u,Yk9,Y9u,YLe,Y9u,YR9,Y9u,beq_self_eq_true,Y7u,beq_self_eq_true,Y7u,YLe,Y9u,beq_self_eq_true,Y7u,
  YBm name hs,Y9u,YKo name hs,Y9u,Y8t _ (by omega),Y9u,Y7u,h47]; rfl
end Go.Abs
