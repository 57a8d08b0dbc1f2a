/- Part M3 of the proof: see the last text of the claim. No condition of its own. -/
import Derived.Test.YtddagflhafkbnaaGreatDoorM2
import Derived.Test.YtddagflhafkbnaaGreatDoorL8
import Derived.Test.YtddagflhafkbnaaGreatDoorQ3
set_option linter.all false
set_option autoImplicit false
namespace Go.Abs
theorem YS8 (s:List UInt8) (l:List Int) (hl:l.length<=200000000) (hs:YP l):∀ (n i:Nat) (out:List (List UInt8)) (now:List Int),i+n=l.length->YP now->now.length<=i->out.length<=i->Zl5 s (i:Int) l out now=some (out++(dcut now (l.drop i)).map Yb)
 | 0,i,out,now,h,hn,hnl,hol=> by
  have:i=l.length:=by omega
  subst this
  rw [Yjd,Yg,Yfu (YGu _),Yhu,YUu,YK9 now (by omega) hn,Yiu,show decide (out.length+([Yb now]:List (List UInt8)).length<=lim)=true from Yeu (by simp only [lim,Ynu,Ysu]; omega),Ygu]
  rfl
 | n+1,i,out,now,h,hn,hnl,hol=> by
  have hi:i < l.length:=by omega
  have hw:IntKind.i64.wrap ((i:Int)+1)=((i+1:Nat):Int):=by rw [w64 (by omega) (by omega)]; omega
  have hg:List.getD l (Int.toNat (i:Int)) (Ty.zero (.int .i32))=l[i]:=by
   rw [Ymu,Yvu,Ywu hi]; rfl
  have hsc:=hs _ (List.getElem_mem hi)
  have yes:((Y13 now).bind fun y0=> bif (decide (((List.length out)+(List.length ([y0.1]:List (List UInt8))))<=(lim))) then Zl5 s ((i+1:Nat):Int) l (out++([y0.1]:List (List UInt8))) ([]:List Int) else none)=some (out++(Yb now::(dcut [] (l.drop (i+1))).map Yb)):=by
   rw [YK9 now (by omega) hn,Yiu,show decide (out.length+([Yb now]:List (List UInt8)).length<=lim)=true from Yeu (by simp only [lim,Ynu,Ysu]; omega),Ygu,
    YS8 s l hl hs n (i+1) _ [] (by omega) (fun x hx=> by cases hx) (by simp) (by simp only [You,Ynu,Ysu]; omega),Ypu]; rfl
  rw [Yjd,Yg,Yeu hi,Ygu,Yj,Yeu hi,Ygu,hg,hw,Yru hi,dcut]
  unfold dotI
  by_cases a:l[i]=46
  ·rw [show (l[i]==46)=true from Y7v.2 a,Ygu,YDu,Yku rfl,yes]; rfl
  rw [show (l[i]==46)=false from Yqu.2 a,Yhu,YCu,Ygu]
  by_cases b:l[i]=12290
  ·rw [show (l[i]==12290)=true from Y7v.2 b,Ygu,YDu,Yku rfl,yes]; rfl
  rw [show (l[i]==12290)=false from Yqu.2 b,Yhu,YCu,Ygu]
  by_cases c:l[i]=65294
  ·rw [show (l[i]==65294)=true from Y7v.2 c,Ygu,YDu,Yku rfl,yes]; rfl
  rw [show (l[i]==65294)=false from Yqu.2 c,Yhu,YCu,Ygu]
  by_cases d:l[i]=65377
  ·rw [show (l[i]==65377)=true from Y7v.2 d,Ygu,Yku rfl,yes]; rfl
  rw [show (l[i]==65377)=false from Yqu.2 d,Yhu,Yju (by simp),Ygu,show decide (now.length+[l[i]].length<=lim)=true from Yeu (by simp only [lim,Ynu,Ysu]; omega),Ygu,
   YS8 s l hl hs n (i+1) out (now++[l[i]]) (by omega) (fun x hx=> by
    rcases YAu.1 hx with hx | hx
    ·exact hn x hx
    ·rw [YNu.1 hx]; exact hsc) (by simp only [You,Ynu,Ysu]; omega) (by omega)]
theorem YW9 (s:List UInt8) (hs:s.length<=200000000):Yo7 s=some ((dcut [] (Yq s)).map Yb):=by
 have hl:=YP3 s
 rw [YIo,Yyk,YJ9 s (by omega),Yiu]
 have:=YS8 s (Yq s) (by omega) (Yu8 s) (Yq s).length 0 [] [] (by omega) (fun x hx=> by cases hx) (by simp) (by simp)
 rw [show ((0:Nat):Int)=0 from rfl,YIu,YZu] at this
 exact this
theorem Ygc (l:List (List UInt8)) (hl:l.length<=1000000000) (hj:∀ n,(Y81 46 (l.take n)).length<=4611686018427387000):∀ (n i:Nat),i+n=l.length->Zo5 l (Y81 46 (l.take i)) (i:Int)=some (Y81 46 l)
 | 0,i,h=> by
  have:i=l.length:=by omega
  subst this
  rw [Yqd,Yg,Yfu (YGu _),Yhu,List.take_length]
 | n+1,i,h=> by
  have hi:i < l.length:=by omega
  have hw:IntKind.i64.wrap ((i:Int)+1)=((i+1:Nat):Int):=by rw [w64 (by omega) (by omega)]; omega
  have hg:List.getD l (Int.toNat (i:Int)) (Ty.zero .str)=l[i]:=by
   rw [Ymu,Yvu,Ywu hi]; rfl
  have key:∀ (M:List (List UInt8)) (x:List UInt8),M≠[]->Y81 46 (M++[x])=Y81 46 M++46::x:=by
   intro M
   induction M with
   | nil=> intro x h; exact absurd rfl h
   | cons a M ih=>
    intro x _
    cases M with
    | nil=> rfl
    | cons b M=>
     have:=ih x (by simp)
     show a++46::Y81 46 (b::M++[x])=(a++46::Y81 46 (b::M))++46::x
     rw [this,Ypu]; rfl
  have ht:l.take (i+1)=l.take i++[l[i]]:=List.take_succ_eq_append_getElem hi
  have hlen:=hj (i+1)
  have step:∀ t:List UInt8,t++l[i]=Y81 46 (l.take (i+1))->Zp5 l t (i:Int)=some (Y81 46 l):=by
   intro t e
   have hte:=congrArg List.length e
   rw [You] at hte
   rw [Y0l,Yj,Yeu hi,Ygu,hg,show decide (t.length+l[i].length<=2 ^ 62)=true from Yeu (by omega),Ygu,hw,e]
   exact Ygc l hl hj n (i+1) (by omega)
  rw [Yqd,Yg,Yeu hi,Ygu]
  by_cases c:0 < i
  ·have hne:l.take i≠[]:=by
    intro e
    have:=congrArg List.length e
    rw [Yyu,Ysu] at this; omega
   have e:=key (l.take i) l[i] hne
   rw [<-ht] at e
   have h2:=congrArg List.length e
   rw [You,Ynu] at h2
   rw [show decide ((i:Int) > 0)=true from Yeu (by omega),Ygu,show decide ((Y81 46 (l.take i)).length+([46]:List UInt8).length<=2 ^ 62)=true from Yeu (by simp only [Ynu,Ysu]; omega),Ygu]
   exact step _ (by rw [e,Ypu]; rfl)
  ·have:i=0:=by omega
   subst this
   rw [show decide (((0:Nat):Int) > 0)=false from rfl,Yhu]
   exact step _ (by rw [ht]; rfl)
theorem Y2r (l:List (List UInt8)):∀ n,(Y81 46 (l.take n)).length<=(Y81 46 l).length:=by
 induction l with
 | nil=> intro n; simp [Y81]
 | cons a l ih=>
  intro n
  cases n with
  | zero=> simp [Y81]
  | succ n=>
   cases l with
   | nil=> simp [Y81]
   | cons b l=>
    cases n with
    | zero=> simp only [List.take_succ_cons,List.take_zero,Y81,You]; omega
    | succ n=>
     have:=ih (n+1)
     simp only [List.take_succ_cons] at this ⊢
     simp only [Y81,You,Ynu]
     omega
theorem Y3f (l:List (List UInt8)) (hl:l.length<=1000000000) (hj:(Y81 46 l).length<=4611686018427387000):YX9 l=some (Lib.join l [46]):=by
 rw [YLo,YQk,YOa]
 have:=Ygc l hl (fun n=> Nat.le_trans (Y2r l n) hj) l.length 0 (by omega)
 rw [List.take_zero] at this
 exact this
theorem Ywa (s:List UInt8) (hb:∀ b∈s,Y9 b < 128) (hs:s.length<=65536):(Yb1 s).2=0:=by
 have hsc:=Yr5 s hb
 have hsm:Ys (s.map Y9)=s.map Y9:=by
  unfold Ys
  apply List.filter_eq_self.2
  intro x hx
  obtain ⟨b,h,rfl⟩:=List.mem_map.1 hx
  exact Yeu (hb b h)
 have hout:YS1 (s.map Y9)=if (s.map Y9).length=0 then s.map Y9 else s.map Y9++[45]:=by
  unfold YS1
  rw [hsm]
  cases hL:(s.map Y9).length with
  | zero=> rfl
  | succ n=>
   unfold YA2
   rw [Yku (by dsimp only; omega)]
 have hdec:(Yn1 (Yn (YS1 (Yq s)))).2.1=0:=by
  rw [hsc,hout]
  by_cases c:(s.map Y9).length=0
  ·have:s=[]:=by simpa using c
   subst this; rfl
  ·rw [Yju c]
   have hso:Yn (s.map Y9++[45])=s++[45]:=by
    unfold Yn
    rw [List.map_append]
    have:List.map (fun n:Int=> UInt8.ofNat n.toNat) (s.map Y9)=s:=YFt s
    rw [this]; rfl
   rw [hso]
   have hall:∀ b∈s++[45],Y9 b < 128:=by
    intro b h
    rcases YAu.1 h with h | h
    ·exact hb b h
    ·rw [YNu.1 h]; decide
   have hh:∀ n k,YT1 (s++[45]) n k=none:=by
    intro n
    induction n with
    | zero=> intro k; rfl
    | succ n ih=>
     intro k
     unfold YT1
     have:¬127 < bat (s++[45]) k:=by
      by_cases hk:k < (s++[45]).length
      ·have h1:=hall _ (List.getElem_mem hk)
       have h2:=(Yx1 _ k hk).2
       omega
      ·unfold bat
       rw [Yvu,List.getElem?_eq_none (by omega)]
       decide
     rw [Yju this]; exact ih _
   have hlast:Yp (s++[45]) (s++[45]).length=(s.length:Int):=by
    rw [You,Ynu,Ysu]
    show Yp (s++[45]) (s.length+1)=_
    unfold Yp
    rw [Yku (show bat (s++[45]) s.length=45 from Y7m s 45 [])]
   unfold Yn1
   rw [hh]
   dsimp only
   rw [hlast]
   have hll:(s++[45]).length=s.length+1:=by simp
   rw [hll]
   unfold decV
   rw [Yku (by omega)]
 rcases Yz6 s with ⟨h1,_⟩ | ⟨h1,_⟩
 ·exfalso
  apply h1
  unfold Yb1 YO2
  rw [Yju (by rw [Yqi s hb]; simp),Yju (by omega),Yju (by rw [hdec]; omega)]
 ·rw [h1]
def YV (s:List UInt8):List UInt8×Bool:=
 if has s 65533=true then ([],false) else if (Yr (lowS s)).2≠0 then ([],false) else if 63 < (Yr (lowS s)).1.length then ([],false)
 else if (YK (Yr (lowS s)).1).2=0 then (if has (YK (Yr (lowS s)).1).1 65533=false then ((Yr (lowS s)).1,decide ((dcut [] (Yq (YK (Yr (lowS s)).1).1)).length=1)) else ((Yr (lowS s)).1,false))
 else ((Yr (lowS s)).1,false)
theorem Y4f (s:List UInt8) (hs:s.length<=100000000):YY9 s=some (YV s):=by
 have h1:=Y08 s
 have h2:=YA6 (lowS s)
 have h3:=YPi (Yr (lowS s)).1
 rw [YMo,YJk,Y6f s (by omega),Yiu]
 unfold YV
 cases has s 65533 with
 | true=> rw [Ygu,Yku rfl]
 | false=>
  rw [Yhu,Yju (by simp),YG9 s (by omega),Yiu,YRe _ (by omega),Yiu,bne0]
  by_cases a:(Yr (lowS s)).2≠0
  ·rw [Yeu a,Ygu,Yku a]
  ·rw [Yfu a,Yhu,Yju a]
   by_cases b:63 < (Yr (lowS s)).1.length
   ·rw [show decide (((Yr (lowS s)).1.length:Int) > 63)=true from Yeu (by omega),Ygu,Yku b]
   ·rw [show decide (((Yr (lowS s)).1.length:Int) > 63)=false from Yfu (by omega),Yhu,Yju b,Y8o _ (by omega),Yiu]
    by_cases c:(YK (Yr (lowS s)).1).2=0
    ·rw [show ((YK (Yr (lowS s)).1).2==0)=true from Y7v.2 c,Ygu,Yku c,Y6f _ (by omega),Yiu]
     cases has (YK (Yr (lowS s)).1).1 65533 with
     | true=> rw [YEu,Yhu,Yju (by simp)]
     | false=>
      rw [YFu,Ygu,Yku rfl,YW9 _ (by omega),Yiu,YVu]
      congr 2
      rw [Bool.eq_iff_iff,Y7v,Yxu]
      omega
    ·rw [show ((YK (Yr (lowS s)).1).2==0)=false from Yqu.2 c,Yhu,Yju c]
end Go.Abs
namespace Go.Abs
theorem YE7:∀ (l cur:List Int),(dcut cur l).length=1↔l.any dotI=false
 | [],cur=> by simp [dcut]
 | r::l,cur=> by
  unfold dcut
  rw [List.any_cons]
  cases h:dotI r with
  | true=>
   rw [Yku rfl,YDu,Ynu]
   have:=(YW4 l []).1
   constructor
   ·intro e; omega
   ·intro e; cases e
  | false=>
   rw [Yju (by simp),YCu]
   exact YE7 l _
theorem YIq (l:List Int) (hl:YP l):has (lowS (Yb l)) 65533=has (Yb l) 65533:=by
 unfold has
 rw [YRa l hl,Yw8 _ (YXg hl),Yw8 l hl,List.any_map]
 congr 1
 funext x
 show (lowI x==65533)=(x==65533)
 rw [Yv2]
 by_cases c:65<=x/\x<=90
 ·rw [Yku c,Yqu.2 (by omega),Yqu.2 (by omega)]
 ·rw [Yju c]
theorem Ydr (s:List UInt8) (hs:s≠[]) (h:(Yr s).2=0):(Yr s).1≠[]:=by
 unfold Yr at h ⊢
 by_cases a:(Yb1 s).2≠0
 ·rw [Yku a] at h; exact absurd h a
 rw [Yju a]
 by_cases b:Yd1 s=true
 ·rw [Yku b]; exact hs
 ·rw [Yju b]; simp [xn]
theorem Ygr (l:List Int) (hl:YP l) (hd:YE8 l) (hlen:(Yb l).length<=65536) (last:Bool):
  ((YV (Yb l)).2=false/\YG (Yb l) last=([],53))\/
  ((YV (Yb l)).2=true/\(YV (Yb l)).1=[]/\last=false/\YG (Yb l) last=([],53))\/
  ((YV (Yb l)).2=true/\((YV (Yb l)).1=[]->last=true)/\YG (Yb l) last=((YV (Yb l)).1,0)):=by
 have hlow:=YRa l hl
 have hsc:=Yw8 _ (YXg hl)
 have hok:∀ r∈l.map lowI,r < 128->okI r:=by
  intro r hr h1
  obtain ⟨x,hx,rfl⟩:=List.mem_map.1 hr
  exact Yzr (hl x hx) (hd x hx) h1
 have hhl:=YIq l hl
 have hll:=Y08 (Yb l)
 unfold YV YG
 rw [hhl]
 by_cases w:has (Yb l) 65533=true
 ·refine .inl ⟨by rw [Yku w],?_⟩
  rw [Yju (fun h=> by rw [w] at h; cases h.2),Yku w]
 have wf:has (Yb l) 65533=false:=by simpa using w
 rw [Yju w,Yju w]
 have hY:(if Yd1 (lowS (Yb l))=false/\has (Yb l) 65533=false then (if (Yr (lowS (Yb l))).2≠0 then (([]:List UInt8),(53:Int)) else YB1 (Yr (lowS (Yb l))).1 last) else YB1 (lowS (Yb l)) last)=
   (if (Yr (lowS (Yb l))).2≠0 then (([]:List UInt8),(53:Int)) else YB1 (Yr (lowS (Yb l))).1 last):=by
  cases hb:Yd1 (lowS (Yb l)) with
  | false=> rw [Yku ⟨rfl,wf⟩]
  | true=>
   have he:=Ywa _ (YL6 hb) (by omega)
   have:Yr (lowS (Yb l))=(lowS (Yb l),0):=by
    unfold Yr
    rw [Yju (by rw [he]; omega),Yku hb]
   have e0:¬(true=false/\has (Yb l) 65533=false):=fun h=> by cases h.1
   rw [Yju e0,this,Yju (show ¬((0:Int)≠0) from fun h=> h rfl)]
 rw [hY]
 by_cases a:(Yr (lowS (Yb l))).2≠0
 ·exact .inl ⟨by rw [Yku a],by rw [Yku a]⟩
 rw [Yju a,Yju a]
 have htok:tok (Yr (lowS (Yb l))).1:=by
  cases hb:Yd1 (lowS (Yb l)) with
  | false=> exact Yfr (lowS (Yb l)) _ (by rw [hlow,hsc]; exact hok) hb (Prod.ext rfl (Decidable.not_not.1 a))
  | true=>
   have he:=Ywa _ (YL6 hb) (by omega)
   have:Yr (lowS (Yb l))=(lowS (Yb l),0):=by
    unfold Yr
    rw [Yju (by rw [he]; omega),Yku hb]
   rw [this]
   intro b hbm
   have h1:=YL6 hb b hbm
   have h2:=Yr5 _ (YL6 hb)
   rw [hlow,hsc] at h2
   refine hok _ ?_ h1
   rw [h2,<-hlow]
   exact List.mem_map_of_mem hbm
 generalize (Yr (lowS (Yb l))).1=t at htok
 unfold YB1
 by_cases b:63 < t.length
 ·exact .inl ⟨by rw [Yku b],by rw [Yku b]⟩
 rw [Yju b,Yju b]
 have hx:isXn t=(decide (4<=t.length)&&(lowS (t.take 4)==xn)):=by unfold isXn; rw [YMt (YHt htok)]
 cases hn:isXn t with
 | false=>
  have hu:YK t=(t,0):=by
   unfold YK
   by_cases c:t.length < 4
   ·rw [Yku c]
   ·rw [Yju c]
    rw [hn,Yeu (by omega),Y5v] at hx
    rw [Yku (Yqu.1 hx.symm)]
  have hdc:(dcut [] (Yq t)).length=1:=by
   rw [YE7,Yr5 t (YTb htok),List.any_eq_false]
   intro x hx
   rw [YNt htok x hx]; simp
  rw [hu]
  dsimp only
  rw [Yku rfl,YLt htok,Yku rfl,hdc]
  by_cases e:t=[]/\last=false
  ·rw [Yku e]
   exact .inr (.inl ⟨rfl,e.1,e.2,rfl⟩)
  ·rw [Yju e,Yju (by simp)]
   refine .inr (.inr ⟨rfl,fun h=> ?_,rfl⟩)
   cases last with
   | true=> rfl
   | false=> exact absurd ⟨h,rfl⟩ e
 | true=>
  have hne:t≠[]:=by
   intro e
   rw [e] at hn; cases hn
  have e1:¬(t=[]/\last=false):=fun h=> hne h.1
  rw [Yju e1,Yku (show true=true from rfl)]
  by_cases c:(YK t).2=0
  ·have e2:¬((YK t).2≠0):=fun h=> h c
   rw [Yku c,Yju e2]
   cases hh:has (YK t).1 65533 with
   | true=> rw [Yju (by simp),Yku rfl]; exact .inl ⟨rfl,rfl⟩
   | false=>
    rw [Yku rfl,Yju (by simp)]
    cases hdo:YX4 (YK t).1 with
    | true=>
     rw [Yku rfl]
     refine .inl ⟨Yfu (fun e=> ?_),rfl⟩
     have:=(YE7 (Yq (YK t).1) []).1 e
     unfold YX4 at hdo
     rw [hdo] at this; cases this
    | false=>
     rw [Yju (by simp)]
     exact .inr (.inr ⟨Yeu ((YE7 _ _).2 hdo),fun h=> absurd h hne,rfl⟩)
  ·rw [Yju c,Yku c]; exact .inl ⟨rfl,rfl⟩
end Go.Abs
namespace Go.Abs
theorem Yli (y:List UInt8) (hy:y.length<=1073741824) (s:List UInt8):(bif (decide ((((List.length y):Nat):Int) > (0:Int))) then
     bif (Ya (IntKind.wrap IntKind.i64 ((((List.length y):Nat):Int) - (1:Int))) (List.length y)) then
      bif ((((UInt8.toNat (List.getD y (Int.toNat (IntKind.wrap IntKind.i64 ((((List.length y):Nat):Int) - (1:Int)))) (0:UInt8))):Nat):Int)==(46:Int)) then
       Zd5 s y (IntKind.wrap IntKind.i64 ((((List.length y):Nat):Int) - (1:Int)))
      else
       Zd5 s y (((List.length y):Nat):Int)
     else
      none
    else
     Zd5 s y (((List.length y):Nat):Int))=some (if 253 < (YE1 y).length then ([],5) else (y,0)):=by
 have fin:∀ n:Nat,n=(YE1 y).length->Zd5 s y (n:Int)=some (if 253 < (YE1 y).length then ([],5) else (y,0)):=by
  rintro n rfl
  rw [Y2k]
  by_cases c:253 < (YE1 y).length
  ·rw [show decide (((YE1 y).length:Int) > 253)=true from Yeu (by omega),Ygu,Yku c]
  ·rw [show decide (((YE1 y).length:Int) > 253)=false from Yfu (by omega),Yhu,Yju c]
 by_cases c:0 < y.length
 ·have hw:IntKind.i64.wrap ((y.length:Int) - 1)=((y.length - 1:Nat):Int):=by rw [w64 (by omega) (by omega)]; omega
  have hg:=YL7 y c
  rw [show decide ((y.length:Int) > 0)=true from Yeu (by omega),Ygu,hw,Yj,Yeu (by omega),Ygu,Ymu]
  by_cases g:y.getD (y.length - 1) 0=46
  ·rw [g,show ((((46:UInt8).toNat:Nat):Int)==46)=true from rfl,Ygu]
   refine fin _ ?_
   unfold YE1
   rw [hg,g,Yku rfl,List.length_dropLast]
  ·rw [show ((((y.getD (y.length - 1) 0).toNat:Nat):Int)==46)=false from Yqu.2 (fun e=> g (Ys3 (show Y9 _=Y9 46 from e))),Yhu]
   refine fin _ ?_
   unfold YE1
   rw [hg,Yju (by simpa using g)]
 ·rw [show decide ((y.length:Int) > 0)=false from Yfu (by omega),Yhu]
  refine fin _ ?_
  have:y=[]:=YRu (by omega)
  subst this; rfl
theorem YCs (s:List UInt8) (h:(YV s).2=true):(YV s).1.length<=63:=by
 unfold YV at h ⊢
 repeat' split at h
 all_goals first | (cases h; done) | skip
 rename_i h1 h2 h3 h4 h5
 rw [Yju h1,Yju h2,Yju h3,Yku h4,Yku h5]
 dsimp only; omega
theorem YDs (s:List UInt8) (hs:s≠[]) (h:(YV s).2=true):(YV s).1≠[]:=by
 have hlow:lowS s≠[]:=fun e=> hs (by
  have:=Y08 s
  rw [e] at this
  exact YRu (by simpa using this.symm))
 unfold YV at h ⊢
 repeat' split at h
 all_goals first | (cases h; done) | skip
 rename_i h1 h2 h3 h4 h5
 rw [Yju h1,Yju h2,Yju h3,Yku h4,Yku h5]
 exact Ydr _ hlow (Decidable.not_not.1 h2)
theorem Ydc (s:List UInt8):∀ (M:List (List Int)) (don:List (List UInt8)),(∀ x∈M,YP x/\YE8 x/\(Yb x).length<=65536)->don.length+M.length<=70000->(∀ x∈don,x.length<=63)->(don.length+M.length=1->∀ x∈M,x≠[])->
  Zc5 s (don.length:Int) (don++M.map Yb)=some (if (Yv don.length (M.map Yb)).2≠0 then ([],(Yv don.length (M.map Yb)).2) else Y62 (don++(Yv don.length (M.map Yb)).1))
 | [],don,hM,hl,hd,h1=> by
  have hj:=YFg 63 don hd
  have hl:don.length<=70000:=by simpa using hl
  rw [List.map_nil,YHu,YG6,Yg,Yfu (YGu _),Yhu,Y3f don (by omega) (by rw [<-YOa]; omega),Yiu,Yli _ (by omega)]
  unfold Yv Y62
  rw [Yju (show ¬((0:Int)≠0) from fun h=> h rfl),YHu]
 | x::M,don,hM,hl,hd,h1=> by
  have hll:(don++(x::M).map Yb).length=don.length+M.length+1:=by simp only [You,YVu,Ynu]; omega
  have hl:don.length+M.length+1<=70000:=by simpa [Nat.add_assoc] using hl
  have hi:don.length < (don++(x::M).map Yb).length:=by omega
  have hg:List.getD (don++(x::M).map Yb) (Int.toNat (don.length:Int)) (Ty.zero .str)=Yb x:=by
   rw [Ymu,Yvu,Ycv (by omega),Nat.sub_self]; rfl
  have hset:∀ y,List.set (don++(x::M).map Yb) (Int.toNat (don.length:Int)) y=(don++[y])++M.map Yb:=by
   intro y
   rw [Ymu,YBu,List.set_append_right _ _ (by omega),Nat.sub_self,List.set_cons_zero,Ypu]; rfl
  have hw:IntKind.i64.wrap ((don.length:Int)+1)=((don.length+1:Nat):Int):=by rw [w64 (by omega) (by omega)]; omega
  obtain ⟨x1,x2,x3⟩:=hM x (by simp)
  rw [YG6,Yg,Yeu hi,Ygu,Yj,Yeu hi,Ygu,hg,Y4f _ (by omega),Yiu,hset,hw,w64 (x:=(((don++(x::M).map Yb).length:Nat):Int) - 1) (by omega) (by omega),YBu,Yv]
  have hemp:(M.map Yb).isEmpty=M.isEmpty:=by cases M <;> rfl
  have next:(YV (Yb x)).2=true->Zc5 s ((don.length+1:Nat):Int) ((don++[(YV (Yb x)).1])++M.map Yb)=some (if (Yv (don.length+1) (M.map Yb)).2≠0 then ([],(Yv (don.length+1) (M.map Yb)).2) else Y62 (don++((YV (Yb x)).1::(Yv (don.length+1) (M.map Yb)).1))):=by
   intro hok
   have hlen:=YCs _ hok
   have ih:=Ydc s M (don++[(YV (Yb x)).1]) (fun y hy=> hM y (by simp [hy])) (by simp only [You,Ynu,Ysu]; omega) (fun y hy=> by
    rcases YAu.1 hy with hy | hy
    ·exact hd y hy
    ·rw [YNu.1 hy]; exact hlen) (fun e y hy=> by
    simp only [You,Ynu,Ysu] at e
    have:M=[]:=YRu (by omega)
    rw [this] at hy; cases hy)
   have hlen2:(don++[(YV (Yb x)).1]).length=don.length+1:=by simp
   rw [hlen2] at ih
   rw [ih]
   simp only [Ypu,List.singleton_append]
  rcases Ygr x x1 x2 x3 ((M.map Yb).isEmpty&&decide (0 < don.length)) with ⟨q1,q2⟩ | ⟨q1,q2,q3,q4⟩ | ⟨q1,q2,q3⟩
  ·rw [q1,YFu,Ygu,q2,Yku (show ((53:Int))≠0 by omega)]
   rfl
  ·rw [q1,YEu,Yhu,q2,show (([]:List UInt8)==[])=true from rfl,Ygu,q4,Yku (show ((53:Int))≠0 by omega)]
   have:(don.length:Int) < (((don++(Yb x::M.map Yb)).length:Nat):Int) - 1:=by
    have e:(don++(Yb x::M.map Yb)).length=don.length+M.length+1:=hll
    rw [e]
    cases M with
    | cons z M=> simp only [Ynu]; omega
    | nil=>
     exfalso
     rw [List.map_nil,List.isEmpty_nil,Y5v,decide_eq_false_iff_not] at q3
     have hx:=h1 (by simp only [Ynu,Ysu]; omega) x (by simp)
     have hne:Yb x≠[]:=fun e=> by
      have:=Yei x
      rw [e] at this
      exact hx (YRu (by simpa using this))
     exact YDs _ hne q1 q2
   rw [Yeu this,Ygu]; rfl
  ·rw [q1,YEu,Yhu,q3,Yju (show ¬((0:Int)≠0) from fun h=> h rfl)]
   have tail:(if (if (Yv (don.length+1) (M.map Yb)).2≠0 then (([]:List (List UInt8)),(Yv (don.length+1) (M.map Yb)).2) else ((YV (Yb x)).1::(Yv (don.length+1) (M.map Yb)).1,0)).2≠0 then (([]:List UInt8),(if (Yv (don.length+1) (M.map Yb)).2≠0 then (([]:List (List UInt8)),(Yv (don.length+1) (M.map Yb)).2) else ((YV (Yb x)).1::(Yv (don.length+1) (M.map Yb)).1,0)).2)
     else Y62 (don++(if (Yv (don.length+1) (M.map Yb)).2≠0 then (([]:List (List UInt8)),(Yv (don.length+1) (M.map Yb)).2) else ((YV (Yb x)).1::(Yv (don.length+1) (M.map Yb)).1,0)).1))=
     (if (Yv (don.length+1) (M.map Yb)).2≠0 then ([],(Yv (don.length+1) (M.map Yb)).2) else Y62 (don++((YV (Yb x)).1::(Yv (don.length+1) (M.map Yb)).1))):=by
    by_cases d:(Yv (don.length+1) (M.map Yb)).2≠0
    ·rw [Yku d,Yku d,Yku d]
    ·rw [Yju d,Yju d,Yju (show ¬((0:Int)≠0) from fun h=> h rfl)]
   rw [tail]
   by_cases e:(YV (Yb x)).1=[]
   ·have hlast:=q2 e
    rw [Ylu,hemp] at hlast
    have hMe:M=[]:=by cases M with
     | nil=> rfl
     | cons a b=> cases hlast.1
    have nlt:¬(don.length:Int) < (((don++(Yb x::M.map Yb)).length:Nat):Int) - 1:=by
     have e:(don++(Yb x::M.map Yb)).length=don.length+M.length+1:=hll
     rw [e,hMe]
     simp only [Ysu]; omega
    rw [show ((YV (Yb x)).1==[])=true from by rw [e]; rfl,Ygu,Yfu nlt,Yhu,Ygu]
    exact next q1
   ·rw [show ((YV (Yb x)).1==[])=false from by simpa using e,Yhu,Ygu]
    exact next q1
theorem Yna:∀ (l cur:List Int),∀ x∈dcut cur l,(Yb x).length<=(Yb cur++Yb l).length
 | [],cur,x,hx=> by rw [YNu.1 hx,You]; omega
 | r::l,cur,x,hx=> by
  unfold dcut at hx
  have e:Yb (r::l)=rbs r++Yb l:=Yu1 r l
  split at hx
  ·rcases Yuu.1 hx with rfl | hx
   ·rw [You]; omega
   ·have:=Yna l [] x hx
    rw [Y02,YIu] at this
    rw [You,e,You]; omega
  ·have:=Yna l (cur++[r]) x hx
   rw [YS3,Yu1,Y02,YHu] at this
   rw [e]
   simp only [You] at this ⊢
   omega
theorem YIf:∀ (l cur:List Int),(dcut cur l).length=1->dcut cur l=[cur++l]
 | [],cur,_=> by rw [YHu]; rfl
 | r::l,cur,h=> by
  unfold dcut at h ⊢
  split at h
  ·have:=(YW4 l []).1
   simp only [Ynu] at h; omega
  ·rename_i hd
   rw [Yju hd,YIf l _ h,Ypu]; rfl
theorem YEs:YV []=([],true):=by
 have e0:has [] 65533=false:=rfl
 have e1:lowS []=[]:=rfl
 have e2:Yr []=([],0):=by
  unfold Yr
  rw [Yju (by rw [Ywa [] (fun b hb=> by cases hb) (by simp)]; omega),Yku (show Yd1 []=true from rfl)]
 have e3:YK []=([],0):=by unfold YK; rw [Yku (by simp)]
 unfold YV
 rw [e0,e1,e2,e3]
 rfl
theorem YHo (s:List UInt8) (hs:s.length<=100000000):YN5 s=some (YF s):=by
 rw [YGo,YWj,YKe s (by omega),Yiu]
 by_cases hne:s=[]
 ·subst hne
  rw [Y4m,show (YM1 []).1=true from rfl,YEu,Yhu,show decide (((([]:List UInt8).length:Nat):Int) > 65536)=false from rfl,Yhu,YW9 [] (by simp),Yiu]
  rw [show (dcut [] (Yq [])).map Yb=[[]] from rfl,YG6,show decide ((0:Int) < ((([[]]:List (List UInt8)).length:Nat):Int))=true from rfl,Ygu,show Ya (0:Int) ([[]]:List (List UInt8)).length=true from rfl,Ygu,
   show List.getD ([[]]:List (List UInt8)) (Int.toNat 0) (Ty.zero .str)=[] from rfl,Y4f [] (by simp),YEs,Yiu,YEu,Yhu,show (([]:List UInt8)==[])=true from rfl,Ygu]
  rw [show decide ((0:Int) < IntKind.i64.wrap (((([[]]:List (List UInt8)).length:Nat):Int) - 1))=false from by
    rw [show IntKind.i64.wrap (((([[]]:List (List UInt8)).length:Nat):Int) - 1)=0 from k1]; rfl,Yhu,Ygu,show List.set ([[]]:List (List UInt8)) (Int.toNat 0) []=[[]] from rfl,show IntKind.i64.wrap ((0:Int)+1)=1 from a1,YG6,
   show decide ((1:Int) < ((([[]]:List (List UInt8)).length:Nat):Int))=false from rfl,Yhu,Y3f [[]] (by simp) (by simp [Y81]),Yiu,Yli _ (by simp [Lib.join_one])]
  rw [Lib.join_one]; rfl
 unfold YF
 cases hv:(YM1 s).1 with
 | false=> rw [YFu,Ygu,Yku rfl]
 | true=>
  rw [YEu,Yhu,Yju (by simp)]
  by_cases c:65536 < s.length
  ·rw [show decide ((s.length:Int) > 65536)=true from Yeu (by omega),Ygu,Yku c]
  ·rw [show decide ((s.length:Int) > 65536)=false from Yfu (by omega),Yhu,Yju c,Yju hne,YW9 s (by omega),Yiu]
   have hsl:=YP3 s
   have hdl:=YW4 (Yq s) []
   have htot:Yb (Yq s)=s:=Yfi s hv
   have hM:∀ x∈dcut [] (Yq s),YP x/\YE8 x/\(Yb x).length<=65536:=by
    intro x hx
    refine ⟨fun r hr=> ?_,fun r hr=> ?_,?_⟩
    ·rcases YD7 _ _ x hx r hr with h | h
     ·cases h
     ·exact Ym6 s r h.1
    ·rcases YD7 _ _ x hx r hr with h | h
     ·cases h
     ·exact h.2
    ·have:=Yna (Yq s) [] x hx
     rw [Y02,YIu,htot] at this
     omega
   have h2:=Ydc s (dcut [] (Yq s)) [] hM (by simp only [Ysu]; omega) (fun x hx=> by cases hx) (fun e x hx=> by
    rw [Ysu,Y2v] at e
    have:=YIf _ _ e
    rw [this] at hx
    have hx:=YNu.1 hx
    rw [YIu] at hx
    rw [hx]
    intro e2
    rw [e2] at htot
    exact hne htot.symm)
   rw [Ysu,YIu,YIu,show ((0:Nat):Int)=0 from rfl] at h2
   rw [h2]
end Go.Abs
namespace Go.Abs
theorem YHq (c:Int):hasB forb c=Y51 c:=rfl
theorem YT8 (s:List UInt8) (dom:Bool) (hs:s.length<=1073741824):∀ (n i:Nat),i+n=s.length->Zh5 s dom (i:Int)=some ((s.drop i).any fun b=> Y51 (Y9 b)||(dom&&(decide (Y9 b < 32)||(Y9 b==37||Y9 b==127))))
 | 0,i,h=> by
  have:i=s.length:=by omega
  subst this
  rw [Ybd,Yg,Yfu (YGu _),Yhu,YUu]; rfl
 | n+1,i,h=> by
  have hi:i < s.length:=by omega
  have hw:IntKind.i64.wrap ((i:Int)+1)=((i+1:Nat):Int):=by rw [w64 (by omega) (by omega)]; omega
  have hg:((((List.getD s (Int.toNat (i:Int)) (0:UInt8)).toNat:Nat)):Int)=Y9 s[i]:=by
   rw [Ymu,Yvu,Ywu hi]; rfl
  rw [Ybd,Yg,Yeu hi,Ygu,Yj,Yeu hi,Ygu,hg,hw]
  rw [show ([(0:UInt8),(9:UInt8),(10:UInt8),(13:UInt8),(32:UInt8),(35:UInt8),(47:UInt8),(58:UInt8),(60:UInt8),(62:UInt8),(63:UInt8),(64:UInt8),(91:UInt8),(92:UInt8),(93:UInt8),(94:UInt8),(124:UInt8)]:List UInt8)=forb from rfl,YFn forb _ (by simp [forb]),Yiu,YHq,Yru hi,List.any_cons,YT8 s dom hs n (i+1) (by omega)]
  simp only [Ygu]
  cases Y51 (Y9 s[i]) with
  | true=> rfl
  | false=>
   rw [Yhu,YCu]
   cases dom with
   | false=> rw [Yhu,Bool.false_and,YCu]
   | true=>
    rw [Ygu,Y5v]
    cases decide (Y9 s[i] < 32) with
    | true=> rfl
    | false=>
     rw [Yhu,YCu]
     cases (Y9 s[i]==37) with
     | true=> rfl
     | false=>
      rw [Yhu,YCu]
      cases (Y9 s[i]==127) with
      | true=> rfl
      | false=> rw [Yhu,YCu]
theorem YXd {α:Type} {p q:α->Bool} (h:∀ x,p x=q x) (l:List α):l.any p=l.any q:=by
 have:p=q:=funext h
 rw [this]
theorem YJo (s:List UInt8) (hs:s.length<=1073741824):Y23 (s,true)=some (s.any badB):=by
 rw [Y2f]
 dsimp only
 rw [Y8d]
 have:=YT8 s true hs s.length 0 (by omega)
 rw [show ((0:Nat):Int)=0 from rfl,YZu] at this
 rw [this]
 congr 1
 apply YXd
 intro b
 unfold badB
 cases Y51 (Y9 b) <;> cases decide (Y9 b < 32) <;> cases (Y9 b==37) <;> cases (Y9 b==127) <;> rfl
theorem YKo (s:List UInt8) (hs:s.length<=1073741824):Y23 (s,false)=some (YB3 s):=by
 rw [Y2f]
 dsimp only
 rw [Y8d]
 have:=YT8 s false hs s.length 0 (by omega)
 rw [show ((0:Nat):Int)=0 from rfl,YZu] at this
 rw [this]
 congr 1
 apply YXd
 intro b
 cases Y51 (Y9 b) <;> rfl
theorem YOi (s:List UInt8) (hs:s.length<=65536):((YI5 s).bind fun y0=>
      (YN5 y0).bind fun y1=>
       bif (y1.2 !=(0:Int)) then
        some (((Ty.zero (.int .i64)),((Ty.zero .str),((Ty.zero (.int .u32)),(Ty.zero (.arr 8 (.int .u16)))))),y1.2)
       else
        bif (y1.1==([]:List UInt8)) then
         some (((Ty.zero (.int .i64)),((Ty.zero .str),((Ty.zero (.int .u32)),(Ty.zero (.arr 8 (.int .u16)))))),(51:Int))
        else
         (Y23 (y1.1,true)).bind fun y2=>
          bif y2 then
           some (((Ty.zero (.int .i64)),((Ty.zero .str),((Ty.zero (.int .u32)),(Ty.zero (.arr 8 (.int .u16)))))),(52:Int))
          else
           (YL5 y1.1).bind fun y3=>
            bif y3 then
             (YM5 y1.1).bind fun y4=>
              bif (y4.2 !=(0:Int)) then
               some (((Ty.zero (.int .i64)),((Ty.zero .str),((Ty.zero (.int .u32)),(Ty.zero (.arr 8 (.int .u16)))))),y4.2)
              else
               some (((2:Int),((Ty.zero .str),(y4.1,(Ty.zero (.arr 8 (.int .u16)))))),(0:Int))
            else
             some (((1:Int),(y1.1,((Ty.zero (.int .u32)),(Ty.zero (.arr 8 (.int .u16)))))),(0:Int)))=some (Yg3 s):=by
 have hl:=Y2e (YM s)
 have hdl:=YWp s
 rw [YQ7,Yjo s (by omega),Yiu,YHo _ (by omega),Yiu,bne0]
 unfold Yg3
 by_cases c:(YF (YM s)).2≠0
 ·rw [Yeu c,Ygu,Yku c]
 ·rw [Yfu c,Yhu,Yju c]
  by_cases d:(YF (YM s)).1=[]
  ·rw [show ((YF (YM s)).1==[])=true from by rw [d]; rfl,Ygu,Yku d]
  ·rw [show ((YF (YM s)).1==[])=false from by simpa using d,Yhu,Yju d,YJo _ (by omega),Yiu]
   cases (YF (YM s)).1.any badB with
   | true=> rw [Ygu,Yku rfl]
   | false=>
    rw [Yhu,Yju (by simp),Yyo _ (by omega),Yiu]
    unfold Ye2
    cases Y53 (YF (YM s)).1 with
    | false=> rw [Yhu,Yju (by simp)]; rfl
    | true=>
     rw [Ygu,Yku rfl,YAo _ (by omega),Yiu,bne0]
     by_cases e:(ipOf (YF (YM s)).1).2≠0
     ·rw [Yeu e,Ygu,Yku e]
     ·rw [Yfu e,Yhu,Yju e]; rfl
theorem YNi (s:List UInt8) (hs:s.length<=65536):((Y23 (s,false)).bind fun y0=>
      bif y0 then
       some (((Ty.zero (.int .i64)),((Ty.zero .str),((Ty.zero (.int .u32)),(Ty.zero (.arr 8 (.int .u16)))))),(52:Int))
      else
       bif (s==([]:List UInt8)) then
        some (((5:Int),((Ty.zero .str),((Ty.zero (.int .u32)),(Ty.zero (.arr 8 (.int .u16)))))),(0:Int))
       else
        (YJ5 ((1:Int),s)).bind fun y1=>
         bif (decide ((((List.length y1.1):Nat):Int) > (65536:Int))) then
          some (((Ty.zero (.int .i64)),((Ty.zero .str),((Ty.zero (.int .u32)),(Ty.zero (.arr 8 (.int .u16)))))),(5:Int))
         else
          some (((4:Int),(y1.1,((Ty.zero (.int .u32)),(Ty.zero (.arr 8 (.int .u16)))))),(0:Int)))=some (if s=[] then (((5:Int),(([]:List UInt8),((0:Int),z8))),0) else Ye3 s):=by
 rw [YKo s (by omega),Yiu,YQ7]
 by_cases e:s=[]
 ·subst e; rfl
 rw [Yju e]
 unfold Ye3
 cases YB3 s with
 | true=> rw [Ygu,Yku rfl]
 | false=>
  rw [Yhu,Yju (by simp),show (s==[])=false from by simpa using e,Yhu,Ymo s (by omega),Yiu]
  by_cases c:65536 < (Y22 s).length
  ·rw [show decide (((Y22 s).length:Int) > 65536)=true from Yeu (by omega),Ygu,Yku c]
  ·rw [show decide (((Y22 s).length:Int) > 65536)=false from Yfu (by omega),Yhu,Yju c]; rfl
theorem Y1f (s:List UInt8) (sp:Bool):Yn7 (s,sp)=some (Yj1 s sp):=by
 rw [YFo]
 dsimp only
 rw [YQj]
 unfold Yj1
 by_cases a:65536 < s.length
 ·rw [show decide ((s.length:Int) > 65536)=true from Yeu (by omega),Ygu,Yku a]; rfl
 rw [show decide ((s.length:Int) > 65536)=false from Yfu (by omega),Yhu,Yju a,YOi s (by omega),YNi s (by omega)]
 cases s with
 | nil=>
  rw [show decide (((([]:List UInt8).length:Nat):Int) > 0)=false from rfl,Yhu,Yju (show ¬([]:List UInt8).head? =some 91 by simp)]
  cases sp with
  | true=> rw [YEu,Yhu,Yku rfl]
  | false=> rw [YFu,Ygu,Yju (show ¬(false=true) by simp)]
 | cons b t=>
  have h0:(((UInt8.toNat (List.getD (b::t) (Int.toNat (0:Int)) (0:UInt8))):Nat):Int)=Y9 b:=rfl
  rw [show decide ((((b::t).length:Nat):Int) > 0)=true from Yeu (by simp only [Ynu]; omega),Ygu,Y65,Ygu,h0]
  by_cases c:b=91
  ·subst c
   have hw:IntKind.i64.wrap ((((91:UInt8)::t).length:Int) - 1)=((((91:UInt8)::t).length - 1:Nat):Int):=by
    rw [w64 (by omega) (by omega)]; simp only [Ynu]; omega
   rw [show (Y9 91==91)=true from rfl,Ygu,hw,Yku (show ((91:UInt8)::t).head? =some 91 from rfl)]
   unfold YC4
   rw [YL7 _ (by simp)]
   by_cases e:((91:UInt8)::t).length < 2
   ·rw [show decide (((((91:UInt8)::t).length:Nat):Int) < 2)=true from Yeu (by omega),Ygu]
    have:t=[]:=YRu (by simp only [Ynu] at e; omega)
    subst this
    rw [Yku (show (some (List.getD ([91]:List UInt8) (([91]:List UInt8).length - 1) 0))≠some 93 by decide)]; rfl
   ·rw [show decide (((((91:UInt8)::t).length:Nat):Int) < 2)=false from Yfu (by omega),Yhu,Yj,Yeu (by omega),Ygu,Ymu]
    generalize hgl:List.getD ((91:UInt8)::t) (((91:UInt8)::t).length - 1) 0=g
    by_cases d:g=93
    ·subst d
     have hcut:Ym (some (1:Int)) (some ((((91:UInt8)::t).length - 1:Nat):Int)) ((91:UInt8)::t)=Y52 ((91:UInt8)::t):=YU4 1 _ _
     have hil:(Y52 ((91:UInt8)::t)).length<=65536:=by
      unfold Y52
      rw [Yzu,Yyu]; omega
     rw [show ((((93:UInt8).toNat:Nat):Int) !=93)=false from rfl,Yhu,Yju (show ¬(some (93:UInt8)≠some 93) from fun h=> h rfl),Yju e,show Yi (some (1:Int)) (some ((((91:UInt8)::t).length - 1:Nat):Int)) ((91:UInt8)::t).length=true from YV4 (f:=1) (by omega) (by omega),Ygu,hcut,YCo _ (by omega),Yiu,bne0]
     by_cases f:(v6Of (Y52 ((91:UInt8)::t))).2≠0
     ·rw [Yeu f,Ygu,Yku f]; rfl
     ·rw [Yfu f,Yhu,Yju f]; rfl
    ·have hb:((((g.toNat:Nat):Int)) !=93)=true:=bne_iff_ne.2 (fun h=> d (Ys3 (show Y9 g=Y9 93 from h)))
     rw [hb,Ygu,Yku (show some g≠some 93 by simpa using d)]; rfl
  ·have hb:(Y9 b==91)=false:=Yqu.2 (fun h=> c (Ys3 (show Y9 b=Y9 91 from h)))
   rw [hb,Yhu,Yju (show ¬(b::t).head? =some 91 by simpa using c)]
   cases sp with
   | true=> rw [YEu,Yhu,Yku rfl]
   | false=> rw [YFu,Ygu,Yju (show ¬(false=true) by simp)]
end Go.Abs
namespace Go.Abs
end Go.Abs
namespace Go.Abs
end Go.Abs
namespace Go.Abs
theorem YEo (s:List UInt8) (hs:s.length<=1073741823):YV9 s=some (Yu2 s):=by
 have hl:=Yh3 46 s []
 have hl:(YQ s 46).length<=s.length+1:=hl
 have hp:=Yai s
 rw [YDo,YHl]
 unfold Yu2
 by_cases c:s=[]
 ·rw [Yku c,show (s==([]:List UInt8))=true from Y7v.2 c,Ygu]
 ·rw [Yju c,show (s==([]:List UInt8))=false from Yqu.2 c,Yhu,Y77 s 46 (by omega),Yiu]
  exact YHg _ hp (by omega)
theorem Ywo (h:D35):YK5 h=some (Yw1 h):=by
 have sym:∀ w:D35,(some (open Classical in if w=h then 0 else 51):Option Int)=some (open Classical in if h=w then 0 else 51):=by
  intro w
  by_cases e:h=w
  ·rw [Yku e,Yku e.symm]
  ·rw [Yju e,Yju (fun g=> e g.symm)]
 have p6:∀ x w,Zw7 x h w=some (open Classical in if h=w then 0 else 51):=fun x w=> by rw [YCl,YM6,sym]
 have p3:∀ x w,Zt7 x h w=some (open Classical in if h=w then 0 else 51):=fun x w=> by rw [Ypl,p6]
 have p4:∀ x w,Zu7 x h w=some (open Classical in if h=w then 0 else 51):=fun x w=> by rw [Ytl,p3]
 have p5:∀ x w,Zv7 x h w=some (open Classical in if h=w then 0 else 51):=fun x w=> by rw [Yxl,p4]
 have fin:∀ w,YV1 (kd h)->w=Yv1 h->(some (open Classical in if h=w then 0 else 51):Option Int)=some (Yw1 h):=by
  rintro w hk rfl
  unfold Yw1
  by_cases e:h=Yv1 h
  ·rw [Yku e,Yku ⟨hk,e⟩]
  ·rw [Yju e,Yju (fun x=> e x.2)]
 have bad:∀ sp,kd h≠0->Yv1 h=(Yj1 h.2.1 sp).1->(Yj1 h.2.1 sp).2≠0->Yw1 h=51:=by
  intro sp hk hw he
  unfold Yw1
  rw [Yju]
  rintro ⟨_,e⟩
  rw [hw,Ygs _ _ he] at e
  exact hk (congrArg (fun x:D35=> kd x) e)
 have hz:((Ty.zero .str),((Ty.zero (.int .u32)),(Ty.zero (.arr 8 (.int .u16)))))=(([]:List UInt8),((0:Int),z8)):=rfl
 rw [Yvo,Y9l,hz]
 have one:∀ b:Bool,b=decide (kd h=0\/kd h=5)->Zr7 h h.1 b h (h.1,(([]:List UInt8),((0:Int),z8)))=some (Yw1 h):=by
  intro b hb
  rw [Yfl]
  by_cases c:kd h=0\/kd h=5
  ·rw [hb,Yeu c,Ygu,Ykl,YM6,sym]
   exact fin _ (by unfold YV1; omega) (by unfold Yv1 YU2; rw [Yku c]; try rfl)
  ·rw [hb,Yfu c,Yhu]
   by_cases g:kd h=1
   ·have hw:Yv1 h=(Yj1 h.2.1 true).1:=by unfold Yv1 YU2; rw [Yju c,Yju (by omega),Yju (by omega),show (kd h==1)=true from Y7v.2 g]
    rw [show (h.1==1)=true from Y7v.2 g,Ygu,Y1f,Yiu]
    by_cases e:(Yj1 h.2.1 true).2=0
    ·rw [show ((Yj1 h.2.1 true).2 !=0)=false from by rw [e]; rfl,Yhu,p3]
     exact fin _ (by unfold YV1; omega) hw.symm
    ·rw [show ((Yj1 h.2.1 true).2 !=0)=true from bne_iff_ne.2 e,Ygu,bad true (by omega) hw e]
   rw [show (h.1==1)=false from Yqu.2 g,Yhu]
   by_cases f:kd h=4
   ·have hw:Yv1 h=(Yj1 h.2.1 false).1:=by unfold Yv1 YU2; rw [Yju c,Yju (by omega),Yju (by omega),show (kd h==1)=false from Yqu.2 g]
    rw [show (h.1==4)=true from Y7v.2 f,Ygu,Y1f,Yiu]
    by_cases e:(Yj1 h.2.1 false).2=0
    ·rw [show ((Yj1 h.2.1 false).2 !=0)=false from by rw [e]; rfl,Yhu,p4]
     exact fin _ (by unfold YV1; omega) hw.symm
    ·rw [show ((Yj1 h.2.1 false).2 !=0)=true from bne_iff_ne.2 e,Ygu,bad false (by omega) hw e]
   rw [show (h.1==4)=false from Yqu.2 f,Yhu]
   by_cases d:kd h=2
   ·rw [show (h.1==2)=true from Y7v.2 d,Ygu,p5]
    exact fin _ (by unfold YV1; omega) (by unfold Yv1 YU2; rw [Yju c,Yku d]; try rfl)
   rw [show (h.1==2)=false from Yqu.2 d,Yhu]
   by_cases e:kd h=3
   ·rw [show (h.1==3)=true from Y7v.2 e,Ygu,p5]
    exact fin _ (by unfold YV1; omega) (by unfold Yv1 YU2; rw [Yju c,Yju d,Yku e]; try rfl)
   rw [show (h.1==3)=false from Yqu.2 e,Yhu]
   unfold Yw1
   rw [Yju (fun x=> by have:=x.1; unfold YV1 at this; omega)]
 by_cases c:kd h=0
 ·rw [show (h.1==0)=true from Y7v.2 c,Ygu]
  exact one true (Yeu (.inl c)).symm
 ·rw [show (h.1==0)=false from Yqu.2 c,Yhu]
  refine one _ ?_
  by_cases f:kd h=5
  ·rw [Yeu (.inr f)]; exact Y7v.2 f
  ·rw [Yfu (fun x=> by omega)]; exact Yqu.2 f
end Go.Abs
