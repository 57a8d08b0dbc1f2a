/- Part L6 of the proof: see the last text of the claim. No condition of its own. -/
import Derived.Test.YtddagflhafkbnaaGreatDoorL5
set_option linter.all false
set_option autoImplicit false
namespace Go.Abs
def dcut:List Int->List Int->List (List Int)
 | cur,[]=> [cur]
 | cur,r::l=> if dotI r=true then cur::dcut [] l else dcut (cur++[r]) l
theorem YW4:∀ (l cur:List Int),1<=(dcut cur l).length/\(dcut cur l).length<=l.length+1
 | [],cur=> by simp [dcut]
 | r::l,cur=> by
  unfold dcut
  split
  ·have:=YW4 l []; simp only [Ynu]; omega
  ·have:=YW4 l (cur++[r]); simp only [Ynu]; omega
theorem YD7:∀ (l cur:List Int),∀ x∈dcut cur l,∀ r∈x,r∈cur\/(r∈l/\dotI r=false)
 | [],cur,x,hx,r,hr=> by rw [YNu.1 hx] at hr; exact .inl hr
 | r0::l,cur,x,hx,r,hr=> by
  unfold dcut at hx
  split at hx
  ·rcases Yuu.1 hx with rfl | hx
   ·exact .inl hr
   ·rcases YD7 l [] x hx r hr with h | h
    ·cases h
    ·exact .inr ⟨Y0v _ h.1,h.2⟩
  ·rename_i hd
   rcases YD7 l _ x hx r hr with h | h
   ·rcases YAu.1 h with h | h
    ·exact .inl h
    ·rw [YNu.1 h]; exact .inr ⟨by simp,by simpa using hd⟩
   ·exact .inr ⟨Y0v _ h.1,h.2⟩
theorem Yma:∀ (l cur:List Int),∀ x∈dcut cur l,x.length<=cur.length+l.length
 | [],cur,x,hx=> by rw [YNu.1 hx]; omega
 | r0::l,cur,x,hx=> by
  unfold dcut at hx
  split at hx
  ·rcases Yuu.1 hx with rfl | hx
   ·omega
   ·have:=Yma l [] x hx; simp only [Ynu,Ysu] at*; omega
  ·have:=Yma l _ x hx
   simp only [You,Ynu,Ysu] at*; omega
theorem YVp (a b c:List UInt8):((a++b++c).take (a.length+b.length)).drop a.length=b:=by
 rw [List.take_left' (by rw [You]),List.drop_left]
theorem YW8 (s:List UInt8) (hs:s.length<=65536):∀ (rest pre cur:List Int) (r:List (List UInt8)),YP rest->s=Yb pre++Yb cur++Yb rest->r.length+rest.length<=70000->
  Zu1 s (((Yb pre).length:Nat):Int) s ((Yb pre).length+(Yb cur).length) r=Zv1 s (((r++(dcut cur rest).map Yb).length:Nat):Int) 0 (r++(dcut cur rest).map Yb)
 | [],pre,cur,r,hl,e,hr=> by
  have hlen:s.length=(Yb pre).length+(Yb cur).length:=by rw [e,Y02,YHu,You]
  have hd:s.drop (Yb pre).length=Yb cur:=by rw [e,Y02,YHu,List.drop_left]
  rw [YAd,Yfu (by omega),Yhu,Yi1 (by omega),Ygu,YR1,hd,show decide (r.length+[Yb cur].length<=lim)=true from Yeu (by simp only [lim,Ynu,Ysu]; simp only [Ysu] at hr; omega),Ygu]
  rfl
 | x::rest,pre,cur,r,hl,e,hr=> by
  obtain ⟨h1,h2⟩:=Yv8 hl
  have hb:=Ym8 x
  have e':s=Yb pre++Yb cur++(rbs x++Yb rest):=by rw [e,Yu1]
  have hlen:s.length=(Yb pre).length+(Yb cur).length+((rbs x).length+(Yb rest).length):=by rw [e']; simp only [You]
  have hd:s.drop ((Yb pre).length+(Yb cur).length)=rbs x++Yb rest:=by
   rw [e',List.drop_left' (by rw [You])]
  have hra:=YWh s ((Yb pre).length+(Yb cur).length) x h1 _ (by omega) hd
  have hwd:wd s ((Yb pre).length+(Yb cur).length)=(rbs x).length:=by unfold wd; rw [hra]; simp
  rw [YAd,Yeu (by omega),Ygu,Yi4,Yy3,hra,hwd,Yje,Yiu]
  dsimp only
  unfold dcut
  cases hdot:dotI x with
  | true=>
   have hm:Ym (some (((Yb pre).length:Nat):Int)) (some (((Yb pre).length+(Yb cur).length:Nat):Int)) s=Yb cur:=by
    rw [YU4,e']; exact YVp _ _ _
   rw [Ygu,Yku rfl,YV4 (by omega) (by omega),Ygu,hm,show decide (r.length+[Yb cur].length<=lim)=true from Yeu (by simp only [lim,Ynu,Ysu]; simp only [Ynu] at hr; omega),Ygu,YWf x h1]
   have key:=YW8 s hs rest (pre++cur++[x]) [] (r++[Yb cur]) h2 (by rw [e',YS3,YS3,Yu1,Y02]; simp only [YHu,Ypu]) (by simp only [You,Ynu,Ysu] at hr ⊢; omega)
   have hp:(Yb (pre++cur++[x])).length=(Yb pre).length+(Yb cur).length+(rbs x).length:=by rw [YS3,YS3,Yu1,Y02,YHu]; simp only [You]
   rw [hp,Y02,Ysu,Nat.add_zero] at key
   rw [w64 (by omega) (by omega),show (((Yb pre).length+(Yb cur).length:Nat):Int)+(((rbs x).length:Nat):Int)=(((Yb pre).length+(Yb cur).length+(rbs x).length:Nat):Int) from by omega,key,Ypu]
   rfl
  | false=>
   rw [Yhu,Yju (by simp)]
   have key:=YW8 s hs rest pre (cur++[x]) r h2 (by rw [e',YS3,Yu1,Y02]; simp only [YHu,Ypu]) (by simp only [Ynu] at hr ⊢; omega)
   rw [YS3,Yu1,Y02,YHu,You,<-Nat.add_assoc] at key
   exact key
def Yv:Nat->List (List UInt8)->List (List UInt8)×Int
 | _,[]=> ([],0)
 | i,x::l=> if (YG x (l.isEmpty&&decide (0 < i))).2≠0 then ([],(YG x (l.isEmpty&&decide (0 < i))).2)
  else if (Yv (i+1) l).2≠0 then ([],(Yv (i+1) l).2) else ((YG x (l.isEmpty&&decide (0 < i))).1::(Yv (i+1) l).1,0)
def YE1 (y:List UInt8):List UInt8:=if y.getLast? =some 46 then y.dropLast else y
def Y62 (l:List (List UInt8)):List UInt8×Int:=if 253 < (YE1 (Lib.join l [46])).length then ([],5) else (Lib.join l [46],0)
def YF (s:List UInt8):List UInt8×Int:=
 if (YM1 s).1=false then ([],21) else if 65536 < s.length then ([],5) else if s=[] then ([],0)
 else if (Yv 0 ((dcut [] (Yq s)).map Yb)).2≠0 then ([],(Yv 0 ((dcut [] (Yq s)).map Yb)).2) else Y62 (Yv 0 ((dcut [] (Yq s)).map Yb)).1
theorem YL7 (s:List UInt8) (h:0 < s.length):s.getLast? =some (s.getD (s.length - 1) 0):=by
 rw [List.getLast?_eq_getElem?,Yvu,Ywu (by omega)]; rfl
theorem Yhm (y:List UInt8) (hy:y.length<=1073741824):Yba (y,[46])=some (YE1 y):=by
 have e1:(([46]:List UInt8)).length=1:=rfl
 rw [Yfp,Yjj,Y1n,YXk,YZm,YHk]
 simp only
 rw [e1,show (((1:Nat):Int))=1 from rfl,w64 (by omega) (by omega)]
 unfold YE1
 by_cases c:1<=y.length
 ·have ew:(y.length:Int) - 1=((y.length - 1:Nat):Int):=by omega
  rw [show decide ((y.length:Int)>=1)=true from Yeu (by omega),Ygu,ew,Yi1 (by omega),Ygu,YR1,Yiu]
  have hd:y.drop (y.length - 1)=[y.getD (y.length - 1) 0]:=by
   rw [Yru (by omega),YPu (by omega),Yvu,Ywu (by omega)]; rfl
  rw [hd,YL7 y c]
  generalize y.getD (y.length - 1) 0=z
  by_cases g:z=46
  ·rw [g,show (([46]:List UInt8)==[46])=true from rfl,Ygu,Yku rfl,show Yi none (some ((y.length - 1:Nat):Int)) y.length=true from by simp [Yi],Ygu,Yiu,List.dropLast_eq_take]
   rfl
  ·rw [show ([z]==([46]:List UInt8))=false from by simp [g],Yhu,Yju (by simp [g])]; rfl
 ·have:y=[]:=YRu (by omega)
  subst this
  rfl
theorem Ybr (t:List UInt8) (last:Bool):((YB1 t last).2≠0/\(YB1 t last).1=[])\/(YB1 t last=(t,0)/\t.length<=63):=by
 unfold YB1
 by_cases a:63 < t.length
 ·rw [Yku a]; exact .inl ⟨by simp,rfl⟩
 ·rw [Yju a]
  repeat' split
  all_goals first | exact .inl ⟨by simp,rfl⟩ | exact .inr ⟨rfl,by omega⟩
theorem Ycr (s:List UInt8) (last:Bool):((YG s last).2≠0/\(YG s last).1=[])\/((YG s last).2=0/\(YG s last).1.length<=63):=by
 have key:∀ t,((YB1 t last).2≠0/\(YB1 t last).1=[])\/((YB1 t last).2=0/\(YB1 t last).1.length<=63):=by
  intro t
  rcases Ybr t last with h | ⟨h1,h2⟩
  ·exact .inl h
  ·rw [h1]; exact .inr ⟨rfl,h2⟩
 unfold YG
 repeat' split
 all_goals first | exact .inl ⟨by simp,rfl⟩ | exact key _
theorem YOg (n:Nat):∀ l:List (List UInt8),(∀ x∈l,x.length<=n)->Lib.lens l<=n*l.length
 | [],_=> by simp [Lib.lens]
 | x::l,h=> by
  have h1:=YOg n l (fun y hy=> h y (by simp [hy]))
  have h2:=h x (by simp)
  unfold Lib.lens at h1 ⊢
  rw [YBu,List.sum_cons,Ynu,Nat.mul_succ]; omega
theorem YFg (n:Nat) (l:List (List UInt8)) (h:∀ x∈l,x.length<=n):(Lib.join l [46]).length<=(n+1)*l.length:=by
 cases l with
 | nil=> simp [Lib.join_nil]
 | cons x r=>
  have:=YOg n (x::r) h
  rw [Lib.join_length,Ynu,Ysu,Y2v,Nat.one_mul,Nat.add_mul,Nat.one_mul]
  simp only [Ynu] at*; omega
theorem Ykc (s:List UInt8):∀ (todo don:List (List UInt8)),don.length+todo.length<=70000->(∀ x∈don,x.length<=63)->(∀ x∈todo,x.length<=1073741824)->
  Zv1 s (((don++todo).length:Nat):Int) (don.length:Int) (don++todo)=some (if (Yv don.length todo).2≠0 then ([],(Yv don.length todo).2) else Y62 (don++(Yv don.length todo).1))
 | [],don,hl,hd,ht=> by
  have hj:=YFg 63 don hd
  have hl:don.length<=70000:=by simpa using hl
  rw [YDd,Yg,Yfu (by simp),Yhu,YHu,Ydp,Yx4]
  simp only
  rw [Yeu (show don.length<=140737488355328 by omega),Yeu (show (Lib.join don [46]).length<=140737488355328 by omega),Y5v,Ygu,Yiu,Yhm _ (by omega),Yiu]
  unfold Yv Y62
  rw [Yju (by simp),YHu]
  by_cases c:253 < (YE1 (Lib.join don [46])).length
  ·rw [show decide (((YE1 (Lib.join don [46])).length:Int) > 253)=true from Yeu (by omega),Ygu,Yku c]
  ·rw [show decide (((YE1 (Lib.join don [46])).length:Int) > 253)=false from Yfu (by omega),Yhu,Yju c]
 | x::todo,don,hl,hd,ht=> by
  have hi:don.length < (don++x::todo).length:=by rw [You,Ynu]; omega
  have hll:(don++x::todo).length=don.length+todo.length+1:=by rw [You,Ynu]; omega
  have hl:don.length+todo.length+1<=70000:=by simpa [Nat.add_assoc] using hl
  have hg:List.getD (don++x::todo) (Int.toNat (don.length:Int)) (Ty.zero .str)=x:=by
   rw [Ymu,Yvu,Ycv (by omega),Nat.sub_self]; rfl
  have hset:∀ y,List.set (don++x::todo) (Int.toNat (don.length:Int)) y=(don++[y])++todo:=by
   intro y
   rw [Ymu,List.set_append_right _ _ (by omega),Nat.sub_self,List.set_cons_zero,Ypu]; rfl
  have hw:IntKind.i64.wrap ((don.length:Int)+1)=((don.length+1:Nat):Int):=by rw [w64 (by omega) (by omega)]; omega
  have step:∀ b:Bool,((Yz5 (x,b)).bind fun y0=>
      bif (y0.2 !=(0:Int)) then
       some (([]:List UInt8),y0.2)
      else
       bif (Ya (don.length:Int) (List.length (don++x::todo))) then
        Zv1 s (((don++x::todo).length:Nat):Int) (IntKind.wrap IntKind.i64 ((don.length:Int)+(1:Int))) (List.set (don++x::todo) (Int.toNat (don.length:Int)) y0.1)
       else
        none)=some (if (YG x b).2≠0 then ([],(YG x b).2) else if (Yv (don.length+1) todo).2≠0 then ([],(Yv (don.length+1) todo).2) else Y62 (don++((YG x b).1::(Yv (don.length+1) todo).1))):=by
   intro b
   rw [YQm x b (ht x (by simp)),Yiu,bne0]
   rcases Ycr x b with ⟨h1,_⟩ | ⟨h1,h2⟩
   ·rw [Yeu h1,Ygu,Yku h1]
   ·have h1':¬(YG x b).2≠0:=fun h=> h h1
    rw [Yfu h1',Yhu,Yju h1',Yj,Yeu hi,Ygu,hset,hw]
    have ih:=Ykc s todo (don++[(YG x b).1]) (by simp only [You,Ynu,Ysu]; omega) (fun y hy=> by
     rcases YAu.1 hy with hy | hy
     ·exact hd y hy
     ·rw [YNu.1 hy]; exact h2) (fun y hy=> ht y (by simp [hy]))
    have hlen:(don++[(YG x b).1]).length=don.length+1:=by simp
    rw [hlen,show ((don++[(YG x b).1])++todo).length=(don++x::todo).length from by simp only [You,Ynu,Ysu]; omega] at ih
    rw [ih]
    simp only [Ypu,List.singleton_append]
  rw [YDd,Yg,Yeu hi,Ygu,Yj,Yeu hi,Ygu,hg,w64 (by omega) (by omega)]
  rw [Yj,Yeu hi] at step
  rw [Yv]
  have fin:∀ b:Bool,b=(todo.isEmpty&&decide (0 < don.length))->(if (YG x b).2≠0 then (([]:List UInt8),(YG x b).2) else if (Yv (don.length+1) todo).2≠0 then ([],(Yv (don.length+1) todo).2) else Y62 (don++((YG x b).1::(Yv (don.length+1) todo).1)))=
    (if (if (YG x (todo.isEmpty&&decide (0 < don.length))).2≠0 then (([]:List (List UInt8)),(YG x (todo.isEmpty&&decide (0 < don.length))).2) else if (Yv (don.length+1) todo).2≠0 then ([],(Yv (don.length+1) todo).2) else ((YG x (todo.isEmpty&&decide (0 < don.length))).1::(Yv (don.length+1) todo).1,0)).2≠0 then ([],(if (YG x (todo.isEmpty&&decide (0 < don.length))).2≠0 then (([]:List (List UInt8)),(YG x (todo.isEmpty&&decide (0 < don.length))).2) else if (Yv (don.length+1) todo).2≠0 then ([],(Yv (don.length+1) todo).2) else ((YG x (todo.isEmpty&&decide (0 < don.length))).1::(Yv (don.length+1) todo).1,0)).2)
     else Y62 (don++(if (YG x (todo.isEmpty&&decide (0 < don.length))).2≠0 then (([]:List (List UInt8)),(YG x (todo.isEmpty&&decide (0 < don.length))).2) else if (Yv (don.length+1) todo).2≠0 then ([],(Yv (don.length+1) todo).2) else ((YG x (todo.isEmpty&&decide (0 < don.length))).1::(Yv (don.length+1) todo).1,0)).1)):=by
   rintro b rfl
   by_cases c:(YG x (todo.isEmpty&&decide (0 < don.length))).2≠0
   ·rw [Yku c,Yku c,Yku c]
   ·rw [Yju c,Yju c]
    by_cases d:(Yv (don.length+1) todo).2≠0
    ·rw [Yku d,Yku d,Yku d]
    ·rw [Yju d,Yju d,Yju (by simp)]
  cases todo with
  | nil=>
   rw [show ((don.length:Int)==(((don++[x]).length:Nat):Int) - 1)=true from Y7v.2 (by simp),Ygu,step,show decide ((don.length:Int) > 0)=decide (0 < don.length) from by by_cases h:0 < don.length <;> simp [h],fin _ (by simp)]
  | cons z todo=>
   rw [show ((don.length:Int)==(((don++x::z::todo).length:Nat):Int) - 1)=false from Yqu.2 (by simp only [You,Ynu]; omega),Yhu,step,fin _ (by simp)]
theorem YFm (s:List UInt8):Y64 s=some (YF s):=by
 rw [YEm,Yll,Yqf,Yiu]
 unfold YF
 cases hv:(YM1 s).1 with
 | false=> rw [YFu,Ygu,Yku rfl]
 | true=>
  rw [YEu,Yhu,Yju (by simp)]
  by_cases c:65536 < s.length
  ·rw [show decide ((s.length:Int) > 65536)=true from Yeu (by omega),Ygu,Yku c]
  ·rw [show decide ((s.length:Int) > 65536)=false from Yfu (by omega),Yhu,Yju c]
   by_cases d:s=[]
   ·rw [show (s==[])=true from by rw [d]; rfl,Ygu,Yku d]
   ·have hsl:=YP3 s
    have hdl:=YW4 (Yq s) []
    have h1:=YW8 s (by omega) (Yq s) [] [] [] (Yu8 s) (by rw [Yfi s hv]; rfl) (by simp only [Ysu]; omega)
    have h2:=Ykc s ((dcut [] (Yq s)).map Yb) [] (by simp only [Ysu,YVu]; omega) (fun x hx=> by cases hx) (fun x hx=> by
     obtain ⟨y,hy,rfl⟩:=List.mem_map.1 hx
     have:=Yma _ _ y hy
     have:=YSb y
     simp only [Ysu] at*; omega)
    rw [show (s==[])=false from by simpa using d,Yhu,Yju d]
    rw [Y02,Ysu,Nat.add_zero,YIu] at h1
    rw [YIu,Ysu,YIu] at h2
    rw [show ((0:Nat):Int)=0 from rfl] at h1 h2
    rw [h1,h2]
end Go.Abs
namespace Go.Abs
def tok (t:List UInt8):Prop:=∀ b∈t,okI (Y9 b)
def YE8 (l:List Int):Prop:=∀ r∈l,dotI r=false
theorem YPr {c:Int} (h:okI c):lowI c=c:=by rw [Yv2,Yju h.2.2.2]
theorem Y6q {r:Int} (h:dotI r=false):r≠46:=by rintro rfl; cases h
theorem YQr {c:Int} (h:okI c):dotI c=false:=by
 have h1:=h.2.1
 have h2:=h.2.2.1
 unfold dotI
 rw [Yqu.2 h2,Yqu.2 (show c≠12290 by omega),Yqu.2 (show c≠65294 by omega),Yqu.2 (show c≠65377 by omega)]; rfl
theorem YMt {t:List UInt8} (h:tok t):lowS t=t:=by
 unfold lowS
 rw [List.map_congr_left (g:=id) (fun b hb=> Ys3 (by rw [Yf9,YPr (h b hb)]; rfl)),List.map_id]
theorem YTb {t:List UInt8} (h:tok t):∀ b∈t,Y9 b < 128:=fun b hb=> (h b hb).2.1
theorem YLt {t:List UInt8} (h:tok t):has t 65533=false:=by
 unfold has
 rw [Yr5 t (YTb h),List.any_eq_false]
 intro r hr
 obtain ⟨b,hb,rfl⟩:=List.mem_map.1 hr
 have:=YTb h b hb
 simp only [Y7v]; omega
theorem YNt {t:List UInt8} (h:tok t):YE8 (t.map Y9):=by
 intro r hr
 obtain ⟨b,hb,rfl⟩:=List.mem_map.1 hr
 exact YQr (h b hb)
theorem Yzr {r:Int} (h0:scal r=true) (h1:dotI r=false) (h2:lowI r < 128):okI (lowI r):=by
 have hr:=YE2 h0
 have:=Y6q h1
 rw [Yv2] at h2 ⊢
 unfold okI
 split at h2
 ·rw [Yku (by assumption)]; omega
 ·rw [Yju (by assumption)]; omega
theorem Ybu:tok xn:=by
 intro b hb
 have:∀ b∈xn,okI (Y9 b):=by decide
 exact this b hb
theorem Yfr (s t:List UInt8) (hs:∀ r∈Yq s,r < 128->okI r) (hb:Yd1 s=false) (h:Yr s=(t,0)):tok t:=by
 unfold Yr at h
 split at h
 ·rename_i c; exact absurd (congrArg Prod.snd h) c
 ·rw [hb,Yju (by simp)] at h
  have:=congrArg Prod.fst h
  dsimp only at this
  subst this
  intro b hb
  rcases YAu.1 hb with hb | hb
  ·exact Ybu b hb
  ·exact YJi s hs b hb
theorem YHt {t:List UInt8} (ht:tok t):tok (t.take 4):=fun b hb=> ht b (List.mem_of_mem_take hb)
def Y81 {α:Type} (d:α):List (List α)->List α
 | []=> []
 | [x]=> x
 | x::y::l=> x++d::Y81 d (y::l)
theorem YOa (sep:UInt8):∀ l:List (List UInt8),Lib.join l [sep]=Y81 sep l
 | []=> Lib.join_nil _
 | [x]=> Lib.join_one x _
 | x::y::l=> by
  rw [Lib.join_cons,Y81,<-YOa sep (y::l),Lib.join_cons]
  simp [Lib.joinTail]
theorem YPt (y:List UInt8):y.length<=(YE1 y).length+1:=by
 unfold YE1; split
 ·rw [List.length_dropLast]; omega
 ·omega
theorem Y4m:YF []=([],0):=by
 unfold YF
 rw [Yju (by rw [Yqi [] (fun b hb=> by cases hb)]; simp),Yju (by simp),Yku rfl]
end Go.Abs
namespace Go.Abs
def hnil:D35:=((0:Int),(([]:List UInt8),((0:Int),z8)))
theorem YQ7:((Ty.zero (.int .i64)),((Ty.zero .str),((Ty.zero (.int .u32)),(Ty.zero (.arr 8 (.int .u16))))))=hnil:=rfl
def badB (b:UInt8):Bool:=decide (Y9 b < 32)||(Y9 b==37||(Y9 b==127||Y51 (Y9 b)))
theorem Yxq:(List.range 256).all (fun n=> decide (Lib.indexByte forb (UInt8.ofNat (n:Int).toNat)>=0)==Y51 (n:Int))=true:=by kernel_rfl
theorem Yyq (b:UInt8):decide (Lib.indexByte forb (UInt8.ofNat (Y9 b).toNat)>=0)=Y51 (Y9 b):=by
 have h:=YK2 b
 obtain ⟨n,hn⟩:=Y6v h.1
 have:=Y3v.1 Yxq n (List.mem_range.2 (by omega))
 rw [hn]
 exact Y7v.1 this
def Ye2 (name:List UInt8):D35×Int:=
 if Y53 name=true then (if (ipOf name).2≠0 then (hnil,(ipOf name).2) else (((2:Int),(([]:List UInt8),((ipOf name).1,z8))),0)) else (((1:Int),(name,((0:Int),z8))),0)
def Yg3 (s:List UInt8):D35×Int:=
 if (YF (YM s)).2≠0 then (hnil,(YF (YM s)).2) else if (YF (YM s)).1=[] then (hnil,51)
 else if (YF (YM s)).1.any badB=true then (hnil,52) else Ye2 (YF (YM s)).1
def Ye3 (s:List UInt8):D35×Int:=
 if YB3 s=true then (hnil,52) else if 65536 < (Y22 s).length then (hnil,5) else (((4:Int),(Y22 s,((0:Int),z8))),0)
def Y52 (s:List UInt8):List UInt8:=(s.take (s.length - 1)).drop 1
def YC4 (s:List UInt8):D35×Int:=
 if s.getLast? ≠some 93 then (hnil,51) else if s.length < 2 then (hnil,51) else if (v6Of (Y52 s)).2≠0 then (hnil,(v6Of (Y52 s)).2)
 else (((3:Int),(([]:List UInt8),((0:Int),(v6Of (Y52 s)).1))),0)
def Yj1 (s:List UInt8) (sp:Bool):D35×Int:=
 if 65536 < s.length then (hnil,5) else if s.head? =some 91 then YC4 s
 else if sp=true then Yg3 s else if s=[] then (((5:Int),(([]:List UInt8),((0:Int),z8))),0) else Ye3 s
theorem YPf (s:List UInt8) (sp:Bool) (name:List UInt8) (hn:name.length<=65536):∀ (n i:Nat),i+n=name.length->Zs1 s sp name (name.length:Int) (i:Int) hnil=some (if (name.drop i).any badB=true then (hnil,52) else Ye2 name)
 | 0,i,h=> by
  have:i=name.length:=by omega
  subst this
  rw [Yvd,Yg,Yfu (YGu _),Yhu,YUu,Yju (by simp),Yvm name (by omega),Yiu]
  unfold Ye2
  cases Y53 name with
  | false=> rw [Yhu,Yju (by simp)]; rfl
  | true=>
   rw [Ygu,Yku rfl,Yxm name (by omega),Yiu,bne0]
   by_cases c:(ipOf name).2≠0
   ·rw [Yeu c,Ygu,Yku c]; rfl
   ·rw [Yfu c,Yhu,Yju c]; rfl
 | n+1,i,h=> by
  have hi:i < name.length:=by omega
  have hw:IntKind.i64.wrap ((i:Int)+1)=((i+1:Nat):Int):=by rw [w64 (by omega) (by omega)]; omega
  have hg:(((UInt8.toNat (List.getD name (Int.toNat (i:Int)) (0:UInt8))):Nat):Int)=Y9 name[i]:=by
   rw [Ymu,Yvu,Ywu hi]; rfl
  rw [Yvd,Yg,Yeu hi,Ygu,Yj,Yeu hi,Ygu,hg,hw,Yru hi,List.any_cons,YPf s sp name hn n (i+1) (by omega),YP4,YB2]
  have e:badB name[i]=(decide (Y9 name[i] < 32)||(Y9 name[i]==37||(Y9 name[i]==127||Y51 (Y9 name[i])))):=rfl
  rw [e]
  have key:((some (Lib.indexByte forb (UInt8.ofNat (Y9 name[i]).toNat))).bind fun y0=> bif (decide (y0>=(0:Int))) then some (hnil,(52:Int)) else some (if (name.drop (i+1)).any badB=true then (hnil,(52:Int)) else Ye2 name))=some (if (Y51 (Y9 name[i])||(name.drop (i+1)).any badB)=true then (hnil,52) else Ye2 name):=by
   rw [Yiu,Yyq]
   cases Y51 (Y9 name[i]) with
   | true=> rw [Ygu,YDu,Yku rfl]
   | false=> rw [Yhu,YCu]
  cases decide (Y9 name[i] < 32) with
  | true=> rw [Ygu,YDu,YDu,Yku rfl]; rfl
  | false=>
   rw [Yhu,YCu]
   cases (Y9 name[i]==37) with
   | true=> rw [Ygu,YDu,YDu,Yku rfl]; rfl
   | false=>
    rw [Yhu,YCu]
    cases (Y9 name[i]==127) with
    | true=> rw [Ygu,YDu,YDu,Yku rfl]; rfl
    | false=>
     rw [Yhu,YCu]
     exact key
theorem Y3r (l:List (List UInt8)):(Y62 l).1.length<=254:=by
 unfold Y62
 split
 ·simp
 ·have:=YPt (Lib.join l [46])
  dsimp only; omega
theorem Y2e (s:List UInt8):(YF s).1.length<=254:=by
 unfold YF
 repeat' split
 all_goals first | exact Y3r _ | simp
theorem Yxt (s:List UInt8) (sp:Bool) (hs:s.length<=65536):((Y84 s).bind fun y0=>
         (Y64 y0).bind fun y1=>
          bif (y1.2 !=(0:Int)) then
           some (((Ty.zero (.int .i64)),((Ty.zero .str),((Ty.zero (.int .u32)),(Ty.zero (.arr 8 (.int .u16)))))),y1.2)
          else
           bif (y1.1==([]:List UInt8)) then
            some (((Ty.zero (.int .i64)),((Ty.zero .str),((Ty.zero (.int .u32)),(Ty.zero (.arr 8 (.int .u16)))))),(51:Int))
           else
            Zs1 s sp y1.1 (((List.length y1.1):Nat):Int) (0:Int) ((Ty.zero (.int .i64)),((Ty.zero .str),((Ty.zero (.int .u32)),(Ty.zero (.arr 8 (.int .u16)))))))=some (Yg3 s):=by
 have hl:=Y2e (YM s)
 rw [YQ7,Yen s (by omega),Yiu,YFm,Yiu,bne0]
 unfold Yg3
 by_cases c:(YF (YM s)).2≠0
 ·rw [Yeu c,Ygu,Yku c]
 ·rw [Yfu c,Yhu,Yju c]
  by_cases d:(YF (YM s)).1=[]
  ·rw [show ((YF (YM s)).1==[])=true from by rw [d]; rfl,Ygu,Yku d]
  ·have:=YPf s sp (YF (YM s)).1 (by omega) (YF (YM s)).1.length 0 (by omega)
   rw [show ((0:Nat):Int)=0 from rfl,YZu] at this
   rw [show ((YF (YM s)).1==[])=false from by simpa using d,Yhu,Yju d,this]
theorem YWr (s:List UInt8) (hs:s.length<=65536):((Yc4 (s,([(0:UInt8),(9:UInt8),(10:UInt8),(13:UInt8),(32:UInt8),(35:UInt8),(47:UInt8),(58:UInt8),(60:UInt8),(62:UInt8),(63:UInt8),(64:UInt8),(91:UInt8),(92:UInt8),(93:UInt8),(94:UInt8),(124:UInt8)]:List UInt8))).bind fun y0=>
         bif y0 then
          some (((Ty.zero (.int .i64)),((Ty.zero .str),((Ty.zero (.int .u32)),(Ty.zero (.arr 8 (.int .u16)))))),(52:Int))
         else
          (Y94 ((1:Int),s)).bind fun y1=>
           bif (decide ((((List.length y1.1):Nat):Int) > (65536:Int))) then
            some (((Ty.zero (.int .i64)),((Ty.zero .str),((Ty.zero (.int .u32)),(Ty.zero (.arr 8 (.int .u16)))))),(5:Int))
           else
            some (((4:Int),(y1.1,((Ty.zero (.int .u32)),(Ty.zero (.arr 8 (.int .u16)))))),(0:Int)))=some (Ye3 s):=by
 rw [show ([(0:UInt8),(9:UInt8),(10:UInt8),(13:UInt8),(32:UInt8),(35:UInt8),(47:UInt8),(58:UInt8),(60:UInt8),(62:UInt8),(63:UInt8),(64:UInt8),(91:UInt8),(92:UInt8),(93:UInt8),(94:UInt8),(124:UInt8)]:List UInt8)=forb from rfl,Yzi s (by omega),Yiu,YQ7]
 unfold Ye3
 cases YB3 s with
 | true=> rw [Ygu,Yku rfl]
 | false=>
  rw [Yhu,Yju (by simp),Yhn s (by omega),Yiu]
  by_cases c:65536 < (Y22 s).length
  ·rw [show decide (((Y22 s).length:Int) > 65536)=true from Yeu (by omega),Ygu,Yku c]
  ·rw [show decide (((Y22 s).length:Int) > 65536)=false from Yfu (by omega),Yhu,Yju c]; rfl
theorem YDm (s:List UInt8) (sp:Bool):Yt9 (s,sp)=some (Yj1 s sp):=by
 rw [YCm,Ybl]
 unfold Yj1
 simp only
 by_cases a:65536 < s.length
 ·rw [show decide ((s.length:Int) > 65536)=true from Yeu (by omega),Ygu,Yku a]; rfl
 rw [show decide ((s.length:Int) > 65536)=false from Yfu (by omega),Yhu,Yju a,Yxt s sp (by omega),YWr s (by omega)]
 cases s with
 | nil=>
  rw [show (!(([]:List UInt8)==[]))=false from rfl,Yhu,Yju (by simp)]
  cases sp with
  | true=> rw [YEu,Yhu,Yku rfl]; rfl
  | false=> rw [YFu,Ygu,Yju (by simp),Yku rfl,show ((([]:List UInt8))==[])=true from rfl,Ygu]; rfl
 | cons b t=>
  have hlen:(b::t).length=t.length+1:=rfl
  have hne:((b::t)==([]:List UInt8))=false:=rfl
  have h0:(((UInt8.toNat (List.getD (b::t) (Int.toNat (0:Int)) (0:UInt8))):Nat):Int)=Y9 b:=rfl
  rw [hne,YFu,Ygu,Y65,Ygu,h0]
  by_cases c:b=91
  ·subst c
   have hw:IntKind.i64.wrap ((((91:UInt8)::t).length:Int) - 1)=((((91:UInt8)::t).length - 1:Nat):Int):=by rw [w64 (by omega) (by omega)]; omega
   rw [show (Y9 91==91)=true from rfl,Ygu,hw,Yj,Yeu (by omega),Ygu,Ymu,Yku (show ((91:UInt8)::t).head? =some 91 from rfl)]
   unfold YC4
   rw [YL7 _ (by omega)]
   generalize hgl:List.getD ((91:UInt8)::t) (((91:UInt8)::t).length - 1) 0=g
   by_cases d:g=93
   ·subst d
    rw [show ((((93:UInt8).toNat:Nat):Int) !=93)=false from rfl,Yhu,Yju (by simp)]
    by_cases e:((91:UInt8)::t).length < 2
    ·rw [show decide (((((91:UInt8)::t).length:Nat):Int) < 2)=true from Yeu (by omega),Ygu,Yku e]; rfl
    ·have hcut:Ym (some (1:Int)) (some ((((91:UInt8)::t).length - 1:Nat):Int)) ((91:UInt8)::t)=Y52 ((91:UInt8)::t):=YU4 1 _ _
     have hil:(Y52 ((91:UInt8)::t)).length<=65536:=by
      unfold Y52
      rw [Yzu,Yyu]; omega
     rw [show decide (((((91:UInt8)::t).length:Nat):Int) < 2)=false from Yfu (by omega),Yhu,Yju e,show Yi (some (1:Int)) (some ((((91:UInt8)::t).length - 1:Nat):Int)) ((91:UInt8)::t).length=true from YV4 (f:=1) (by omega) (by omega),Ygu,hcut,Yzm _ (by omega),Yiu,bne0]
     by_cases f:(v6Of (Y52 ((91:UInt8)::t))).2≠0
     ·rw [Yeu f,Ygu,Yku f]; rfl
     ·rw [Yfu f,Yhu,Yju f]; rfl
   ·have hb:((((g.toNat:Nat):Int)) !=93)=true:=bne_iff_ne.2 (fun h=> d (Ys3 (show Y9 g=Y9 93 from h)))
    rw [hb,Ygu,Yku (by simpa using d)]; rfl
  ·have hb:(Y9 b==91)=false:=Yqu.2 (fun h=> c (Ys3 (show Y9 b=Y9 91 from h)))
   rw [hb,Yhu,Yju (by simpa using c)]
   cases sp with
   | true=> rw [YEu,Yhu,Yku rfl]; rfl
   | false=> rw [YFu,Ygu,Yju (by simp),Yju (by simp),Yhu]; rfl
end Go.Abs
namespace Go.Abs
theorem YFt (s:List UInt8):Yn (s.map Y9)=s:=by
 unfold Yn
 rw [List.map_map,List.map_congr_left (f:=(fun n:Int=> UInt8.ofNat n.toNat)∘Y9) (g:=id) (fun b _=> Yy2 b),List.map_id]
theorem Y6u (s:List UInt8):YP (YZ3 s):=by
 intro r hr
 unfold YZ3 Yw6 at hr
 obtain ⟨x,hx,rfl⟩:=List.mem_map.1 hr
 exact Y2c s s.length 0 x hx
def Yyh (c:Int):Prop:=32<=c/\c<=126
instance (c:Int):Decidable (Yyh c):=by unfold Yyh; infer_instance
theorem YUp (c:Int) (h0:0<=c) (h1:c<=255):ctlSet.getD c.toNat false=decide (¬(32<=c/\c<=126)):=by
 have:(List.range 256).all (fun n=> ctlSet.getD n false==decide (¬(32<=(n:Int)/\(n:Int)<=126)))=true:=by kernel_rfl
 obtain ⟨n,rfl⟩:=Y6v h0
 have:=Y3v.1 this n (List.mem_range.2 (by omega))
 rw [Ymu]; exact Y7v.1 this
end Go.Abs
