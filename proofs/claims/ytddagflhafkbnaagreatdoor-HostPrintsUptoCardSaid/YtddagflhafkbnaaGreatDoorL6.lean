/- Part L6 of the proof: see the last text of the claim. No condition of its own. -/
import Derived.Test.YtddagflhafkbnaaGreatDoorL5
set_option linter.all false
set_option autoImplicit false
namespace Go.Abs
def dcut:List Int->List Int->List (List Int)
 | cur,[]=> [cur]
 | cur,r::l=> if dotI r=true then cur::dcut [] l else dcut (cur++[r]) l
theorem YO4:∀ (l cur:List Int),1<=(dcut cur l).length/\(dcut cur l).length<=l.length+1
 | [],cur=> by simp [dcut]
 | r::l,cur=> by
  unfold dcut
  split
  ·have:=YO4 l []; simp only [Yeu]; omega
  ·have:=YO4 l (cur++[r]); simp only [Yeu]; omega
theorem Yu7:∀ (l cur:List Int),∀ x∈dcut cur l,∀ r∈x,r∈cur\/(r∈l/\dotI r=false)
 | [],cur,x,hx,r,hr=> by rw [YEu.1 hx] at hr; exact .inl hr
 | r0::l,cur,x,hx,r,hr=> by
  unfold dcut at hx
  split at hx
  ·rcases Ylu.1 hx with rfl | hx
   ·exact .inl hr
   ·rcases Yu7 l [] x hx r hr with h | h
    ·cases h
    ·exact .inr ⟨List.mem_cons_of_mem _ h.1,h.2⟩
  ·rename_i hd
   rcases Yu7 l _ x hx r hr with h | h
   ·rcases Yru.1 h with h | h
    ·exact .inl h
    ·rw [YEu.1 h]; exact .inr ⟨by simp,by simpa using hd⟩
   ·exact .inr ⟨List.mem_cons_of_mem _ h.1,h.2⟩
theorem Yia:∀ (l cur:List Int),∀ x∈dcut cur l,x.length<=cur.length+l.length
 | [],cur,x,hx=> by rw [YEu.1 hx]; omega
 | r0::l,cur,x,hx=> by
  unfold dcut at hx
  split at hx
  ·rcases Ylu.1 hx with rfl | hx
   ·omega
   ·have:=Yia l [] x hx; simp only [Yeu,Yju] at*; omega
  ·have:=Yia l _ x hx
   simp only [Yfu,Yeu,Yju] at*; omega
theorem YVp (a b c:List UInt8):((a++b++c).take (a.length+b.length)).drop a.length=b:=by
 rw [List.take_left' (by rw [Yfu]),List.drop_left]
theorem YX8 (s:List UInt8) (hs:s.length<=65536):∀ (rest pre cur:List Int) (r:List (List UInt8)),YQ rest->s=Yb pre++Yb cur++Yb rest->r.length+rest.length<=70000->
  Zb4 s (((Yb pre).length:Nat):Int) s ((Yb pre).length+(Yb cur).length) r=Zc4 s (((r++(dcut cur rest).map Yb).length:Nat):Int) 0 (r++(dcut cur rest).map Yb)
 | [],pre,cur,r,hl,e,hr=> by
  have hlen:s.length=(Yb pre).length+(Yb cur).length:=by rw [e,YZ1,Yyu,Yfu]
  have hd:s.drop (Yb pre).length=Yb cur:=by rw [e,YZ1,Yyu,List.drop_left]
  rw [YPc,Y6u (by omega),Y8u,Yd1 (by omega),Y7u,YS1,hd,show decide (r.length+[Yb cur].length<=lim)=true from Y5u (by simp only [lim,Yeu,Yju]; simp only [Yju] at hr; omega),Y7u]
  rfl
 | x::rest,pre,cur,r,hl,e,hr=> by
  obtain ⟨h1,h2⟩:=Yt8 hl
  have hb:=Yk8 x
  have e':s=Yb pre++Yb cur++(rbs x++Yb rest):=by rw [e,Yw1]
  have hlen:s.length=(Yb pre).length+(Yb cur).length+((rbs x).length+(Yb rest).length):=by rw [e']; simp only [Yfu]
  have hd:s.drop ((Yb pre).length+(Yb cur).length)=rbs x++Yb rest:=by
   rw [e',List.drop_left' (by rw [Yfu])]
  have hra:=Ybi s ((Yb pre).length+(Yb cur).length) x h1 _ (by omega) hd
  have hwd:wd s ((Yb pre).length+(Yb cur).length)=(rbs x).length:=by unfold wd; rw [hra]; simp
  rw [YPc,Y5u (by omega),Y7u,Yd4,Ys3,hra,hwd,Yue,Y9u]
  dsimp only
  unfold dcut
  cases hdot:dotI x with
  | true=>
   have hm:Yl (some (((Yb pre).length:Nat):Int)) (some (((Yb pre).length+(Yb cur).length:Nat):Int)) s=Yb cur:=by
    rw [Yb4,e']; exact YVp _ _ _
   rw [Y7u,Ybu rfl,Yc4 (by omega) (by omega),Y7u,hm,show decide (r.length+[Yb cur].length<=lim)=true from Y5u (by simp only [lim,Yeu,Yju]; simp only [Yeu] at hr; omega),Y7u,Yhg x h1]
   have key:=YX8 s hs rest (pre++cur++[x]) [] (r++[Yb cur]) h2 (by rw [e',YL3,YL3,Yw1,YZ1]; simp only [Yyu,Ygu]) (by simp only [Yfu,Yeu,Yju] at hr ⊢; omega)
   have hp:(Yb (pre++cur++[x])).length=(Yb pre).length+(Yb cur).length+(rbs x).length:=by rw [YL3,YL3,Yw1,YZ1,Yyu]; simp only [Yfu]
   rw [hp,YZ1,Yju,Nat.add_zero] at key
   rw [w64 (by omega) (by omega),show (((Yb pre).length+(Yb cur).length:Nat):Int)+(((rbs x).length:Nat):Int)=(((Yb pre).length+(Yb cur).length+(rbs x).length:Nat):Int) from by omega,key,Ygu]
   rfl
  | false=>
   rw [Y8u,Yau (by simp)]
   have key:=YX8 s hs rest pre (cur++[x]) r h2 (by rw [e',YL3,Yw1,YZ1]; simp only [Yyu,Ygu]) (by simp only [Yeu] at hr ⊢; omega)
   rw [YL3,Yw1,YZ1,Yyu,Yfu,<-Nat.add_assoc] at key
   exact key
def Yv:Nat->List (List UInt8)->List (List UInt8)×Int
 | _,[]=> ([],0)
 | i,x::l=> if (YG x (l.isEmpty&&decide (0 < i))).2≠0 then ([],(YG x (l.isEmpty&&decide (0 < i))).2)
  else if (Yv (i+1) l).2≠0 then ([],(Yv (i+1) l).2) else ((YG x (l.isEmpty&&decide (0 < i))).1::(Yv (i+1) l).1,0)
def YD1 (y:List UInt8):List UInt8:=if y.getLast? =some 46 then y.dropLast else y
def Y72 (l:List (List UInt8)):List UInt8×Int:=if 253 < (YD1 (Lib.join l [46])).length then ([],5) else (Lib.join l [46],0)
def YF (s:List UInt8):List UInt8×Int:=
 if (YO1 s).1=false then ([],21) else if 65536 < s.length then ([],5) else if s=[] then ([],0)
 else if (Yv 0 ((dcut [] (Yq s)).map Yb)).2≠0 then ([],(Yv 0 ((dcut [] (Yq s)).map Yb)).2) else Y72 (Yv 0 ((dcut [] (Yq s)).map Yb)).1
theorem YG7 (s:List UInt8) (h:0 < s.length):s.getLast? =some (s.getD (s.length - 1) 0):=by
 rw [List.getLast?_eq_getElem?,Ymu,Ynu (by omega)]; rfl
theorem Yrm (y:List UInt8) (hy:y.length<=1073741824):Y8a (y,[46])=some (YD1 y):=by
 have e1:(([46]:List UInt8)).length=1:=rfl
 rw [Ygp,Y1l,Yan,YNj,Y8n,Yxj]
 simp only
 rw [e1,show (((1:Nat):Int))=1 from rfl,w64 (by omega) (by omega)]
 unfold YD1
 by_cases c:1<=y.length
 ·have ew:(y.length:Int) - 1=((y.length - 1:Nat):Int):=by omega
  rw [show decide ((y.length:Int)>=1)=true from Y5u (by omega),Y7u,ew,Yd1 (by omega),Y7u,YS1,Y9u]
  have hd:y.drop (y.length - 1)=[y.getD (y.length - 1) 0]:=by
   rw [Yiu (by omega),List.drop_eq_nil_of_le (by omega),Ymu,Ynu (by omega)]; rfl
  rw [hd,YG7 y c]
  generalize y.getD (y.length - 1) 0=z
  by_cases g:z=46
  ·rw [g,show (([46]:List UInt8)==[46])=true from rfl,Y7u,Ybu rfl,show Yi none (some ((y.length - 1:Nat):Int)) y.length=true from by simp [Yi],Y7u,Y9u,List.dropLast_eq_take]
   rfl
  ·rw [show ([z]==([46]:List UInt8))=false from by simp [g],Y8u,Yau (by simp [g])]; rfl
 ·have:y=[]:=List.eq_nil_of_length_eq_zero (by omega)
  subst this
  rfl
theorem Ygr (t:List UInt8) (last:Bool):((YB1 t last).2≠0/\(YB1 t last).1=[])\/(YB1 t last=(t,0)/\t.length<=63):=by
 unfold YB1
 by_cases a:63 < t.length
 ·rw [Ybu a]; exact .inl ⟨by simp,rfl⟩
 ·rw [Yau a]
  repeat' split
  all_goals first | exact .inl ⟨by simp,rfl⟩ | exact .inr ⟨rfl,by omega⟩
theorem Yhr (s:List UInt8) (last:Bool):((YG s last).2≠0/\(YG s last).1=[])\/((YG s last).2=0/\(YG s last).1.length<=63):=by
 have key:∀ t,((YB1 t last).2≠0/\(YB1 t last).1=[])\/((YB1 t last).2=0/\(YB1 t last).1.length<=63):=by
  intro t
  rcases Ygr t last with h | ⟨h1,h2⟩
  ·exact .inl h
  ·rw [h1]; exact .inr ⟨rfl,h2⟩
 unfold YG
 repeat' split
 all_goals first | exact .inl ⟨by simp,rfl⟩ | exact key _
theorem Y7h (n:Nat):∀ l:List (List UInt8),(∀ x∈l,x.length<=n)->Lib.lens l<=n*l.length
 | [],_=> by simp [Lib.lens]
 | x::l,h=> by
  have h1:=Y7h n l (fun y hy=> h y (by simp [hy]))
  have h2:=h x (by simp)
  unfold Lib.lens at h1 ⊢
  rw [Ysu,List.sum_cons,Yeu,Nat.mul_succ]; omega
theorem YZg (n:Nat) (l:List (List UInt8)) (h:∀ x∈l,x.length<=n):(Lib.join l [46]).length<=(n+1)*l.length:=by
 cases l with
 | nil=> simp [Lib.join_nil]
 | cons x r=>
  have:=Y7h n (x::r) h
  rw [Lib.join_length,Yeu,Yju,Nat.zero_add,Nat.one_mul,Nat.add_mul,Nat.one_mul]
  simp only [Yeu] at*; omega
theorem Ylc (s:List UInt8):∀ (todo don:List (List UInt8)),don.length+todo.length<=70000->(∀ x∈don,x.length<=63)->(∀ x∈todo,x.length<=1073741824)->
  Zc4 s (((don++todo).length:Nat):Int) (don.length:Int) (don++todo)=some (if (Yv don.length todo).2≠0 then ([],(Yv don.length todo).2) else Y72 (don++(Yv don.length todo).1))
 | [],don,hl,hd,ht=> by
  have hj:=YZg 63 don hd
  have hl:don.length<=70000:=by simpa using hl
  rw [YSc,Yg,Y6u (by simp),Y8u,Yyu,Y6a,Y93]
  simp only
  rw [Y5u (show don.length<=140737488355328 by omega),Y5u (show (Lib.join don [46]).length<=140737488355328 by omega),Bool.true_and,Y7u,Y9u,Yrm _ (by omega),Y9u]
  unfold Yv Y72
  rw [Yau (by simp),Yyu]
  by_cases c:253 < (YD1 (Lib.join don [46])).length
  ·rw [show decide (((YD1 (Lib.join don [46])).length:Int) > 253)=true from Y5u (by omega),Y7u,Ybu c]
  ·rw [show decide (((YD1 (Lib.join don [46])).length:Int) > 253)=false from Y6u (by omega),Y8u,Yau c]
 | x::todo,don,hl,hd,ht=> by
  have hi:don.length < (don++x::todo).length:=by rw [Yfu,Yeu]; omega
  have hll:(don++x::todo).length=don.length+todo.length+1:=by rw [Yfu,Yeu]; omega
  have hl:don.length+todo.length+1<=70000:=by simpa [Nat.add_assoc] using hl
  have hg:List.getD (don++x::todo) (Int.toNat (don.length:Int)) (Ty.zero .str)=x:=by
   rw [Ydu,Ymu,List.getElem?_append_right (by omega),Nat.sub_self]; rfl
  have hset:∀ y,List.set (don++x::todo) (Int.toNat (don.length:Int)) y=(don++[y])++todo:=by
   intro y
   rw [Ydu,List.set_append_right _ _ (by omega),Nat.sub_self,List.set_cons_zero,Ygu]; rfl
  have hw:IntKind.i64.wrap ((don.length:Int)+1)=((don.length+1:Nat):Int):=by rw [w64 (by omega) (by omega)]; omega
  have step:∀ b:Bool,((Yy5 (x,b)).bind fun y0=>
      bif (y0.2 !=(0:Int)) then
       some (([]:List UInt8),y0.2)
      else
       bif (Ya (don.length:Int) (List.length (don++x::todo))) then
        Zc4 s (((don++x::todo).length:Nat):Int) (IntKind.wrap IntKind.i64 ((don.length:Int)+(1:Int))) (List.set (don++x::todo) (Int.toNat (don.length:Int)) y0.1)
       else
        none)=some (if (YG x b).2≠0 then ([],(YG x b).2) else if (Yv (don.length+1) todo).2≠0 then ([],(Yv (don.length+1) todo).2) else Y72 (don++((YG x b).1::(Yv (don.length+1) todo).1))):=by
   intro b
   rw [YRm x b (ht x (by simp)),Y9u,bne0]
   rcases Yhr x b with ⟨h1,_⟩ | ⟨h1,h2⟩
   ·rw [Y5u h1,Y7u,Ybu h1]
   ·have h1':¬(YG x b).2≠0:=fun h=> h h1
    rw [Y6u h1',Y8u,Yau h1',Yj,Y5u hi,Y7u,hset,hw]
    have ih:=Ylc s todo (don++[(YG x b).1]) (by simp only [Yfu,Yeu,Yju]; omega) (fun y hy=> by
     rcases Yru.1 hy with hy | hy
     ·exact hd y hy
     ·rw [YEu.1 hy]; exact h2) (fun y hy=> ht y (by simp [hy]))
    have hlen:(don++[(YG x b).1]).length=don.length+1:=by simp
    rw [hlen,show ((don++[(YG x b).1])++todo).length=(don++x::todo).length from by simp only [Yfu,Yeu,Yju]; omega] at ih
    rw [ih]
    simp only [Ygu,List.singleton_append]
  rw [YSc,Yg,Y5u hi,Y7u,Yj,Y5u hi,Y7u,hg,w64 (by omega) (by omega)]
  rw [Yj,Y5u hi] at step
  rw [Yv]
  have fin:∀ b:Bool,b=(todo.isEmpty&&decide (0 < don.length))->(if (YG x b).2≠0 then (([]:List UInt8),(YG x b).2) else if (Yv (don.length+1) todo).2≠0 then ([],(Yv (don.length+1) todo).2) else Y72 (don++((YG x b).1::(Yv (don.length+1) todo).1)))=
    (if (if (YG x (todo.isEmpty&&decide (0 < don.length))).2≠0 then (([]:List (List UInt8)),(YG x (todo.isEmpty&&decide (0 < don.length))).2) else if (Yv (don.length+1) todo).2≠0 then ([],(Yv (don.length+1) todo).2) else ((YG x (todo.isEmpty&&decide (0 < don.length))).1::(Yv (don.length+1) todo).1,0)).2≠0 then ([],(if (YG x (todo.isEmpty&&decide (0 < don.length))).2≠0 then (([]:List (List UInt8)),(YG x (todo.isEmpty&&decide (0 < don.length))).2) else if (Yv (don.length+1) todo).2≠0 then ([],(Yv (don.length+1) todo).2) else ((YG x (todo.isEmpty&&decide (0 < don.length))).1::(Yv (don.length+1) todo).1,0)).2)
     else Y72 (don++(if (YG x (todo.isEmpty&&decide (0 < don.length))).2≠0 then (([]:List (List UInt8)),(YG x (todo.isEmpty&&decide (0 < don.length))).2) else if (Yv (don.length+1) todo).2≠0 then ([],(Yv (don.length+1) todo).2) else ((YG x (todo.isEmpty&&decide (0 < don.length))).1::(Yv (don.length+1) todo).1,0)).1)):=by
   rintro b rfl
   by_cases c:(YG x (todo.isEmpty&&decide (0 < don.length))).2≠0
   ·rw [Ybu c,Ybu c,Ybu c]
   ·rw [Yau c,Yau c]
    by_cases d:(Yv (don.length+1) todo).2≠0
    ·rw [Ybu d,Ybu d,Ybu d]
    ·rw [Yau d,Yau d,Yau (by simp)]
  cases todo with
  | nil=>
   rw [show ((don.length:Int)==(((don++[x]).length:Nat):Int) - 1)=true from beq_iff_eq.2 (by simp),Y7u,step,show decide ((don.length:Int) > 0)=decide (0 < don.length) from by by_cases h:0 < don.length <;> simp [h],fin _ (by simp)]
  | cons z todo=>
   rw [show ((don.length:Int)==(((don++x::z::todo).length:Nat):Int) - 1)=false from Yhu.2 (by simp only [Yfu,Yeu]; omega),Y8u,step,fin _ (by simp)]
theorem YFm (s:List UInt8):Y04 s=some (YF s):=by
 rw [YEm,Y9k,YGf,Y9u]
 unfold YF
 cases hv:(YO1 s).1 with
 | false=> rw [Ywu,Y7u,Ybu rfl]
 | true=>
  rw [Yvu,Y8u,Yau (by simp)]
  by_cases c:65536 < s.length
  ·rw [show decide ((s.length:Int) > 65536)=true from Y5u (by omega),Y7u,Ybu c]
  ·rw [show decide ((s.length:Int) > 65536)=false from Y6u (by omega),Y8u,Yau c]
   by_cases d:s=[]
   ·rw [show (s==[])=true from by rw [d]; rfl,Y7u,Ybu d]
   ·have hsl:=YH3 s
    have hdl:=YO4 (Yq s) []
    have h1:=YX8 s (by omega) (Yq s) [] [] [] (Ys8 s) (by rw [Yyi s hv]; rfl) (by simp only [Yju]; omega)
    have h2:=Ylc s ((dcut [] (Yq s)).map Yb) [] (by simp only [Yju,List.length_map]; omega) (fun x hx=> by cases hx) (fun x hx=> by
     obtain ⟨y,hy,rfl⟩:=List.mem_map.1 hx
     have:=Yia _ _ y hy
     have:=YVb y
     simp only [Yju] at*; omega)
    rw [show (s==[])=false from by simpa using d,Y8u,Yau d]
    rw [YZ1,Yju,Nat.add_zero,Yzu] at h1
    rw [Yzu,Yju,Yzu] at h2
    rw [show ((0:Nat):Int)=0 from rfl] at h1 h2
    rw [h1,h2]
end Go.Abs
namespace Go.Abs
def tok (t:List UInt8):Prop:=∀ b∈t,okI (Y8 b)
def YE8 (l:List Int):Prop:=∀ r∈l,dotI r=false
theorem YRr {c:Int} (h:okI c):lowI c=c:=by rw [Yt2,Yau h.2.2.2]
theorem Y8q {r:Int} (h:dotI r=false):r≠46:=by rintro rfl; cases h
theorem YSr {c:Int} (h:okI c):dotI c=false:=by
 have h1:=h.2.1
 have h2:=h.2.2.1
 unfold dotI
 rw [Yhu.2 h2,Yhu.2 (show c≠12290 by omega),Yhu.2 (show c≠65294 by omega),Yhu.2 (show c≠65377 by omega)]; rfl
theorem YIt {t:List UInt8} (h:tok t):lowS t=t:=by
 unfold lowS
 rw [List.map_congr_left (g:=id) (fun b hb=> Yl3 (by rw [Yi9,YRr (h b hb)]; rfl)),List.map_id]
theorem YWb {t:List UInt8} (h:tok t):∀ b∈t,Y8 b < 128:=fun b hb=> (h b hb).2.1
theorem YHt {t:List UInt8} (h:tok t):has t 65533=false:=by
 unfold has
 rw [Yn5 t (YWb h),List.any_eq_false]
 intro r hr
 obtain ⟨b,hb,rfl⟩:=List.mem_map.1 hr
 have:=YWb h b hb
 simp only [beq_iff_eq]; omega
theorem YJt {t:List UInt8} (h:tok t):YE8 (t.map Y8):=by
 intro r hr
 obtain ⟨b,hb,rfl⟩:=List.mem_map.1 hr
 exact YSr (h b hb)
theorem YFr {r:Int} (h0:scal r=true) (h1:dotI r=false) (h2:lowI r < 128):okI (lowI r):=by
 have hr:=YC2 h0
 have:=Y8q h1
 rw [Yt2] at h2 ⊢
 unfold okI
 split at h2
 ·rw [Ybu (by assumption)]; omega
 ·rw [Yau (by assumption)]; omega
theorem Y2u:tok xn:=by
 intro b hb
 have:∀ b∈xn,okI (Y8 b):=by decide
 exact this b hb
theorem Ykr (s t:List UInt8) (hs:∀ r∈Yq s,r < 128->okI r) (hb:Yc1 s=false) (h:Yr s=(t,0)):tok t:=by
 unfold Yr at h
 split at h
 ·rename_i c; exact absurd (congrArg Prod.snd h) c
 ·rw [hb,Yau (by simp)] at h
  have:=congrArg Prod.fst h
  dsimp only at this
  subst this
  intro b hb
  rcases Yru.1 hb with hb | hb
  ·exact Y2u b hb
  ·exact Y5j s hs b hb
theorem YDt {t:List UInt8} (ht:tok t):tok (t.take 4):=fun b hb=> ht b (List.mem_of_mem_take hb)
def Y81 {α:Type} (d:α):List (List α)->List α
 | []=> []
 | [x]=> x
 | x::y::l=> x++d::Y81 d (y::l)
theorem YLa (sep:UInt8):∀ l:List (List UInt8),Lib.join l [sep]=Y81 sep l
 | []=> Lib.join_nil _
 | [x]=> Lib.join_one x _
 | x::y::l=> by
  rw [Lib.join_cons,Y81,<-YLa sep (y::l),Lib.join_cons]
  simp [Lib.joinTail]
theorem YLt (y:List UInt8):y.length<=(YD1 y).length+1:=by
 unfold YD1; split
 ·rw [List.length_dropLast]; omega
 ·omega
theorem Ydm:YF []=([],0):=by
 unfold YF
 rw [Yau (by rw [YLi [] (fun b hb=> by cases hb)]; simp),Yau (by simp),Ybu rfl]
end Go.Abs
namespace Go.Abs
def hnil:D35:=((0:Int),(([]:List UInt8),((0:Int),z8)))
theorem YN7:((Ty.zero (.int .i64)),((Ty.zero .str),((Ty.zero (.int .u32)),(Ty.zero (.arr 8 (.int .u16))))))=hnil:=rfl
def badB (b:UInt8):Bool:=decide (Y8 b < 32)||(Y8 b==37||(Y8 b==127||Y51 (Y8 b)))
theorem Yvq:(List.range 256).all (fun n=> decide (Lib.indexByte forb (UInt8.ofNat (n:Int).toNat)>=0)==Y51 (n:Int))=true:=by kernel_rfl
theorem Ywq (b:UInt8):decide (Lib.indexByte forb (UInt8.ofNat (Y8 b).toNat)>=0)=Y51 (Y8 b):=by
 have h:=YI2 b
 obtain ⟨n,hn⟩:=Int.eq_ofNat_of_zero_le h.1
 have:=List.all_eq_true.1 Yvq n (List.mem_range.2 (by omega))
 rw [hn]
 exact beq_iff_eq.1 this
def Yf2 (name:List UInt8):D35×Int:=
 if YZ2 name=true then (if (ipOf name).2≠0 then (hnil,(ipOf name).2) else (((2:Int),(([]:List UInt8),((ipOf name).1,z8))),0)) else (((1:Int),(name,((0:Int),z8))),0)
def Yb3 (s:List UInt8):D35×Int:=
 if (YF (YN s)).2≠0 then (hnil,(YF (YN s)).2) else if (YF (YN s)).1=[] then (hnil,51)
 else if (YF (YN s)).1.any badB=true then (hnil,52) else Yf2 (YF (YN s)).1
def Y73 (s:List UInt8):D35×Int:=
 if Yw3 s=true then (hnil,52) else if 65536 < (Y22 s).length then (hnil,5) else (((4:Int),(Y22 s,((0:Int),z8))),0)
def Y62 (s:List UInt8):List UInt8:=(s.take (s.length - 1)).drop 1
def Yw4 (s:List UInt8):D35×Int:=
 if s.getLast? ≠some 93 then (hnil,51) else if s.length < 2 then (hnil,51) else if (v6Of (Y62 s)).2≠0 then (hnil,(v6Of (Y62 s)).2)
 else (((3:Int),(([]:List UInt8),((0:Int),(v6Of (Y62 s)).1))),0)
def Yk1 (s:List UInt8) (sp:Bool):D35×Int:=
 if 65536 < s.length then (hnil,5) else if s.head? =some 91 then Yw4 s
 else if sp=true then Yb3 s else if s=[] then (((5:Int),(([]:List UInt8),((0:Int),z8))),0) else Y73 s
theorem Y9g (s:List UInt8) (sp:Bool) (name:List UInt8) (hn:name.length<=65536):∀ (n i:Nat),i+n=name.length->Z94 s sp name (name.length:Int) (i:Int) hnil=some (if (name.drop i).any badB=true then (hnil,52) else Yf2 name)
 | 0,i,h=> by
  have:i=name.length:=by omega
  subst this
  rw [YLc,Yg,Y6u (Yxu _),Y8u,List.drop_length,Yau (by simp),Yvm name (by omega),Y9u]
  unfold Yf2
  cases YZ2 name with
  | false=> rw [Y8u,Yau (by simp)]; rfl
  | true=>
   rw [Y7u,Ybu rfl,Yxm name (by omega),Y9u,bne0]
   by_cases c:(ipOf name).2≠0
   ·rw [Y5u c,Y7u,Ybu c]; rfl
   ·rw [Y6u c,Y8u,Yau c]; rfl
 | n+1,i,h=> by
  have hi:i < name.length:=by omega
  have hw:IntKind.i64.wrap ((i:Int)+1)=((i+1:Nat):Int):=by rw [w64 (by omega) (by omega)]; omega
  have hg:(((UInt8.toNat (List.getD name (Int.toNat (i:Int)) (0:UInt8))):Nat):Int)=Y8 name[i]:=by
   rw [Ydu,Ymu,Ynu hi]; rfl
  rw [YLc,Yg,Y5u hi,Y7u,Yj,Y5u hi,Y7u,hg,hw,Yiu hi,List.any_cons,Y9g s sp name hn n (i+1) (by omega),YK4,Yz2]
  have e:badB name[i]=(decide (Y8 name[i] < 32)||(Y8 name[i]==37||(Y8 name[i]==127||Y51 (Y8 name[i])))):=rfl
  rw [e]
  have key:((some (Lib.indexByte forb (UInt8.ofNat (Y8 name[i]).toNat))).bind fun y0=> bif (decide (y0>=(0:Int))) then some (hnil,(52:Int)) else some (if (name.drop (i+1)).any badB=true then (hnil,(52:Int)) else Yf2 name))=some (if (Y51 (Y8 name[i])||(name.drop (i+1)).any badB)=true then (hnil,52) else Yf2 name):=by
   rw [Y9u,Ywq]
   cases Y51 (Y8 name[i]) with
   | true=> rw [Y7u,Yuu,Ybu rfl]
   | false=> rw [Y8u,Ytu]
  cases decide (Y8 name[i] < 32) with
  | true=> rw [Y7u,Yuu,Yuu,Ybu rfl]; rfl
  | false=>
   rw [Y8u,Ytu]
   cases (Y8 name[i]==37) with
   | true=> rw [Y7u,Yuu,Yuu,Ybu rfl]; rfl
   | false=>
    rw [Y8u,Ytu]
    cases (Y8 name[i]==127) with
    | true=> rw [Y7u,Yuu,Yuu,Ybu rfl]; rfl
    | false=>
     rw [Y8u,Ytu]
     exact key
theorem Y9r (l:List (List UInt8)):(Y72 l).1.length<=254:=by
 unfold Y72
 split
 ·simp
 ·have:=YLt (Lib.join l [46])
  dsimp only; omega
theorem Ybe (s:List UInt8):(YF s).1.length<=254:=by
 unfold YF
 repeat' split
 all_goals first | exact Y9r _ | simp
theorem Yvt (s:List UInt8) (sp:Bool) (hs:s.length<=65536):((Y24 s).bind fun y0=>
         (Y04 y0).bind fun y1=>
          bif (y1.2 !=(0:Int)) then
           some (((Ty.zero (.int .i64)),((Ty.zero .str),((Ty.zero (.int .u32)),(Ty.zero (.arr 8 (.int .u16)))))),y1.2)
          else
           bif (y1.1==([]:List UInt8)) then
            some (((Ty.zero (.int .i64)),((Ty.zero .str),((Ty.zero (.int .u32)),(Ty.zero (.arr 8 (.int .u16)))))),(51:Int))
           else
            Z94 s sp y1.1 (((List.length y1.1):Nat):Int) (0:Int) ((Ty.zero (.int .i64)),((Ty.zero .str),((Ty.zero (.int .u32)),(Ty.zero (.arr 8 (.int .u16)))))))=some (Yb3 s):=by
 have hl:=Ybe (YN s)
 rw [YN7,Ykn s (by omega),Y9u,YFm,Y9u,bne0]
 unfold Yb3
 by_cases c:(YF (YN s)).2≠0
 ·rw [Y5u c,Y7u,Ybu c]
 ·rw [Y6u c,Y8u,Yau c]
  by_cases d:(YF (YN s)).1=[]
  ·rw [show ((YF (YN s)).1==[])=true from by rw [d]; rfl,Y7u,Ybu d]
  ·have:=Y9g s sp (YF (YN s)).1 (by omega) (YF (YN s)).1.length 0 (by omega)
   rw [show ((0:Nat):Int)=0 from rfl,List.drop_zero] at this
   rw [show ((YF (YN s)).1==[])=false from by simpa using d,Y8u,Yau d,this]
theorem YXr (s:List UInt8) (hs:s.length<=65536):((Y64 (s,([(0:UInt8),(9:UInt8),(10:UInt8),(13:UInt8),(32:UInt8),(35:UInt8),(47:UInt8),(58:UInt8),(60:UInt8),(62:UInt8),(63:UInt8),(64:UInt8),(91:UInt8),(92:UInt8),(93:UInt8),(94:UInt8),(124:UInt8)]:List UInt8))).bind fun y0=>
         bif y0 then
          some (((Ty.zero (.int .i64)),((Ty.zero .str),((Ty.zero (.int .u32)),(Ty.zero (.arr 8 (.int .u16)))))),(52:Int))
         else
          (Y34 ((1:Int),s)).bind fun y1=>
           bif (decide ((((List.length y1.1):Nat):Int) > (65536:Int))) then
            some (((Ty.zero (.int .i64)),((Ty.zero .str),((Ty.zero (.int .u32)),(Ty.zero (.arr 8 (.int .u16)))))),(5:Int))
           else
            some (((4:Int),(y1.1,((Ty.zero (.int .u32)),(Ty.zero (.arr 8 (.int .u16)))))),(0:Int)))=some (Y73 s):=by
 rw [show ([(0:UInt8),(9:UInt8),(10:UInt8),(13:UInt8),(32:UInt8),(35:UInt8),(47:UInt8),(58:UInt8),(60:UInt8),(62:UInt8),(63:UInt8),(64:UInt8),(91:UInt8),(92:UInt8),(93:UInt8),(94:UInt8),(124:UInt8)]:List UInt8)=forb from rfl,YVi s (by omega),Y9u,YN7]
 unfold Y73
 cases Yw3 s with
 | true=> rw [Y7u,Ybu rfl]
 | false=>
  rw [Y8u,Yau (by simp),Ynn s (by omega),Y9u]
  by_cases c:65536 < (Y22 s).length
  ·rw [show decide (((Y22 s).length:Int) > 65536)=true from Y5u (by omega),Y7u,Ybu c]
  ·rw [show decide (((Y22 s).length:Int) > 65536)=false from Y6u (by omega),Y8u,Yau c]; rfl
theorem YDm (s:List UInt8) (sp:Bool):Yp9 (s,sp)=some (Yk1 s sp):=by
 rw [YCm,YZj]
 unfold Yk1
 simp only
 by_cases a:65536 < s.length
 ·rw [show decide ((s.length:Int) > 65536)=true from Y5u (by omega),Y7u,Ybu a]; rfl
 rw [show decide ((s.length:Int) > 65536)=false from Y6u (by omega),Y8u,Yau a,Yvt s sp (by omega),YXr s (by omega)]
 cases s with
 | nil=>
  rw [show (!(([]:List UInt8)==[]))=false from rfl,Y8u,Yau (by simp)]
  cases sp with
  | true=> rw [Yvu,Y8u,Ybu rfl]; rfl
  | false=> rw [Ywu,Y7u,Yau (by simp),Ybu rfl,show ((([]:List UInt8))==[])=true from rfl,Y7u]; rfl
 | cons b t=>
  have hlen:(b::t).length=t.length+1:=rfl
  have hne:((b::t)==([]:List UInt8))=false:=rfl
  have h0:(((UInt8.toNat (List.getD (b::t) (Int.toNat (0:Int)) (0:UInt8))):Nat):Int)=Y8 b:=rfl
  rw [hne,Ywu,Y7u,Y05,Y7u,h0]
  by_cases c:b=91
  ·subst c
   have hw:IntKind.i64.wrap ((((91:UInt8)::t).length:Int) - 1)=((((91:UInt8)::t).length - 1:Nat):Int):=by rw [w64 (by omega) (by omega)]; omega
   rw [show (Y8 91==91)=true from rfl,Y7u,hw,Yj,Y5u (by omega),Y7u,Ydu,Ybu (show ((91:UInt8)::t).head? =some 91 from rfl)]
   unfold Yw4
   rw [YG7 _ (by omega)]
   generalize hgl:List.getD ((91:UInt8)::t) (((91:UInt8)::t).length - 1) 0=g
   by_cases d:g=93
   ·subst d
    rw [show ((((93:UInt8).toNat:Nat):Int) !=93)=false from rfl,Y8u,Yau (by simp)]
    by_cases e:((91:UInt8)::t).length < 2
    ·rw [show decide (((((91:UInt8)::t).length:Nat):Int) < 2)=true from Y5u (by omega),Y7u,Ybu e]; rfl
    ·have hcut:Yl (some (1:Int)) (some ((((91:UInt8)::t).length - 1:Nat):Int)) ((91:UInt8)::t)=Y62 ((91:UInt8)::t):=Yb4 1 _ _
     have hil:(Y62 ((91:UInt8)::t)).length<=65536:=by
      unfold Y62
      rw [Yqu,Ypu]; omega
     rw [show decide (((((91:UInt8)::t).length:Nat):Int) < 2)=false from Y6u (by omega),Y8u,Yau e,show Yi (some (1:Int)) (some ((((91:UInt8)::t).length - 1:Nat):Int)) ((91:UInt8)::t).length=true from Yc4 (f:=1) (by omega) (by omega),Y7u,hcut,Yzm _ (by omega),Y9u,bne0]
     by_cases f:(v6Of (Y62 ((91:UInt8)::t))).2≠0
     ·rw [Y5u f,Y7u,Ybu f]; rfl
     ·rw [Y6u f,Y8u,Yau f]; rfl
   ·have hb:((((g.toNat:Nat):Int)) !=93)=true:=bne_iff_ne.2 (fun h=> d (Yl3 (show Y8 g=Y8 93 from h)))
    rw [hb,Y7u,Ybu (by simpa using d)]; rfl
  ·have hb:(Y8 b==91)=false:=Yhu.2 (fun h=> c (Yl3 (show Y8 b=Y8 91 from h)))
   rw [hb,Y8u,Yau (by simpa using c)]
   cases sp with
   | true=> rw [Yvu,Y8u,Ybu rfl]; rfl
   | false=> rw [Ywu,Y7u,Yau (by simp),Yau (by simp),Y8u]; rfl
end Go.Abs
namespace Go.Abs
theorem YBt (s:List UInt8):Ym (s.map Y8)=s:=by
 unfold Ym
 rw [List.map_map,List.map_congr_left (f:=(fun n:Int=> UInt8.ofNat n.toNat)∘Y8) (g:=id) (fun b _=> Yw2 b),List.map_id]
theorem YYt (s:List UInt8):YQ (YS3 s):=by
 intro r hr
 unfold YS3 Yl6 at hr
 obtain ⟨x,hx,rfl⟩:=List.mem_map.1 hr
 exact Y2c s s.length 0 x hx
def YOh (c:Int):Prop:=32<=c/\c<=126
instance (c:Int):Decidable (YOh c):=by unfold YOh; infer_instance
theorem YUp (c:Int) (h0:0<=c) (h1:c<=255):ctlSet.getD c.toNat false=decide (¬(32<=c/\c<=126)):=by
 have:(List.range 256).all (fun n=> ctlSet.getD n false==decide (¬(32<=(n:Int)/\(n:Int)<=126)))=true:=by kernel_rfl
 obtain ⟨n,rfl⟩:=Int.eq_ofNat_of_zero_le h0
 have:=List.all_eq_true.1 this n (List.mem_range.2 (by omega))
 rw [Ydu]; exact beq_iff_eq.1 this
end Go.Abs
