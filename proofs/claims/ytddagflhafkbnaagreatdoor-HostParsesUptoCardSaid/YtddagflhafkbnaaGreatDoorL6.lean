/- Part L6 of the proof: see the last text of the claim. No condition of its own. -/
import Derived.Test.YtddagflhafkbnaaGreatDoorL5
set_option linter.all false
namespace Go.Abs
set_option autoImplicit false

def dcut:List Int→List Int→List (List Int)
  | cur,[]=> [cur]
  | cur,r::l=> if dotI r=true then cur::dcut [] l else dcut (cur++[r]) l
theorem Ys4:∀ (l cur:List Int),1≤(dcut cur l).length∧(dcut cur l).length≤l.length+1
  | [],cur=> by simp [dcut]
  | r::l,cur=> by
    unfold dcut
    split
    · have:=Ys4 l []; simp only [Yqr]; omega
    · have:=Ys4 l (cur++[r]); simp only [Yqr]; omega
theorem YV6:∀ (l cur:List Int),∀ x∈dcut cur l,∀ r∈x,r∈cur∨(r∈l∧dotI r=false)
  | [],cur,x,hx,r,hr=> by rw [YQr.1 hx] at hr; exact .inl hr
  | r0::l,cur,x,hx,r,hr=> by
    unfold dcut at hx
    split at hx
    · rcases Yxr.1 hx with rfl | hx
      · exact .inl hr
      · rcases YV6 l [] x hx r hr with h | h
        · cases h
        · exact .inr ⟨List.mem_cons_of_mem _ h.1,h.2⟩
    · rename_i hd
      rcases YV6 l _ x hx r hr with h | h
      · rcases YDr.1 h with h | h
        · exact .inl h
        · rw [YQr.1 h]; exact .inr ⟨by simp,by simpa using hd⟩
      · exact .inr ⟨List.mem_cons_of_mem _ h.1,h.2⟩
theorem Yu9:∀ (l cur:List Int),∀ x∈dcut cur l,x.length≤cur.length+l.length
  | [],cur,x,hx=> by rw [YQr.1 hx]; omega
  | r0::l,cur,x,hx=> by
    unfold dcut at hx
    split at hx
    · rcases Yxr.1 hx with rfl | hx
      · omega
      · have:=Yu9 l [] x hx; simp only [Yqr,Yvr] at*; omega
    · have:=Yu9 l _ x hx
      simp only [Yrr,Yqr,Yvr] at*; omega

theorem YAn (a b c:List UInt8):((a++b++c).take (a.length+b.length)).drop a.length=b:=by
  rw [List.take_left' (by rw [Yrr]),List.drop_left]
theorem Yh8 (s:List UInt8) (hs:s.length≤65536):∀ (rest pre cur:List Int) (r:List (List UInt8)),YN rest→s=Yb pre++Yb cur++Yb rest→r.length+rest.length≤70000→
    Zd4 s (((Yb pre).length:Nat):Int) s ((Yb pre).length+(Yb cur).length) r=Ze4 s (((r++(dcut cur rest).map Yb).length:Nat):Int) 0 (r++(dcut cur rest).map Yb)
  | [],pre,cur,r,hl,e,hr=> by
    have hlen:s.length=(Yb pre).length+(Yb cur).length:=by rw [e,YS1,YKr,Yrr]
    have hd:s.drop (Yb pre).length=Yb cur:=by rw [e,YS1,YKr,List.drop_left]
    rw [YWb,Yir (by omega),Ykr,Yj1 (by omega),Yjr,YN1,hd,show decide (r.length+[Yb cur].length≤lim)=true from Yhr (by simp only [lim,Yqr,Yvr]; simp only [Yvr] at hr; omega),Yjr]
    rfl
  | x::rest,pre,cur,r,hl,e,hr=> by
    obtain ⟨h1,h2⟩:=YP7 hl
    have hb:=YG7 x
    have e':s=Yb pre++Yb cur++(rbs x++Yb rest):=by rw [e,Yr1]
    have hlen:s.length=(Yb pre).length+(Yb cur).length+((rbs x).length+(Yb rest).length):=by rw [e']; simp only [Yrr]
    have hd:s.drop ((Yb pre).length+(Yb cur).length)=rbs x++Yb rest:=by
      rw [e',List.drop_left' (by rw [Yrr])]
    have hra:=YMg s ((Yb pre).length+(Yb cur).length) x h1 _ (by omega) hd
    have hwd:wd s ((Yb pre).length+(Yb cur).length)=(rbs x).length:=by unfold wd; rw [hra]; simp
    rw [YWb,Yhr (by omega),Yjr,YP3,Ya3,hra,hwd,Ynd,Ylr]
    dsimp only
    unfold dcut
    cases hdot:dotI x with
    | true=>
      have hm:Yl (some (((Yb pre).length:Nat):Int)) (some (((Yb pre).length+(Yb cur).length:Nat):Int)) s=Yb cur:=by
        rw [Yq4,e']; exact YAn _ _ _
      rw [Yjr,Ynr rfl,Yr4 (by omega) (by omega),Yjr,hm,show decide (r.length+[Yb cur].length≤lim)=true from Yhr (by simp only [lim,Yqr,Yvr]; simp only [Yqr] at hr; omega),Yjr,YZe x h1]
      have key:=Yh8 s hs rest (pre++cur++[x]) [] (r++[Yb cur]) h2 (by rw [e',Ys3,Ys3,Yr1,YS1]; simp only [YKr,Ysr]) (by simp only [Yrr,Yqr,Yvr] at hr ⊢; omega)
      have hp:(Yb (pre++cur++[x])).length=(Yb pre).length+(Yb cur).length+(rbs x).length:=by rw [Ys3,Ys3,Yr1,YS1,YKr]; simp only [Yrr]
      rw [hp,YS1,Yvr,Nat.add_zero] at key
      rw [w64 (by omega) (by omega),show (((Yb pre).length+(Yb cur).length:Nat):Int)+(((rbs x).length:Nat):Int)=(((Yb pre).length+(Yb cur).length+(rbs x).length:Nat):Int) from by omega,key,Ysr]
      rfl
    | false=>
      rw [Ykr,Ymr (by simp)]
      have key:=Yh8 s hs rest pre (cur++[x]) r h2 (by rw [e',Ys3,Yr1,YS1]; simp only [YKr,Ysr]) (by simp only [Yqr] at hr ⊢; omega)
      rw [Ys3,Yr1,YS1,YKr,Yrr,←Nat.add_assoc] at key
      exact key

def Yw:Nat→List (List UInt8)→List (List UInt8)×Int
  | _,[]=> ([],0)
  | i,x::l=> if (YG x (l.isEmpty&&decide (0 < i))).2≠0 then ([],(YG x (l.isEmpty&&decide (0 < i))).2)
    else if (Yw (i+1) l).2≠0 then ([],(Yw (i+1) l).2) else ((YG x (l.isEmpty&&decide (0 < i))).1::(Yw (i+1) l).1,0)
def Yz1 (y:List UInt8):List UInt8:=if y.getLast? =some 46 then y.dropLast else y
def YX1 (l:List (List UInt8)):List UInt8×Int:=if 253 < (Yz1 (Lib.join l [46])).length then ([],5) else (Lib.join l [46],0)
def YY (s:List UInt8):List UInt8×Int:=
  if (YJ1 s).1=false then ([],21) else if 65536 < s.length then ([],5) else if s=[] then ([],0)
  else if (Yw 0 ((dcut [] (Yq s)).map Yb)).2≠0 then ([],(Yw 0 ((dcut [] (Yq s)).map Yb)).2) else YX1 (Yw 0 ((dcut [] (Yq s)).map Yb)).1
theorem Y57 (s:List UInt8) (h:0 < s.length):s.getLast? =some (s.getD (s.length - 1) 0):=by
  rw [List.getLast?_eq_getElem?,Yyr,Yzr (by omega)]; rfl
theorem Yqk (y:List UInt8) (hy:y.length≤1073741824):Yk9 (y,[46])=some (Yz1 y):=by
  have e1:(([46]:List UInt8)).length=1:=rfl
  rw [YXm,Ynj,YYk,Ymi,YWk,Y9i]
  simp only
  rw [e1,show (((1:Nat):Int))=1 from rfl,w64 (by omega) (by omega)]
  unfold Yz1
  by_cases c:1≤y.length
  · have ew:(y.length:Int) - 1=((y.length - 1:Nat):Int):=by omega
    rw [show decide ((y.length:Int)≥1)=true from Yhr (by omega),Yjr,ew,Yj1 (by omega),Yjr,YN1,Ylr]
    have hd:y.drop (y.length - 1)=[y.getD (y.length - 1) 0]:=by
      rw [Yur (by omega),List.drop_eq_nil_of_le (by omega),Yyr,Yzr (by omega)]; rfl
    rw [hd,Y57 y c]
    generalize y.getD (y.length - 1) 0=z
    by_cases g:z=46
    · rw [g,show (([46]:List UInt8)==[46])=true from rfl,Yjr,Ynr rfl,show Yi none (some ((y.length - 1:Nat):Int)) y.length=true from by simp [Yi],Yjr,Ylr,List.dropLast_eq_take]
      rfl
    · rw [show ([z]==([46]:List UInt8))=false from by simp [g],Ykr,Ymr (by simp [g])]; rfl
  · have:y=[]:=List.eq_nil_of_length_eq_zero (by omega)
    subst this
    rfl
theorem YHo (t:List UInt8) (last:Bool):((Yw1 t last).2≠0∧(Yw1 t last).1=[])∨(Yw1 t last=(t,0)∧t.length≤63):=by
  unfold Yw1
  by_cases a:63 < t.length
  · rw [Ynr a]; exact .inl ⟨by simp,rfl⟩
  · rw [Ymr a]
    repeat' split
    all_goals first | exact .inl ⟨by simp,rfl⟩ | exact .inr ⟨rfl,by omega⟩
theorem YIo (s:List UInt8) (last:Bool):((YG s last).2≠0∧(YG s last).1=[])∨((YG s last).2=0∧(YG s last).1.length≤63):=by
  have key:∀ t,((Yw1 t last).2≠0∧(Yw1 t last).1=[])∨((Yw1 t last).2=0∧(Yw1 t last).1.length≤63):=by
    intro t
    rcases YHo t last with h | ⟨h1,h2⟩
    · exact .inl h
    · rw [h1]; exact .inr ⟨rfl,h2⟩
  unfold YG
  repeat' split
  all_goals first | exact .inl ⟨by simp,rfl⟩ | exact key _
theorem YIf (n:Nat):∀ l:List (List UInt8),(∀ x∈l,x.length≤n)→Lib.lens l≤n*l.length
  | [],_=> by simp [Lib.lens]
  | x::l,h=> by
    have h1:=YIf n l (fun y hy=> h y (by simp [hy]))
    have h2:=h x (by simp)
    unfold Lib.lens at h1 ⊢
    rw [YEr,List.sum_cons,Yqr,Nat.mul_succ]; omega
theorem YBf (n:Nat) (l:List (List UInt8)) (h:∀ x∈l,x.length≤n):(Lib.join l [46]).length≤(n+1)*l.length:=by
  cases l with
  | nil=> simp [Lib.join_nil]
  | cons x r=>
    have:=YIf n (x::r) h
    rw [Lib.join_length,Yqr,Yvr,Nat.zero_add,Nat.one_mul,Nat.add_mul,Nat.one_mul]
    simp only [Yqr] at*; omega
theorem Yqb (s:List UInt8):∀ (todo don:List (List UInt8)),don.length+todo.length≤70000→(∀ x∈don,x.length≤63)→(∀ x∈todo,x.length≤1073741824)→
    Ze4 s (((don++todo).length:Nat):Int) (don.length:Int) (don++todo)=some (if (Yw don.length todo).2≠0 then ([],(Yw don.length todo).2) else YX1 (don++(Yw don.length todo).1))
  | [],don,hl,hd,ht=> by
    have hj:=YBf 63 don hd
    have hl:don.length≤70000:=by simpa using hl
    rw [Y1c,Yc,Yir (by simp),Ykr,YKr,Yie,Ym3]
    simp only
    rw [Yhr (show don.length≤140737488355328 by omega),Yhr (show (Lib.join don [46]).length≤140737488355328 by omega),Bool.true_and,Yjr,Ylr,Yqk _ (by omega),Ylr]
    unfold Yw YX1
    rw [Ymr (by simp),YKr]
    by_cases c:253 < (Yz1 (Lib.join don [46])).length
    · rw [show decide (((Yz1 (Lib.join don [46])).length:Int) > 253)=true from Yhr (by omega),Yjr,Ynr c]
    · rw [show decide (((Yz1 (Lib.join don [46])).length:Int) > 253)=false from Yir (by omega),Ykr,Ymr c]
  | x::todo,don,hl,hd,ht=> by
    have hi:don.length < (don++x::todo).length:=by rw [Yrr,Yqr]; omega
    have hll:(don++x::todo).length=don.length+todo.length+1:=by rw [Yrr,Yqr]; omega
    have hl:don.length+todo.length+1≤70000:=by simpa [Nat.add_assoc] using hl
    have hg:List.getD (don++x::todo) (Int.toNat (don.length:Int)) (Ty.zero .str)=x:=by
      rw [Ypr,Yyr,List.getElem?_append_right (by omega),Nat.sub_self]; rfl
    have hset:∀ y,List.set (don++x::todo) (Int.toNat (don.length:Int)) y=(don++[y])++todo:=by
      intro y
      rw [Ypr,List.set_append_right _ _ (by omega),Nat.sub_self,List.set_cons_zero,Ysr]; rfl
    have hw:IntKind.i64.wrap ((don.length:Int)+1)=((don.length+1:Nat):Int):=by rw [w64 (by omega) (by omega)]; omega
    have step:∀ b:Bool,((Y85 (x,b)).bind fun y0=>
            bif (y0.2 !=(0:Int)) then
              some (([]:List UInt8),y0.2)
            else
              bif (Ya (don.length:Int) (List.length (don++x::todo))) then
                Ze4 s (((don++x::todo).length:Nat):Int) (IntKind.wrap IntKind.i64 ((don.length:Int)+(1:Int))) (List.set (don++x::todo) (Int.toNat (don.length:Int)) y0.1)
              else
                none)=some (if (YG x b).2≠0 then ([],(YG x b).2) else if (Yw (don.length+1) todo).2≠0 then ([],(Yw (don.length+1) todo).2) else YX1 (don++((YG x b).1::(Yw (don.length+1) todo).1))):=by
      intro b
      rw [YNk x b (ht x (by simp)),Ylr,bne0]
      rcases YIo x b with ⟨h1,_⟩ | ⟨h1,h2⟩
      · rw [Yhr h1,Yjr,Ynr h1]
      · have h1':¬(YG x b).2≠0:=fun h=> h h1
        rw [Yir h1',Ykr,Ymr h1',Yj,Yhr hi,Yjr,hset,hw]
        have ih:=Yqb s todo (don++[(YG x b).1]) (by simp only [Yrr,Yqr,Yvr]; omega) (fun y hy=> by
          rcases YDr.1 hy with hy | hy
          · exact hd y hy
          · rw [YQr.1 hy]; exact h2) (fun y hy=> ht y (by simp [hy]))
        have hlen:(don++[(YG x b).1]).length=don.length+1:=by simp
        rw [hlen,show ((don++[(YG x b).1])++todo).length=(don++x::todo).length from by simp only [Yrr,Yqr,Yvr]; omega] at ih
        rw [ih]
        simp only [Ysr,List.singleton_append]
    rw [Y1c,Yc,Yhr hi,Yjr,Yj,Yhr hi,Yjr,hg,w64 (by omega) (by omega)]
    rw [Yj,Yhr hi] at step
    rw [Yw]
    have fin:∀ b:Bool,b=(todo.isEmpty&&decide (0 < don.length))→(if (YG x b).2≠0 then (([]:List UInt8),(YG x b).2) else if (Yw (don.length+1) todo).2≠0 then ([],(Yw (don.length+1) todo).2) else YX1 (don++((YG x b).1::(Yw (don.length+1) todo).1)))=
        (if (if (YG x (todo.isEmpty&&decide (0 < don.length))).2≠0 then (([]:List (List UInt8)),(YG x (todo.isEmpty&&decide (0 < don.length))).2) else if (Yw (don.length+1) todo).2≠0 then ([],(Yw (don.length+1) todo).2) else ((YG x (todo.isEmpty&&decide (0 < don.length))).1::(Yw (don.length+1) todo).1,0)).2≠0 then ([],(if (YG x (todo.isEmpty&&decide (0 < don.length))).2≠0 then (([]:List (List UInt8)),(YG x (todo.isEmpty&&decide (0 < don.length))).2) else if (Yw (don.length+1) todo).2≠0 then ([],(Yw (don.length+1) todo).2) else ((YG x (todo.isEmpty&&decide (0 < don.length))).1::(Yw (don.length+1) todo).1,0)).2)
          else YX1 (don++(if (YG x (todo.isEmpty&&decide (0 < don.length))).2≠0 then (([]:List (List UInt8)),(YG x (todo.isEmpty&&decide (0 < don.length))).2) else if (Yw (don.length+1) todo).2≠0 then ([],(Yw (don.length+1) todo).2) else ((YG x (todo.isEmpty&&decide (0 < don.length))).1::(Yw (don.length+1) todo).1,0)).1)):=by
      rintro b rfl
      by_cases c:(YG x (todo.isEmpty&&decide (0 < don.length))).2≠0
      · rw [Ynr c,Ynr c,Ynr c]
      · rw [Ymr c,Ymr c]
        by_cases d:(Yw (don.length+1) todo).2≠0
        · rw [Ynr d,Ynr d,Ynr d]
        · rw [Ymr d,Ymr d,Ymr (by simp)]
    cases todo with
    | nil=>
      rw [show ((don.length:Int)==(((don++[x]).length:Nat):Int) - 1)=true from beq_iff_eq.2 (by simp),Yjr,step,show decide ((don.length:Int) > 0)=decide (0 < don.length) from by by_cases h:0 < don.length <;> simp [h],fin _ (by simp)]
    | cons z todo=>
      rw [show ((don.length:Int)==(((don++x::z::todo).length:Nat):Int) - 1)=false from Ytr.2 (by simp only [Yrr,Yqr]; omega),Ykr,step,fin _ (by simp)]
theorem Ykd (s:List UInt8):Y53 s=some (YY s):=by
  rw [YAk,YBi,Yse,Ylr]
  unfold YY
  cases hv:(YJ1 s).1 with
  | false=> rw [YIr,Yjr,Ynr rfl]
  | true=>
    rw [YHr,Ykr,Ymr (by simp)]
    by_cases c:65536 < s.length
    · rw [show decide ((s.length:Int) > 65536)=true from Yhr (by omega),Yjr,Ynr c]
    · rw [show decide ((s.length:Int) > 65536)=false from Yir (by omega),Ykr,Ymr c]
      by_cases d:s=[]
      · rw [show (s==[])=true from by rw [d]; rfl,Yjr,Ynr d]
      · have hsl:=Yo3 s
        have hdl:=Ys4 (Yq s) []
        have h1:=Yh8 s (by omega) (Yq s) [] [] [] (YO7 s) (by rw [Y3h s hv]; rfl) (by simp only [Yvr]; omega)
        have h2:=Yqb s ((dcut [] (Yq s)).map Yb) [] (by simp only [Yvr,List.length_map]; omega) (fun x hx=> by cases hx) (fun x hx=> by
          obtain ⟨y,hy,rfl⟩:=List.mem_map.1 hx
          have:=Yu9 _ _ y hy
          have:=YYa y
          simp only [Yvr] at*; omega)
        rw [show (s==[])=false from by simpa using d,Ykr,Ymr d]
        rw [YS1,Yvr,Nat.add_zero,YLr] at h1
        rw [YLr,Yvr,YLr] at h2
        rw [show ((0:Nat):Int)=0 from rfl] at h1 h2
        rw [h1,h2]

def uniL (x:List UInt8):List UInt8:=if (YA x).2=0 then (YA x).1 else x
def Yeh (s:List UInt8):List UInt8:=Lib.join ((YP s 46).map uniL) [46]
theorem Ych (x:List UInt8):(uniL x).length≤4*x.length:=by
  have:=Ysb x
  unfold uniL; split <;> omega
theorem Yrb (s:List UInt8):∀ (todo don:List (List UInt8)),don.length+todo.length≤1073741900→(∀ x∈todo,x.length≤1073741824)→(Lib.join (don++todo.map uniL) [46]).length≤140737488355328→
    Zg4 s (((don++todo).length:Nat):Int) (don.length:Int) (don++todo)=some (Lib.join (don++todo.map uniL) [46])
  | [],don,hl,ht,hj=> by
    have hl:don.length≤1073741900:=by simpa using hl
    rw [Y6c,Yc,Yir (by simp),Ykr,Yie,Ym3]
    simp only [List.map_nil,YKr] at hj ⊢
    rw [Yhr (show don.length≤140737488355328 by omega),Yhr hj,Bool.true_and,Yjr,Ylr]
  | x::todo,don,hl,ht,hj=> by
    have hi:don.length < (don++x::todo).length:=by rw [Yrr,Yqr]; omega
    have hll:(don++x::todo).length=don.length+todo.length+1:=by rw [Yrr,Yqr]; omega
    have hl:don.length+todo.length+1≤1073741900:=by simpa [Nat.add_assoc] using hl
    have hg:List.getD (don++x::todo) (Int.toNat (don.length:Int)) (Ty.zero .str)=x:=by
      rw [Ypr,Yyr,List.getElem?_append_right (by omega),Nat.sub_self]; rfl
    have hset:∀ y,List.set (don++x::todo) (Int.toNat (don.length:Int)) y=(don++[y])++todo:=by
      intro y
      rw [Ypr,List.set_append_right _ _ (by omega),Nat.sub_self,List.set_cons_zero,Ysr]; rfl
    have hw:IntKind.i64.wrap ((don.length:Int)+1)=((don.length+1:Nat):Int):=by rw [w64 (by omega) (by omega)]; omega
    have step:∀ y,y=uniL x→Zg4 s (((don++x::todo).length:Nat):Int) ((don.length+1:Nat):Int) ((don++[y])++todo)=some (Lib.join (don++(x::todo).map uniL) [46]):=by
      rintro y rfl
      have e:(don++[uniL x])++todo.map uniL=don++(x::todo).map uniL:=by rw [YEr,Ysr]; rfl
      have ih:=Yrb s todo (don++[uniL x]) (by simp only [Yrr,Yqr,Yvr]; omega) (fun y hy=> ht y (by simp [hy])) (by rw [e]; exact hj)
      rw [e,show (don++[uniL x]).length=don.length+1 from by simp,show ((don++[uniL x])++todo).length=(don++x::todo).length from by simp only [Yrr,Yqr,Yvr]; omega] at ih
      exact ih
    rw [Y6c,Yc,Yhr hi,Yjr,Yj,Yhr hi,Yjr,hg,YGd x (ht x (by simp)),Ylr,hset,hw]
    by_cases c:(YA x).2=0
    · rw [show ((YA x).2==0)=true from beq_iff_eq.2 c,Yjr,Yjr,step _ (by unfold uniL; rw [Ynr c])]
    · have:=step x (by unfold uniL; rw [Ymr c])
      rw [Ysr,List.singleton_append] at this
      rw [show ((YA x).2==0)=false from Ytr.2 c,Ykr,this]
end Go.Abs
namespace Go.Abs
set_option autoImplicit false

def tok (t:List UInt8):Prop:=∀ b∈t,okI (Y7 b)
def YY7 (l:List Int):Prop:=∀ r∈l,dotI r=false
theorem Yhp {c:Int} (h:okI c):lowI c=c:=by rw [Yj2,Ymr h.2.2.2]
theorem YJn {r:Int} (h:dotI r=false):r≠46:=by rintro rfl; cases h
theorem Yip {c:Int} (h:okI c):dotI c=false:=by
  have h1:=h.2.1
  have h2:=h.2.2.1
  unfold dotI
  rw [Ytr.2 h2,Ytr.2 (show c≠12290 by omega),Ytr.2 (show c≠65294 by omega),Ytr.2 (show c≠65377 by omega)]; rfl
theorem YQq {t:List UInt8} (h:tok t):lowS t=t:=by
  unfold lowS
  rw [List.map_congr_left (g:=id) (fun b hb=> YH2 (by rw [YB8,Yhp (h b hb)]; rfl)),List.map_id]
theorem Y0b {t:List UInt8} (h:tok t):∀ b∈t,Y7 b < 128:=fun b hb=> (h b hb).2.1
theorem YPq {t:List UInt8} (h:tok t):has t 65533=false:=by
  unfold has
  rw [Y15 t (Y0b h),List.any_eq_false]
  intro r hr
  obtain ⟨b,hb,rfl⟩:=List.mem_map.1 hr
  have:=Y0b h b hb
  simp only [beq_iff_eq]; omega
theorem YRq {t:List UInt8} (h:tok t):YY7 (t.map Y7):=by
  intro r hr
  obtain ⟨b,hb,rfl⟩:=List.mem_map.1 hr
  exact Yip (h b hb)
theorem Y5p {r:Int} (h0:scal r=true) (h1:dotI r=false) (h2:lowI r < 128):okI (lowI r):=by
  have hr:=Yq2 h0
  have:=YJn h1
  rw [Yj2] at h2 ⊢
  unfold okI
  split at h2
  · rw [Ynr (by assumption)]; omega
  · rw [Ymr (by assumption)]; omega
theorem Ycr:tok xn:=by
  intro b hb
  have:∀ b∈xn,okI (Y7 b):=by decide
  exact this b hb
theorem YLo (s t:List UInt8) (hs:∀ r∈Yq s,r < 128→okI r) (hb:Yc1 s=false) (h:Ys s=(t,0)):tok t:=by
  unfold Ys at h
  split at h
  · rename_i c; exact absurd (congrArg Prod.snd h) c
  · rw [hb,Ymr (by simp)] at h
    have:=congrArg Prod.fst h
    dsimp only at this
    subst this
    intro b hb
    rcases YDr.1 hb with hb | hb
    · exact Ycr b hb
    · exact YBh s hs b hb

theorem YMq {t:List UInt8} (ht:tok t):tok (t.take 4):=fun b hb=> ht b (List.mem_of_mem_take hb)
def YS {α:Type} (d:α):List (List α)→List α
  | []=> []
  | [x]=> x
  | x::y::l=> x++d::YS d (y::l)
theorem Yh7 (sep:UInt8):∀ l:List (List UInt8),Lib.join l [sep]=YS sep l
  | []=> Lib.join_nil _
  | [x]=> Lib.join_one x _
  | x::y::l=> by
    rw [Lib.join_cons,YS,←Yh7 sep (y::l),Lib.join_cons]
    simp [Lib.joinTail]
theorem Yzf:∀ ts:List (List UInt8),(YS 46 (ts.map uniL)).length≤4*(YS 46 ts).length
  | []=> by simp [YS]
  | [x]=> Ych x
  | x::y::l=> by
    have h1:=Ych x
    have h2:=Yzf (y::l)
    simp only [YEr,YS,Yrr,Yqr] at h1 h2 ⊢
    omega
theorem YTq (y:List UInt8):y.length≤(Yz1 y).length+1:=by
  unfold Yz1; split
  · rw [List.length_dropLast]; omega
  · omega
theorem Ydk:YY []=([],0):=by
  unfold YY
  rw [Ymr (by rw [Yhh [] (fun b hb=> by cases hb)]; simp),Ymr (by simp),Ynr rfl]
end Go.Abs
namespace Go.Abs
set_option autoImplicit false

def hnil:D35:=((0:Int),(([]:List UInt8),((0:Int),z8)))
theorem Ya7:((Ty.zero (.int .i64)),((Ty.zero .str),((Ty.zero (.int .u32)),(Ty.zero (.arr 8 (.int .u16))))))=hnil:=rfl
def badB (b:UInt8):Bool:=decide (Y7 b < 32)||(Y7 b==37||(Y7 b==127||Y51 (Y7 b)))
theorem Y5o:(List.range 256).all (fun n=> decide (Lib.indexByte forb (UInt8.ofNat (n:Int).toNat)≥0)==Y51 (n:Int))=true:=by kernel_rfl
theorem Y6o (b:UInt8):decide (Lib.indexByte forb (UInt8.ofNat (Y7 b).toNat)≥0)=Y51 (Y7 b):=by
  have h:=Yv2 b
  obtain ⟨n,hn⟩:=Int.eq_ofNat_of_zero_le h.1
  have:=List.all_eq_true.1 Y5o n (List.mem_range.2 (by omega))
  rw [hn]
  exact beq_iff_eq.1 this
def Yt4 (name:List UInt8):D35×Int:=
  if YR3 name=true then (if (ipOf name).2≠0 then (hnil,(ipOf name).2) else (((2:Int),(([]:List UInt8),((ipOf name).1,z8))),0)) else (((1:Int),(name,((0:Int),z8))),0)
def YL5 (s:List UInt8):D35×Int:=
  if (YY (Y31 s)).2≠0 then (hnil,(YY (Y31 s)).2) else if (YY (Y31 s)).1=[] then (hnil,51)
  else if (YY (Y31 s)).1.any badB=true then (hnil,52) else Yt4 (YY (Y31 s)).1
def Yv5 (s:List UInt8):D35×Int:=
  if YB4 s=true then (hnil,52) else if 65536 < (YA2 s).length then (hnil,5) else (((4:Int),(YA2 s,((0:Int),z8))),0)
def Yi2 (s:List UInt8):List UInt8:=(s.take (s.length - 1)).drop 1
def YLa (s:List UInt8):D35×Int:=
  if s.getLast? ≠some 93 then (hnil,51) else if s.length < 2 then (hnil,51) else if (v6Of (Yi2 s)).2≠0 then (hnil,(v6Of (Yi2 s)).2)
  else (((3:Int),(([]:List UInt8),((0:Int),(v6Of (Yi2 s)).1))),0)
def Yw5 (s:List UInt8) (sp:Bool):D35×Int:=
  if 65536 < s.length then (hnil,5) else if s.head? =some 91 then YLa s
  else if sp=true then YL5 s else if s=[] then (((5:Int),(([]:List UInt8),((0:Int),z8))),0) else Yv5 s

theorem YRe (s:List UInt8) (sp:Bool) (name:List UInt8) (hn:name.length≤65536):∀ (n i:Nat),i+n=name.length→Zb4 s sp name (name.length:Int) (i:Int) hnil=some (if (name.drop i).any badB=true then (hnil,52) else Yt4 name)
  | 0,i,h=> by
    have:i=name.length:=by omega
    subst this
    rw [YQb,Yc,Yir (YJr _),Ykr,List.drop_length,Ymr (by simp),Ytk name (by omega),Ylr]
    unfold Yt4
    cases YR3 name with
    | false=> rw [Ykr,Ymr (by simp)]; rfl
    | true=>
      rw [Yjr,Ynr rfl,Yvk name (by omega),Ylr,bne0]
      by_cases c:(ipOf name).2≠0
      · rw [Yhr c,Yjr,Ynr c]; rfl
      · rw [Yir c,Ykr,Ymr c]; rfl
  | n+1,i,h=> by
    have hi:i < name.length:=by omega
    have hw:IntKind.i64.wrap ((i:Int)+1)=((i+1:Nat):Int):=by rw [w64 (by omega) (by omega)]; omega
    have hg:(((UInt8.toNat (List.getD name (Int.toNat (i:Int)) (0:UInt8))):Nat):Int)=Y7 name[i]:=by
      rw [Ypr,Yyr,Yzr hi]; rfl
    rw [YQb,Yc,Yhr hi,Yjr,Yj,Yhr hi,Yjr,hg,hw,Yur hi,List.any_cons,YRe s sp name hn n (i+1) (by omega),Yl4,Yp2]
    have e:badB name[i]=(decide (Y7 name[i] < 32)||(Y7 name[i]==37||(Y7 name[i]==127||Y51 (Y7 name[i])))):=rfl
    rw [e]
    have key:((some (Lib.indexByte forb (UInt8.ofNat (Y7 name[i]).toNat))).bind fun y0=> bif (decide (y0≥(0:Int))) then some (hnil,(52:Int)) else some (if (name.drop (i+1)).any badB=true then (hnil,(52:Int)) else Yt4 name))=some (if (Y51 (Y7 name[i])||(name.drop (i+1)).any badB)=true then (hnil,52) else Yt4 name):=by
      rw [Ylr,Y6o]
      cases Y51 (Y7 name[i]) with
      | true=> rw [Yjr,YGr,Ynr rfl]
      | false=> rw [Ykr,YFr]
    cases decide (Y7 name[i] < 32) with
    | true=> rw [Yjr,YGr,YGr,Ynr rfl]; rfl
    | false=>
      rw [Ykr,YFr]
      cases (Y7 name[i]==37) with
      | true=> rw [Yjr,YGr,YGr,Ynr rfl]; rfl
      | false=>
        rw [Ykr,YFr]
        cases (Y7 name[i]==127) with
        | true=> rw [Yjr,YGr,YGr,Ynr rfl]; rfl
        | false=>
          rw [Ykr,YFr]
          exact key
theorem YAo (l:List (List UInt8)):(YX1 l).1.length≤254:=by
  unfold YX1
  split
  · simp
  · have:=YTq (Lib.join l [46])
    dsimp only; omega
theorem Y6d (s:List UInt8):(YY s).1.length≤254:=by
  unfold YY
  repeat' split
  all_goals first | exact YAo _ | simp
theorem YEq (s:List UInt8) (sp:Bool) (hs:s.length≤65536):((YH3 s).bind fun y0=>
                  (Y53 y0).bind fun y1=>
                    bif (y1.2 !=(0:Int)) then
                      some (((Ty.zero (.int .i64)),((Ty.zero .str),((Ty.zero (.int .u32)),(Ty.zero (.arr 8 (.int .u16)))))),y1.2)
                    else
                      bif (y1.1==([]:List UInt8)) then
                        some (((Ty.zero (.int .i64)),((Ty.zero .str),((Ty.zero (.int .u32)),(Ty.zero (.arr 8 (.int .u16)))))),(51:Int))
                      else
                        Zb4 s sp y1.1 (((List.length y1.1):Nat):Int) (0:Int) ((Ty.zero (.int .i64)),((Ty.zero .str),((Ty.zero (.int .u32)),(Ty.zero (.arr 8 (.int .u16)))))))=some (YL5 s):=by
  have hl:=Y6d (Y31 s)
  rw [Ya7,Y8l s (by omega),Ylr,Ykd,Ylr,bne0]
  unfold YL5
  by_cases c:(YY (Y31 s)).2≠0
  · rw [Yhr c,Yjr,Ynr c]
  · rw [Yir c,Ykr,Ymr c]
    by_cases d:(YY (Y31 s)).1=[]
    · rw [show ((YY (Y31 s)).1==[])=true from by rw [d]; rfl,Yjr,Ynr d]
    · have:=YRe s sp (YY (Y31 s)).1 (by omega) (YY (Y31 s)).1.length 0 (by omega)
      rw [show ((0:Nat):Int)=0 from rfl,List.drop_zero] at this
      rw [show ((YY (Y31 s)).1==[])=false from by simpa using d,Ykr,Ymr d,this]
theorem Ymp (s:List UInt8) (hs:s.length≤65536):((YL3 (s,([(0:UInt8),(9:UInt8),(10:UInt8),(13:UInt8),(32:UInt8),(35:UInt8),(47:UInt8),(58:UInt8),(60:UInt8),(62:UInt8),(63:UInt8),(64:UInt8),(91:UInt8),(92:UInt8),(93:UInt8),(94:UInt8),(124:UInt8)]:List UInt8))).bind fun y0=>
                  bif y0 then
                    some (((Ty.zero (.int .i64)),((Ty.zero .str),((Ty.zero (.int .u32)),(Ty.zero (.arr 8 (.int .u16)))))),(52:Int))
                  else
                    (YI3 ((1:Int),s)).bind fun y1=>
                      bif (decide ((((List.length y1.1):Nat):Int) > (65536:Int))) then
                        some (((Ty.zero (.int .i64)),((Ty.zero .str),((Ty.zero (.int .u32)),(Ty.zero (.arr 8 (.int .u16)))))),(5:Int))
                      else
                        some (((4:Int),(y1.1,((Ty.zero (.int .u32)),(Ty.zero (.arr 8 (.int .u16)))))),(0:Int)))=some (Yv5 s):=by
  rw [show ([(0:UInt8),(9:UInt8),(10:UInt8),(13:UInt8),(32:UInt8),(35:UInt8),(47:UInt8),(58:UInt8),(60:UInt8),(62:UInt8),(63:UInt8),(64:UInt8),(91:UInt8),(92:UInt8),(93:UInt8),(94:UInt8),(124:UInt8)]:List UInt8)=forb from rfl,Yrh s (by omega),Ylr,Ya7]
  unfold Yv5
  cases YB4 s with
  | true=> rw [Yjr,Ynr rfl]
  | false=>
    rw [Ykr,Ymr (by simp),Ybl s (by omega),Ylr]
    by_cases c:65536 < (YA2 s).length
    · rw [show decide (((YA2 s).length:Int) > 65536)=true from Yhr (by omega),Yjr,Ynr c]
    · rw [show decide (((YA2 s).length:Int) > 65536)=false from Yir (by omega),Ykr,Ymr c]; rfl
theorem Yzk (s:List UInt8) (sp:Bool):YG8 (s,sp)=some (Yw5 s sp):=by
  rw [Yyk,Ysi]
  unfold Yw5
  simp only
  by_cases a:65536 < s.length
  · rw [show decide ((s.length:Int) > 65536)=true from Yhr (by omega),Yjr,Ynr a]; rfl
  rw [show decide ((s.length:Int) > 65536)=false from Yir (by omega),Ykr,Ymr a,YEq s sp (by omega),Ymp s (by omega)]
  cases s with
  | nil=>
    rw [show (!(([]:List UInt8)==[]))=false from rfl,Ykr,Ymr (by simp)]
    cases sp with
    | true=> rw [YHr,Ykr,Ynr rfl]; rfl
    | false=> rw [YIr,Yjr,Ymr (by simp),Ynr rfl,show ((([]:List UInt8))==[])=true from rfl,Yjr]; rfl
  | cons b t=>
    have hlen:(b::t).length=t.length+1:=rfl
    have hne:((b::t)==([]:List UInt8))=false:=rfl
    have h0:(((UInt8.toNat (List.getD (b::t) (Int.toNat (0:Int)) (0:UInt8))):Nat):Int)=Y7 b:=rfl
    rw [hne,YIr,Yjr,YF4,Yjr,h0]
    by_cases c:b=91
    · subst c
      have hw:IntKind.i64.wrap ((((91:UInt8)::t).length:Int) - 1)=((((91:UInt8)::t).length - 1:Nat):Int):=by rw [w64 (by omega) (by omega)]; omega
      rw [show (Y7 91==91)=true from rfl,Yjr,hw,Yj,Yhr (by omega),Yjr,Ypr,Ynr (show ((91:UInt8)::t).head? =some 91 from rfl)]
      unfold YLa
      rw [Y57 _ (by omega)]
      generalize hgl:List.getD ((91:UInt8)::t) (((91:UInt8)::t).length - 1) 0=g
      by_cases d:g=93
      · subst d
        rw [show ((((93:UInt8).toNat:Nat):Int) !=93)=false from rfl,Ykr,Ymr (by simp)]
        by_cases e:((91:UInt8)::t).length < 2
        · rw [show decide (((((91:UInt8)::t).length:Nat):Int) < 2)=true from Yhr (by omega),Yjr,Ynr e]; rfl
        · have hcut:Yl (some (1:Int)) (some ((((91:UInt8)::t).length - 1:Nat):Int)) ((91:UInt8)::t)=Yi2 ((91:UInt8)::t):=Yq4 1 _ _
          have hil:(Yi2 ((91:UInt8)::t)).length≤65536:=by
            unfold Yi2
            rw [YCr,YBr]; omega
          rw [show decide (((((91:UInt8)::t).length:Nat):Int) < 2)=false from Yir (by omega),Ykr,Ymr e,show Yi (some (1:Int)) (some ((((91:UInt8)::t).length - 1:Nat):Int)) ((91:UInt8)::t).length=true from Yr4 (f:=1) (by omega) (by omega),Yjr,hcut,Yxk _ (by omega),Ylr,bne0]
          by_cases f:(v6Of (Yi2 ((91:UInt8)::t))).2≠0
          · rw [Yhr f,Yjr,Ynr f]; rfl
          · rw [Yir f,Ykr,Ymr f]; rfl
      · have hb:((((g.toNat:Nat):Int)) !=93)=true:=bne_iff_ne.2 (fun h=> d (YH2 (show Y7 g=Y7 93 from h)))
        rw [hb,Yjr,Ynr (by simpa using d)]; rfl
    · have hb:(Y7 b==91)=false:=Ytr.2 (fun h=> c (YH2 (show Y7 b=Y7 91 from h)))
      rw [hb,Ykr,Ymr (by simpa using c)]
      cases sp with
      | true=> rw [YHr,Ykr,Ynr rfl]; rfl
      | false=> rw [YIr,Yjr,Ymr (by simp),Ymr (by simp),Ykr]; rfl
end Go.Abs
namespace Go.Abs
set_option autoImplicit false

theorem YKq (s:List UInt8):Ym (s.map Y7)=s:=by
  unfold Ym
  rw [List.map_map,List.map_congr_left (f:=(fun n:Int=> UInt8.ofNat n.toNat)∘Y7) (g:=id) (fun b _=> Ym2 b),List.map_id]
theorem Y8r (s:List UInt8):YN (Yy3 s):=by
  intro r hr
  unfold Yy3 YS5 at hr
  obtain ⟨x,hx,rfl⟩:=List.mem_map.1 hr
  exact Y6b s s.length 0 x hx
def Yqg (c:Int):Prop:=32≤c∧c≤126
instance (c:Int):Decidable (Yqg c):=by unfold Yqg; infer_instance
theorem Yzn (c:Int) (h0:0≤c) (h1:c≤255):ctlSet.getD c.toNat false=decide (¬(32≤c∧c≤126)):=by
  have:(List.range 256).all (fun n=> ctlSet.getD n false==decide (¬(32≤(n:Int)∧(n:Int)≤126)))=true:=by kernel_rfl
  obtain ⟨n,rfl⟩:=Int.eq_ofNat_of_zero_le h0
  have:=List.all_eq_true.1 this n (List.mem_range.2 (by omega))
  rw [Ypr]; exact beq_iff_eq.1 this
end Go.Abs
