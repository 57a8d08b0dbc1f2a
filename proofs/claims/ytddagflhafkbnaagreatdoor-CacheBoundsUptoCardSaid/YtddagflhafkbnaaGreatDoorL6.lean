/- Part L6 of the proof: see the last text of the claim. No condition of its own. -/
import Derived.Test.YtddagflhafkbnaaGreatDoorL5
set_option linter.all false
set_option autoImplicit false
namespace Go.Abs
def dcut:List Int->List Int->List (List Int)
 | cur,[]=> [cur]
 | cur,r::l=> if dotI r=true then cur::dcut [] l else dcut (cur++[r]) l
theorem Y68:∀ (l cur:List Int),1<=(dcut cur l).length/\(dcut cur l).length<=l.length+1
 | [],cur=> by simp [dcut]
 | r::l,cur=> by
  unfold dcut
  split
  ·have:=Y68 l []; simp only [YTm]; omega
  ·have:=Y68 l (cur++[r]); simp only [YTm]; omega
theorem Y78:∀ (l cur:List Int),∀ x∈dcut cur l,x.length<=cur.length+l.length
 | [],cur,x,hx=> by rw [Yjn.1 hx]; omega
 | r0::l,cur,x,hx=> by
  unfold dcut at hx
  split at hx
  ·rcases Y0n.1 hx with rfl | hx
   ·omega
   ·have:=Y78 l [] x hx; simp only [YTm,YYm] at*; omega
  ·have:=Y78 l _ x hx
   simp only [YUm,YTm,YYm] at*; omega
theorem Y2j (a b c:List UInt8):((a++b++c).take (a.length+b.length)).drop a.length=b:=by
 rw [List.take_left' (by rw [YUm]),List.drop_left]
theorem Yb7 (s:List UInt8) (hs:s.length<=65536):∀ (rest pre cur:List Int) (r:List (List UInt8)),YJ6 rest->s=Yk pre++Yk cur++Yk rest->r.length+rest.length<=70000->
  Z21 s (((Yk pre).length:Nat):Int) s ((Yk pre).length+(Yk cur).length) r=Z31 s (((r++(dcut cur rest).map Yk).length:Nat):Int) 0 (r++(dcut cur rest).map Yk)
 | [],pre,cur,r,hl,e,hr=> by
  have hlen:s.length=(Yk pre).length+(Yk cur).length:=by rw [e,Yw2,Ydn,YUm]
  have hd:s.drop (Yk pre).length=Yk cur:=by rw [e,Yw2,Ydn,List.drop_left]
  rw [YO9,YLm (by omega),YNm,Yo1 (by omega),YMm,YF1,hd,show decide (r.length+[Yk cur].length<=lim)=true from YKm (by simp only [lim,YTm,YYm]; simp only [YYm] at hr; omega),YMm]
  rfl
 | x::rest,pre,cur,r,hl,e,hr=> by
  obtain ⟨h1,h2⟩:=YXl hl
  have hb:=Ysd x
  have e':s=Yk pre++Yk cur++(rbs x++Yk rest):=by rw [e,Yv2]
  have hlen:s.length=(Yk pre).length+(Yk cur).length+((rbs x).length+(Yk rest).length):=by rw [e']; simp only [YUm]
  have hd:s.drop ((Yk pre).length+(Yk cur).length)=rbs x++Yk rest:=by
   rw [e',List.drop_left' (by rw [YUm])]
  have hra:=YRl s ((Yk pre).length+(Yk cur).length) x h1 _ (by omega) hd
  have hwd:wd s ((Yk pre).length+(Yk cur).length)=(rbs x).length:=by unfold wd; rw [hra]; simp
  rw [YO9,YKm (by omega),YMm,Yp3,YM2,hra,hwd,YZa,YOm]
  dsimp only
  unfold dcut
  cases hdot:dotI x with
  | true=>
   have hm:Yn (some (((Yk pre).length:Nat):Int)) (some (((Yk pre).length+(Yk cur).length:Nat):Int)) s=Yk cur:=by
    rw [YX5,e']; exact Y2j _ _ _
   rw [YMm,YQm rfl,YY5 (by omega) (by omega),YMm,hm,show decide (r.length+[Yk cur].length<=lim)=true from YKm (by simp only [lim,YTm,YYm]; simp only [YTm] at hr; omega),YMm,Ygj x h1]
   have key:=Yb7 s hs rest (pre++cur++[x]) [] (r++[Yk cur]) h2 (by rw [e',YM3,YM3,Yv2,Yw2]; simp only [Ydn,YVm]) (by simp only [YUm,YTm,YYm] at hr ⊢; omega)
   have hp:(Yk (pre++cur++[x])).length=(Yk pre).length+(Yk cur).length+(rbs x).length:=by rw [YM3,YM3,Yv2,Yw2,Ydn]; simp only [YUm]
   rw [hp,Yw2,YYm,Nat.add_zero] at key
   rw [w64 (by omega) (by omega),show (((Yk pre).length+(Yk cur).length:Nat):Int)+(((rbs x).length:Nat):Int)=(((Yk pre).length+(Yk cur).length+(rbs x).length:Nat):Int) from by omega,key,YVm]
   rfl
  | false=>
   rw [YNm,YPm (by simp)]
   have key:=Yb7 s hs rest pre (cur++[x]) r h2 (by rw [e',YM3,Yv2,Yw2]; simp only [Ydn,YVm]) (by simp only [YTm] at hr ⊢; omega)
   rw [YM3,Yv2,Yw2,Ydn,YUm,<-Nat.add_assoc] at key
   exact key
def YH:Nat->List (List UInt8)->List (List UInt8)×Int
 | _,[]=> ([],0)
 | i,x::l=> if (YC x (l.isEmpty&&decide (0 < i))).2≠0 then ([],(YC x (l.isEmpty&&decide (0 < i))).2)
  else if (YH (i+1) l).2≠0 then ([],(YH (i+1) l).2) else ((YC x (l.isEmpty&&decide (0 < i))).1::(YH (i+1) l).1,0)
def Y63 (y:List UInt8):List UInt8:=if y.getLast? =some 46 then y.dropLast else y
def YT2 (l:List (List UInt8)):List UInt8×Int:=if 253 < (Y63 (Lib.join l [46])).length then ([],5) else (Lib.join l [46],0)
def Yf1 (s:List UInt8):List UInt8×Int:=
 if (Y93 s).1=false then ([],21) else if 65536 < s.length then ([],5) else if s=[] then ([],0)
 else if (YH 0 ((dcut [] (YF s)).map Yk)).2≠0 then ([],(YH 0 ((dcut [] (YF s)).map Yk)).2) else YT2 (YH 0 ((dcut [] (YF s)).map Yk)).1
theorem Yoc (s:List UInt8) (h:0 < s.length):s.getLast? =some (s.getD (s.length - 1) 0):=by
 rw [List.getLast?_eq_getElem?,Y1n,Y2n (by omega)]; rfl
theorem YCg (y:List UInt8) (hy:y.length<=1073741824):YV7 (y,[46])=some (Y63 y):=by
 have e1:(([46]:List UInt8)).length=1:=rfl
 rw [Yki,Yaf,Ynh,Ybg,Ylh,Y5g]
 simp only
 rw [e1,show (((1:Nat):Int))=1 from rfl,w64 (by omega) (by omega)]
 unfold Y63
 by_cases c:1<=y.length
 ·have ew:(y.length:Int) - 1=((y.length - 1:Nat):Int):=by omega
  rw [show decide ((y.length:Int)>=1)=true from YKm (by omega),YMm,ew,Yo1 (by omega),YMm,YF1,YOm]
  have hd:y.drop (y.length - 1)=[y.getD (y.length - 1) 0]:=by
   rw [YXm (by omega),List.drop_eq_nil_of_le (by omega),Y1n,Y2n (by omega)]; rfl
  rw [hd,Yoc y c]
  generalize y.getD (y.length - 1) 0=z
  by_cases g:z=46
  ·rw [g,show (([46]:List UInt8)==[46])=true from rfl,YMm,YQm rfl,show Yh none (some ((y.length - 1:Nat):Int)) y.length=true from by simp [Yh],YMm,YOm,List.dropLast_eq_take]
   rfl
  ·rw [show ([z]==([46]:List UInt8))=false from by simp [g],YNm,YPm (by simp [g])]; rfl
 ·have:y=[]:=List.eq_nil_of_length_eq_zero (by omega)
  subst this
  rfl
theorem Yhk (t:List UInt8) (last:Bool):((YI1 t last).2≠0/\(YI1 t last).1=[])\/(YI1 t last=(t,0)/\t.length<=63):=by
 unfold YI1
 by_cases a:63 < t.length
 ·rw [YQm a]; exact .inl ⟨by simp,rfl⟩
 ·rw [YPm a]
  repeat' split
  all_goals first | exact .inl ⟨by simp,rfl⟩ | exact .inr ⟨rfl,by omega⟩
theorem Yik (s:List UInt8) (last:Bool):((YC s last).2≠0/\(YC s last).1=[])\/((YC s last).2=0/\(YC s last).1.length<=63):=by
 have key:∀ t,((YI1 t last).2≠0/\(YI1 t last).1=[])\/((YI1 t last).2=0/\(YI1 t last).1.length<=63):=by
  intro t
  rcases Yhk t last with h | ⟨h1,h2⟩
  ·exact .inl h
  ·rw [h1]; exact .inr ⟨rfl,h2⟩
 unfold YC
 repeat' split
 all_goals first | exact .inl ⟨by simp,rfl⟩ | exact key _
theorem YRc (n:Nat):∀ l:List (List UInt8),(∀ x∈l,x.length<=n)->Lib.lens l<=n*l.length
 | [],_=> by simp [Lib.lens]
 | x::l,h=> by
  have h1:=YRc n l (fun y hy=> h y (by simp [hy]))
  have h2:=h x (by simp)
  unfold Lib.lens at h1 ⊢
  rw [Y7n,List.sum_cons,YTm,Nat.mul_succ]; omega
theorem Yak (n:Nat) (l:List (List UInt8)) (h:∀ x∈l,x.length<=n):(Lib.join l [46]).length<=(n+1)*l.length:=by
 cases l with
 | nil=> simp [Lib.join_nil]
 | cons x r=>
  have:=YRc n (x::r) h
  rw [Lib.join_length,YTm,YYm,Nat.zero_add,Nat.one_mul,Nat.add_mul,Nat.one_mul]
  simp only [YTm] at*; omega
theorem YK9 (s:List UInt8):∀ (todo don:List (List UInt8)),don.length+todo.length<=70000->(∀ x∈don,x.length<=63)->(∀ x∈todo,x.length<=1073741824)->
  Z31 s (((don++todo).length:Nat):Int) (don.length:Int) (don++todo)=some (if (YH don.length todo).2≠0 then ([],(YH don.length todo).2) else YT2 (don++(YH don.length todo).1))
 | [],don,hl,hd,ht=> by
  have hj:=Yak 63 don hd
  have hl:don.length<=70000:=by simpa using hl
  rw [YP9,Yl,YLm (by simp),YNm,Ydn,Yii,YF3]
  simp only
  rw [YKm (show don.length<=140737488355328 by omega),YKm (show (Lib.join don [46]).length<=140737488355328 by omega),Bool.true_and,YMm,YOm,YCg _ (by omega),YOm]
  unfold YH YT2
  rw [YPm (by simp),Ydn]
  by_cases c:253 < (Y63 (Lib.join don [46])).length
  ·rw [show decide (((Y63 (Lib.join don [46])).length:Int) > 253)=true from YKm (by omega),YMm,YQm c]
  ·rw [show decide (((Y63 (Lib.join don [46])).length:Int) > 253)=false from YLm (by omega),YNm,YPm c]
 | x::todo,don,hl,hd,ht=> by
  have hi:don.length < (don++x::todo).length:=by rw [YUm,YTm]; omega
  have hll:(don++x::todo).length=don.length+todo.length+1:=by rw [YUm,YTm]; omega
  have hl:don.length+todo.length+1<=70000:=by simpa [Nat.add_assoc] using hl
  have hg:List.getD (don++x::todo) (Int.toNat (don.length:Int)) (Ty.zero .str)=x:=by
   rw [YSm,Y1n,List.getElem?_append_right (by omega),Nat.sub_self]; rfl
  have hset:∀ y,List.set (don++x::todo) (Int.toNat (don.length:Int)) y=(don++[y])++todo:=by
   intro y
   rw [YSm,List.set_append_right _ _ (by omega),Nat.sub_self,List.set_cons_zero,YVm]; rfl
  have hw:IntKind.i64.wrap ((don.length:Int)+1)=((don.length+1:Nat):Int):=by rw [w64 (by omega) (by omega)]; omega
  have step:∀ b:Bool,((YA4 (x,b)).bind fun y0=>
      bif (y0.2 !=(0:Int)) then
       some (([]:List UInt8),y0.2)
      else
       bif (Yb (don.length:Int) (List.length (don++x::todo))) then
        Z31 s (((don++x::todo).length:Nat):Int) (IntKind.wrap IntKind.i64 ((don.length:Int)+(1:Int))) (List.set (don++x::todo) (Int.toNat (don.length:Int)) y0.1)
       else
        none)=some (if (YC x b).2≠0 then ([],(YC x b).2) else if (YH (don.length+1) todo).2≠0 then ([],(YH (don.length+1) todo).2) else YT2 (don++((YC x b).1::(YH (don.length+1) todo).1))):=by
   intro b
   rw [Ych x b (ht x (by simp)),YOm,bne0]
   rcases Yik x b with ⟨h1,_⟩ | ⟨h1,h2⟩
   ·rw [YKm h1,YMm,YQm h1]
   ·have h1':¬(YC x b).2≠0:=fun h=> h h1
    rw [YLm h1',YNm,YPm h1',Ym,YKm hi,YMm,hset,hw]
    have ih:=YK9 s todo (don++[(YC x b).1]) (by simp only [YUm,YTm,YYm]; omega) (fun y hy=> by
     rcases Y6n.1 hy with hy | hy
     ·exact hd y hy
     ·rw [Yjn.1 hy]; exact h2) (fun y hy=> ht y (by simp [hy]))
    have hlen:(don++[(YC x b).1]).length=don.length+1:=by simp
    rw [hlen,show ((don++[(YC x b).1])++todo).length=(don++x::todo).length from by simp only [YUm,YTm,YYm]; omega] at ih
    rw [ih]
    simp only [YVm,List.singleton_append]
  rw [YP9,Yl,YKm hi,YMm,Ym,YKm hi,YMm,hg,w64 (by omega) (by omega)]
  rw [Ym,YKm hi] at step
  rw [YH]
  have fin:∀ b:Bool,b=(todo.isEmpty&&decide (0 < don.length))->(if (YC x b).2≠0 then (([]:List UInt8),(YC x b).2) else if (YH (don.length+1) todo).2≠0 then ([],(YH (don.length+1) todo).2) else YT2 (don++((YC x b).1::(YH (don.length+1) todo).1)))=
    (if (if (YC x (todo.isEmpty&&decide (0 < don.length))).2≠0 then (([]:List (List UInt8)),(YC x (todo.isEmpty&&decide (0 < don.length))).2) else if (YH (don.length+1) todo).2≠0 then ([],(YH (don.length+1) todo).2) else ((YC x (todo.isEmpty&&decide (0 < don.length))).1::(YH (don.length+1) todo).1,0)).2≠0 then ([],(if (YC x (todo.isEmpty&&decide (0 < don.length))).2≠0 then (([]:List (List UInt8)),(YC x (todo.isEmpty&&decide (0 < don.length))).2) else if (YH (don.length+1) todo).2≠0 then ([],(YH (don.length+1) todo).2) else ((YC x (todo.isEmpty&&decide (0 < don.length))).1::(YH (don.length+1) todo).1,0)).2)
     else YT2 (don++(if (YC x (todo.isEmpty&&decide (0 < don.length))).2≠0 then (([]:List (List UInt8)),(YC x (todo.isEmpty&&decide (0 < don.length))).2) else if (YH (don.length+1) todo).2≠0 then ([],(YH (don.length+1) todo).2) else ((YC x (todo.isEmpty&&decide (0 < don.length))).1::(YH (don.length+1) todo).1,0)).1)):=by
   rintro b rfl
   by_cases c:(YC x (todo.isEmpty&&decide (0 < don.length))).2≠0
   ·rw [YQm c,YQm c,YQm c]
   ·rw [YPm c,YPm c]
    by_cases d:(YH (don.length+1) todo).2≠0
    ·rw [YQm d,YQm d,YQm d]
    ·rw [YPm d,YPm d,YPm (by simp)]
  cases todo with
  | nil=>
   rw [show ((don.length:Int)==(((don++[x]).length:Nat):Int) - 1)=true from beq_iff_eq.2 (by simp),YMm,step,show decide ((don.length:Int) > 0)=decide (0 < don.length) from by by_cases h:0 < don.length <;> simp [h],fin _ (by simp)]
  | cons z todo=>
   rw [show ((don.length:Int)==(((don++x::z::todo).length:Nat):Int) - 1)=false from YWm.2 (by simp only [YUm,YTm]; omega),YNm,step,fin _ (by simp)]
theorem Y1h (s:List UInt8):Ye3 s=some (Yf1 s):=by
 rw [Y0h,Yye,YDb,YOm]
 unfold Yf1
 cases hv:(Y93 s).1 with
 | false=> rw [Ybn,YMm,YQm rfl]
 | true=>
  rw [Yan,YNm,YPm (by simp)]
  by_cases c:65536 < s.length
  ·rw [show decide ((s.length:Int) > 65536)=true from YKm (by omega),YMm,YQm c]
  ·rw [show decide ((s.length:Int) > 65536)=false from YLm (by omega),YNm,YPm c]
   by_cases d:s=[]
   ·rw [show (s==[])=true from by rw [d]; rfl,YMm,YQm d]
   ·have hsl:=YL6 s
    have hdl:=Y68 (YF s) []
    have h1:=Yb7 s (by omega) (YF s) [] [] [] (YWl s) (by rw [Ynm s hv]; rfl) (by simp only [YYm]; omega)
    have h2:=YK9 s ((dcut [] (YF s)).map Yk) [] (by simp only [YYm,List.length_map]; omega) (fun x hx=> by cases hx) (fun x hx=> by
     obtain ⟨y,hy,rfl⟩:=List.mem_map.1 hx
     have:=Y78 _ _ y hy
     have:=Y1e y
     simp only [YYm] at*; omega)
    rw [show (s==[])=false from by simpa using d,YNm,YPm d]
    rw [Yw2,YYm,Nat.add_zero,Yen] at h1
    rw [Yen,YYm,Yen] at h2
    rw [show ((0:Nat):Int)=0 from rfl] at h1 h2
    rw [h1,h2]
end Go.Abs
namespace Go.Abs
theorem Ysm (y:List UInt8):y.length<=(Y63 y).length+1:=by
 unfold Y63; split
 ·rw [List.length_dropLast]; omega
 ·omega
end Go.Abs
namespace Go.Abs
def hnil:D35:=((0:Int),(([]:List UInt8),((0:Int),z8)))
theorem Ytc:((Ty.zero (.int .i64)),((Ty.zero .str),((Ty.zero (.int .u32)),(Ty.zero (.arr 8 (.int .u16))))))=hnil:=rfl
def badB (b:UInt8):Bool:=decide (Y9 b < 32)||(Y9 b==37||(Y9 b==127||Y11 (Y9 b)))
theorem Yzj:(List.range 256).all (fun n=> decide (Lib.indexByte forb (UInt8.ofNat (n:Int).toNat)>=0)==Y11 (n:Int))=true:=by kernel_rfl
theorem YAj (b:UInt8):decide (Lib.indexByte forb (UInt8.ofNat (Y9 b).toNat)>=0)=Y11 (Y9 b):=by
 have h:=Ym7 b
 obtain ⟨n,hn⟩:=Int.eq_ofNat_of_zero_le h.1
 have:=List.all_eq_true.1 Yzj n (List.mem_range.2 (by omega))
 rw [hn]
 exact beq_iff_eq.1 this
def YK4 (name:List UInt8):D35×Int:=
 if Y86 name=true then (if (ipOf name).2≠0 then (hnil,(ipOf name).2) else (((2:Int),(([]:List UInt8),((ipOf name).1,z8))),0)) else (((1:Int),(name,((0:Int),z8))),0)
def Yp9 (s:List UInt8):D35×Int:=
 if (Yf1 (Yv1 s)).2≠0 then (hnil,(Yf1 (Yv1 s)).2) else if (Yf1 (Yv1 s)).1=[] then (hnil,51)
 else if (Yf1 (Yv1 s)).1.any badB=true then (hnil,52) else YK4 (Yf1 (Yv1 s)).1
def YL8 (s:List UInt8):D35×Int:=
 if Yc6 s=true then (hnil,52) else if 65536 < (Y34 s).length then (hnil,5) else (((4:Int),(Y34 s,((0:Int),z8))),0)
def Yu3 (s:List UInt8):List UInt8:=(s.take (s.length - 1)).drop 1
def YSd (s:List UInt8):D35×Int:=
 if s.getLast? ≠some 93 then (hnil,51) else if s.length < 2 then (hnil,51) else if (v6Of (Yu3 s)).2≠0 then (hnil,(v6Of (Yu3 s)).2)
 else (((3:Int),(([]:List UInt8),((0:Int),(v6Of (Yu3 s)).1))),0)
def YW8 (s:List UInt8) (sp:Bool):D35×Int:=
 if 65536 < s.length then (hnil,5) else if s.head? =some 91 then YSd s
 else if sp=true then Yp9 s else if s=[] then (((5:Int),(([]:List UInt8),((0:Int),z8))),0) else YL8 s
theorem Y3c (s:List UInt8) (sp:Bool) (name:List UInt8) (hn:name.length<=65536):∀ (n i:Nat),i+n=name.length->Z01 s sp name (name.length:Int) (i:Int) hnil=some (if (name.drop i).any badB=true then (hnil,52) else YK4 name)
 | 0,i,h=> by
  have:i=name.length:=by omega
  subst this
  rw [YM9,Yl,YLm (Ycn _),YNm,List.drop_length,YPm (by simp),YRg name (by omega),YOm]
  unfold YK4
  cases Y86 name with
  | false=> rw [YNm,YPm (by simp)]; rfl
  | true=>
   rw [YMm,YQm rfl,YTg name (by omega),YOm,bne0]
   by_cases c:(ipOf name).2≠0
   ·rw [YKm c,YMm,YQm c]; rfl
   ·rw [YLm c,YNm,YPm c]; rfl
 | n+1,i,h=> by
  have hi:i < name.length:=by omega
  have hw:IntKind.i64.wrap ((i:Int)+1)=((i+1:Nat):Int):=by rw [w64 (by omega) (by omega)]; omega
  have hg:(((UInt8.toNat (List.getD name (Int.toNat (i:Int)) (0:UInt8))):Nat):Int)=Y9 name[i]:=by
   rw [YSm,Y1n,Y2n hi]; rfl
  rw [YM9,Yl,YKm hi,YMm,Ym,YKm hi,YMm,hg,hw,YXm hi,List.any_cons,Y3c s sp name hn n (i+1) (by omega),YY3,YY1]
  have e:badB name[i]=(decide (Y9 name[i] < 32)||(Y9 name[i]==37||(Y9 name[i]==127||Y11 (Y9 name[i])))):=rfl
  rw [e]
  have key:((some (Lib.indexByte forb (UInt8.ofNat (Y9 name[i]).toNat))).bind fun y0=> bif (decide (y0>=(0:Int))) then some (hnil,(52:Int)) else some (if (name.drop (i+1)).any badB=true then (hnil,(52:Int)) else YK4 name))=some (if (Y11 (Y9 name[i])||(name.drop (i+1)).any badB)=true then (hnil,52) else YK4 name):=by
   rw [YOm,YAj]
   cases Y11 (Y9 name[i]) with
   | true=> rw [YMm,Y9n,YQm rfl]
   | false=> rw [YNm,Y8n]
  cases decide (Y9 name[i] < 32) with
  | true=> rw [YMm,Y9n,Y9n,YQm rfl]; rfl
  | false=>
   rw [YNm,Y8n]
   cases (Y9 name[i]==37) with
   | true=> rw [YMm,Y9n,Y9n,YQm rfl]; rfl
   | false=>
    rw [YNm,Y8n]
    cases (Y9 name[i]==127) with
    | true=> rw [YMm,Y9n,Y9n,YQm rfl]; rfl
    | false=>
     rw [YNm,Y8n]
     exact key
theorem Y9k (l:List (List UInt8)):(YT2 l).1.length<=254:=by
 unfold YT2
 split
 ·simp
 ·have:=Ysm (Lib.join l [46])
  dsimp only; omega
theorem Ytg (s:List UInt8):(Yf1 s).1.length<=254:=by
 unfold Yf1
 repeat' split
 all_goals first | exact Y9k _ | simp
theorem Yfm (s:List UInt8) (sp:Bool) (hs:s.length<=65536):((Yg3 s).bind fun y0=>
         (Ye3 y0).bind fun y1=>
          bif (y1.2 !=(0:Int)) then
           some (((Ty.zero (.int .i64)),((Ty.zero .str),((Ty.zero (.int .u32)),(Ty.zero (.arr 8 (.int .u16)))))),y1.2)
          else
           bif (y1.1==([]:List UInt8)) then
            some (((Ty.zero (.int .i64)),((Ty.zero .str),((Ty.zero (.int .u32)),(Ty.zero (.arr 8 (.int .u16)))))),(51:Int))
           else
            Z01 s sp y1.1 (((List.length y1.1):Nat):Int) (0:Int) ((Ty.zero (.int .i64)),((Ty.zero .str),((Ty.zero (.int .u32)),(Ty.zero (.arr 8 (.int .u16)))))))=some (Yp9 s):=by
 have hl:=Ytg (Yv1 s)
 rw [Ytc,YBh s (by omega),YOm,Y1h,YOm,bne0]
 unfold Yp9
 by_cases c:(Yf1 (Yv1 s)).2≠0
 ·rw [YKm c,YMm,YQm c]
 ·rw [YLm c,YNm,YPm c]
  by_cases d:(Yf1 (Yv1 s)).1=[]
  ·rw [show ((Yf1 (Yv1 s)).1==[])=true from by rw [d]; rfl,YMm,YQm d]
  ·have:=Y3c s sp (Yf1 (Yv1 s)).1 (by omega) (Yf1 (Yv1 s)).1.length 0 (by omega)
   rw [show ((0:Nat):Int)=0 from rfl,List.drop_zero] at this
   rw [show ((Yf1 (Yv1 s)).1==[])=false from by simpa using d,YNm,YPm d,this]
theorem YXk (s:List UInt8) (hs:s.length<=65536):((Yj3 (s,([(0:UInt8),(9:UInt8),(10:UInt8),(13:UInt8),(32:UInt8),(35:UInt8),(47:UInt8),(58:UInt8),(60:UInt8),(62:UInt8),(63:UInt8),(64:UInt8),(91:UInt8),(92:UInt8),(93:UInt8),(94:UInt8),(124:UInt8)]:List UInt8))).bind fun y0=>
         bif y0 then
          some (((Ty.zero (.int .i64)),((Ty.zero .str),((Ty.zero (.int .u32)),(Ty.zero (.arr 8 (.int .u16)))))),(52:Int))
         else
          (Yh3 ((1:Int),s)).bind fun y1=>
           bif (decide ((((List.length y1.1):Nat):Int) > (65536:Int))) then
            some (((Ty.zero (.int .i64)),((Ty.zero .str),((Ty.zero (.int .u32)),(Ty.zero (.arr 8 (.int .u16)))))),(5:Int))
           else
            some (((4:Int),(y1.1,((Ty.zero (.int .u32)),(Ty.zero (.arr 8 (.int .u16)))))),(0:Int)))=some (YL8 s):=by
 rw [show ([(0:UInt8),(9:UInt8),(10:UInt8),(13:UInt8),(32:UInt8),(35:UInt8),(47:UInt8),(58:UInt8),(60:UInt8),(62:UInt8),(63:UInt8),(64:UInt8),(91:UInt8),(92:UInt8),(93:UInt8),(94:UInt8),(124:UInt8)]:List UInt8)=forb from rfl,Yje s (by omega),YOm,Ytc]
 unfold YL8
 cases Yc6 s with
 | true=> rw [YMm,YQm rfl]
 | false=>
  rw [YNm,YPm (by simp),YEh s (by omega),YOm]
  by_cases c:65536 < (Y34 s).length
  ·rw [show decide (((Y34 s).length:Int) > 65536)=true from YKm (by omega),YMm,YQm c]
  ·rw [show decide (((Y34 s).length:Int) > 65536)=false from YLm (by omega),YNm,YPm c]; rfl
theorem YZg (s:List UInt8) (sp:Bool):YA7 (s,sp)=some (YW8 s sp):=by
 rw [YYg,Yig]
 unfold YW8
 simp only
 by_cases a:65536 < s.length
 ·rw [show decide ((s.length:Int) > 65536)=true from YKm (by omega),YMm,YQm a]; rfl
 rw [show decide ((s.length:Int) > 65536)=false from YLm (by omega),YNm,YPm a,Yfm s sp (by omega),YXk s (by omega)]
 cases s with
 | nil=>
  rw [show (!(([]:List UInt8)==[]))=false from rfl,YNm,YPm (by simp)]
  cases sp with
  | true=> rw [Yan,YNm,YQm rfl]; rfl
  | false=> rw [Ybn,YMm,YPm (by simp),YQm rfl,show ((([]:List UInt8))==[])=true from rfl,YMm]; rfl
 | cons b t=>
  have hlen:(b::t).length=t.length+1:=rfl
  have hne:((b::t)==([]:List UInt8))=false:=rfl
  have h0:(((UInt8.toNat (List.getD (b::t) (Int.toNat (0:Int)) (0:UInt8))):Nat):Int)=Y9 b:=rfl
  rw [hne,Ybn,YMm,Ys8,YMm,h0]
  by_cases c:b=91
  ·subst c
   have hw:IntKind.i64.wrap ((((91:UInt8)::t).length:Int) - 1)=((((91:UInt8)::t).length - 1:Nat):Int):=by rw [w64 (by omega) (by omega)]; omega
   rw [show (Y9 91==91)=true from rfl,YMm,hw,Ym,YKm (by omega),YMm,YSm,YQm (show ((91:UInt8)::t).head? =some 91 from rfl)]
   unfold YSd
   rw [Yoc _ (by omega)]
   generalize hgl:List.getD ((91:UInt8)::t) (((91:UInt8)::t).length - 1) 0=g
   by_cases d:g=93
   ·subst d
    rw [show ((((93:UInt8).toNat:Nat):Int) !=93)=false from rfl,YNm,YPm (by simp)]
    by_cases e:((91:UInt8)::t).length < 2
    ·rw [show decide (((((91:UInt8)::t).length:Nat):Int) < 2)=true from YKm (by omega),YMm,YQm e]; rfl
    ·have hcut:Yn (some (1:Int)) (some ((((91:UInt8)::t).length - 1:Nat):Int)) ((91:UInt8)::t)=Yu3 ((91:UInt8)::t):=YX5 1 _ _
     have hil:(Yu3 ((91:UInt8)::t)).length<=65536:=by
      unfold Yu3
      rw [Y5n,Y4n]; omega
     rw [show decide (((((91:UInt8)::t).length:Nat):Int) < 2)=false from YLm (by omega),YNm,YPm e,show Yh (some (1:Int)) (some ((((91:UInt8)::t).length - 1:Nat):Int)) ((91:UInt8)::t).length=true from YY5 (f:=1) (by omega) (by omega),YMm,hcut,YVg _ (by omega),YOm,bne0]
     by_cases f:(v6Of (Yu3 ((91:UInt8)::t))).2≠0
     ·rw [YKm f,YMm,YQm f]; rfl
     ·rw [YLm f,YNm,YPm f]; rfl
   ·have hb:((((g.toNat:Nat):Int)) !=93)=true:=bne_iff_ne.2 (fun h=> d (YUa (show Y9 g=Y9 93 from h)))
    rw [hb,YMm,YQm (by simpa using d)]; rfl
  ·have hb:(Y9 b==91)=false:=YWm.2 (fun h=> c (YUa (show Y9 b=Y9 91 from h)))
   rw [hb,YNm,YPm (by simpa using c)]
   cases sp with
   | true=> rw [Yan,YNm,YQm rfl]; rfl
   | false=> rw [Ybn,YMm,YPm (by simp),YPm (by simp),YNm]; rfl
end Go.Abs
namespace Go.Abs
def Yod (c:Int):Prop:=32<=c/\c<=126
instance (c:Int):Decidable (Yod c):=by unfold Yod; infer_instance
end Go.Abs
