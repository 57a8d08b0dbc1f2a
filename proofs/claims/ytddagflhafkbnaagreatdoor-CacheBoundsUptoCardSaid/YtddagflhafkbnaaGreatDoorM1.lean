/- Part M1 of the proof: see the last text of the claim. No condition of its own. -/
import Derived.Test.YtddagflhafkbnaaGreatDoorQ3
import Derived.Test.YtddagflhafkbnaaGreatDoorL8
set_option linter.all false
set_option autoImplicit false
namespace Go.Abs
def eqO (a b:D37):Bool:=Ty.beq T37 a b
theorem Yq3 (a b:D37):eqO a b=true↔a=b:=by
 obtain ⟨a1,a2,a3,a4⟩:=a
 obtain ⟨b1,b2,b3,b4⟩:=b
 show ((a1==b1)&&((a2==b2)&&(Ty.beq T35 a3 b3&&(a4==b4))))=true↔_
 rw [YRm,YRm,YRm,beqH]
 simp only [beq_iff_eq,Yfn]
theorem Yac {a b:D37} (h:a≠b):eqO a b=false:=by
 cases e:eqO a b with
 | false=> rfl
 | true=> exact absurd ((Yq3 a b).1 e) h
theorem Yg8 (a:D37):eqO a a=true:=(Yq3 a a).2 rfl
def Yw1 (o:D37):List D87->Option Nat
 | []=> none
 | e::l=> bif eqO e.1 o then some 0 else (Yw1 o l).map (·+1)
def delO (o:D37):List D87->List D87
 | []=> []
 | e::l=> bif eqO e.1 o then l else e::delO o l
def getO (o:D37):List D87->Option (List Int)
 | []=> none
 | e::l=> bif eqO e.1 o then some e.2 else getO o l
theorem Yh8 {o:D37}:∀ {r:List D87},Yw1 o r=none->delO o r=r/\getO o r=none
 | [],_=> ⟨rfl,rfl⟩
 | e::l,h=> by
  unfold Yw1 at h
  unfold delO getO
  cases c:eqO e.1 o with
  | true=> rw [c] at h; cases h
  | false=>
   rw [c,YNm,Option.map_eq_none_iff] at h
   obtain ⟨h1,h2⟩:=Yh8 h
   exact ⟨by rw [YNm,h1],by rw [YNm,h2]⟩
theorem Yi8 {o:D37}:∀ {r:List D87} {n:Nat},Yw1 o r=some n->n < r.length/\r.take n++r.drop (n+1)=delO o r/\getO o r=some (r.getD n (Ty.zero T87)).2
 | [],_,h=> by cases h
 | e::l,n,h=> by
  unfold Yw1 at h
  unfold delO getO
  cases c:eqO e.1 o with
  | true=>
   rw [c] at h
   obtain rfl:=Option.some.inj h
   exact ⟨Nat.succ_pos _,rfl,rfl⟩
  | false=>
   rw [c,YNm,Ygn] at h
   obtain ⟨m,h,rfl⟩:=h
   obtain ⟨h1,h2,h3⟩:=Yi8 h
   exact ⟨Nat.succ_lt_succ h1,by rw [YNm,<-h2]; rfl,by rw [YNm,h3]; rfl⟩
def idxO (o:D37) (r:List D87):Int:=match Yw1 o r with
 | some n=> (n:Int)
 | none=> -1
theorem Yfc (r:List D87) (o:D37) (hr:r.length<=1000000000):∀ (k i:Nat),i+k=r.length->Zm4 r o (r.length:Int) (i:Int)=some (match Yw1 o (r.drop i) with
  | some n=> ((i+n:Nat):Int)
  | none=> -1)
 | 0,i,hk=> by
  rw [Yha,Yl,YLm (by omega),YNm,List.drop_eq_nil_of_le (by omega)]; rfl
 | k+1,i,hk=> by
  have hw:IntKind.i64.wrap ((i:Int)+1)=((i+1:Nat):Int):=by rw [w64 (by omega) (by omega)]; omega
  have hd:r.drop i=r.getD i (Ty.zero T87)::r.drop (i+1):=by
   rw [Y1n,Y2n (by omega),YXm (by omega)]; rfl
  rw [Yha,Yl,YKm (by omega),YMm,Ym,YKm (by omega),YMm,YSm,YIg,YKf,YOm,hw,Yfc r o hr k (i+1) (by omega),hd]
  rw [show Yw1 o (r.getD i (Ty.zero T87)::r.drop (i+1))=(bif eqO (r.getD i (Ty.zero T87)).1 o then some 0 else (Yw1 o (r.drop (i+1))).map (·+1)) from rfl]
  show (bif eqO (r.getD i (Ty.zero T87)).1 o then _ else _)=_
  cases c:eqO (r.getD i (Ty.zero T87)).1 o with
  | true=> rfl
  | false=>
   rw [YNm,YNm]
   cases Yw1 o (r.drop (i+1)) with
   | none=> rfl
   | some n=> show some _=some _; congr 1; show ((i+1+n:Nat):Int)=((i+(n+1):Nat):Int); omega
theorem Ygc (m:Int) (r:List D87) (o:D37) (hm:0 < m) (hr:r.length<=1000000000):Yw5 ((m,r),o)=some (idxO o r,(m,r)):=by
 rw [YJg,Ygf,Yt7,Yd7,YOm]
 dsimp only
 rw [YKm (show m > 0 from hm),Yan,YNm,Y4i,YDf]
 dsimp only
 have:=Yfc r o hr r.length 0 (by omega)
 rw [show ((0:Nat):Int)=0 from rfl,List.drop_zero] at this
 rw [this,YOm]
 unfold idxO
 cases Yw1 o r with
 | none=> rfl
 | some n=> show some (((0+n:Nat):Int),_)=_; rw [Nat.zero_add]
theorem Yaj (m:Int) (r:List D87) (o:D37) (hm:0 < m) (hr:r.length<=1000000000):Yo7 ((m,r),o)=some ((getO o r).isSome,(m,delO o r)):=by
 rw [YDg,Y0f]
 dsimp only
 rw [Ygc m r o hm hr,YOm]
 dsimp only
 unfold idxO
 cases c:Yw1 o r with
 | none=>
  obtain ⟨h1,h2⟩:=Yh8 c
  rw [h1,h2]; rfl
 | some n=>
  obtain ⟨h1,h2,h3⟩:=Yi8 c
  have hw:IntKind.i64.wrap ((n:Int)+1)=((n+1:Nat):Int):=by rw [w64 (by omega) (by omega)]; omega
  dsimp only
  rw [YKm (show (n:Int)>=0 by omega),YMm,hw,Ylb,h3]
  unfold Y03
  dsimp only
  rw [YKm (show (0:Int)<=(n:Int) by omega),YKm (show (n:Int)<=((n+1:Nat):Int) by omega),YKm (show ((n+1:Nat):Int)<=(r.length:Int) by omega),YKm (show r.length<=4294967296 by omega)]
  rw [YSm,YSm,h2]; rfl
theorem YKj (m:Int) (r:List D87) (o:D37) (hm:0 < m) (hr:r.length<=1000000000) (hl:∀ e∈r,e.2.length<=1000000000):Yq7 ((m,r),o)=some (match getO o r with
  | some h=> (h,(true,(m,r)))
  | none=> ([],(false,(m,r)))):=by
 rw [YFg,YOe]
 dsimp only
 rw [Ygc m r o hm hr,YOm]
 dsimp only
 unfold idxO
 cases c:Yw1 o r with
 | none=>
  obtain ⟨h1,h2⟩:=Yh8 c
  rw [h2]; rfl
 | some n=>
  obtain ⟨h1,h2,h3⟩:=Yi8 c
  dsimp only
  have hmem:r.getD n (Ty.zero T87)∈r:=by
   rw [Y1n,Y2n h1]
   exact List.getElem_mem h1
  rw [YLm (show ¬(n:Int) < 0 by omega),YNm,Ym,YKm h1,YMm,YSm,YP7,h3]
  unfold Yt2
  rw [YKm (show (r.getD n (Ty.zero T87)).2.length<=4294967296 from Nat.le_trans (hl _ hmem) (by omega))]; rfl
theorem Y8c (m:Int) (r:List D87) (hr:r.length<=1000000000) (hl:∀ e∈r,e.2.length<=1000000000):∀ (k i:Nat),i+k=r.length->Zb4 (r.length:Int) (i:Int) m r (r.take i)=some (r,(m,r))
 | 0,i,hk=> by rw [Y0a,Yl,YLm (by omega),YNm,List.take_of_length_le (by omega)]
 | k+1,i,hk=> by
  have hw:IntKind.i64.wrap ((i:Int)+1)=((i+1:Nat):Int):=by rw [w64 (by omega) (by omega)]; omega
  have hg:r.getD i (Ty.zero T87)=r[i]'(by omega):=by rw [Y1n,Y2n (by omega)]; rfl
  have hmem:r.getD i (Ty.zero T87)∈r:=by rw [hg]; exact List.getElem_mem _
  rw [Y0a,Yl,YKm (by omega),YMm,Ym,YKm (by omega),YMm,YSm,YP7]
  unfold Yt2
  rw [YKm (show (r.getD i (Ty.zero T87)).2.length<=4294967296 from Nat.le_trans (hl _ hmem) (by omega)),YMm,YOm,hw]
  show (bif decide ((r.take i).length+1<=lim) then Zb4 _ _ _ _ (r.take i++[r.getD i (Ty.zero T87)]) else none)=_
  rw [YKm (show (r.take i).length+1<=lim by rw [Y4n]; unfold lim; omega),YMm,hg,<-List.take_succ_eq_append_getElem (by omega)]
  exact Y8c m r hr hl k (i+1) (by omega)
theorem Yij (m:Int) (r:List D87) (hm:0 < m) (hr:r.length<=1000000000) (hl:∀ e∈r,e.2.length<=1000000000):Yp7 (m,r)=some (r,(m,r)):=by
 rw [YEg,Y5f,Yt7,Yd7,YOm]
 dsimp only
 rw [YKm (show m > 0 from hm),Yan,YNm]
 exact Y8c m r hr hl r.length 0 (by omega)
theorem Y8d (m:Int) (r:List D87) (hr:r.length<=1000000000):∀ (k i:Nat),i+k=r.length->Z34 (r.length:Int) (i:Int) m r ((r.take i).map (·.1)) r=some (r.map (·.1),(m,r))
 | 0,i,hk=> by rw [YQ9,Yl,YLm (by omega),YNm,List.take_of_length_le (by omega)]
 | k+1,i,hk=> by
  have hw:IntKind.i64.wrap ((i:Int)+1)=((i+1:Nat):Int):=by rw [w64 (by omega) (by omega)]; omega
  have hg:r.getD i (Ty.zero T87)=r[i]'(by omega):=by rw [Y1n,Y2n (by omega)]; rfl
  rw [YQ9,Yl,YKm (by omega),YMm,Ym,YKm (by omega),YMm,YSm,hw]
  rw [YKm (show ((r.take i).map (·.1)).length+([(r.getD i (Ty.zero T87)).1]:List D37).length<=lim by rw [List.length_map,Y4n]; unfold lim; simp; omega),YMm,hg]
  have e:(r.take i).map (fun e:D87=> e.1)++[(r[i]'(by omega)).1]=(r.take (i+1)).map (·.1):=by
   rw [List.take_succ_eq_append_getElem (by omega),List.map_append]; rfl
  rw [e]
  exact Y8d m r hr k (i+1) (by omega)
theorem Y5l (m:Int) (r:List D87) (hm:0 < m) (hr:r.length<=1000000000) (hl:∀ e∈r,e.2.length<=1000000000):Yr7 (m,r)=some (r.map (·.1),(m,r)):=by
 rw [YGg,YCe,Yij m r hm hr hl,YOm]
 exact Y8d m r hr r.length 0 (by omega)
def putO (m:Int) (r:List D87) (o:D37) (h:List Int):List D87:=(bif !(getO o r).isSome&&((delO o r).length==m.toNat) then (delO o r).drop 1 else delO o r)++[(o,h)]
theorem Y0c (o:D37):∀ r:List D87,(delO o r).length<=r.length
 | []=> Nat.le_refl _
 | e::l=> by
  unfold delO
  cases eqO e.1 o with
  | true=> exact Nat.le_succ _
  | false=> exact Nat.succ_le_succ (Y0c o l)
theorem Ysl (m:Int) (r:List D87) (o:D37) (h:List Int) (hm:0 < m) (hr:r.length<=100000000) (hh:h.length<=1000000000) (e:Int) (he:Yy5 (o,h)=some e):Ys7 ((m,r),(o,h))=some (if e=0 then (0,(m,putO m r o h)) else (e,(m,r))):=by
 have hd:=Y0c o r
 have fin:∀ r2:List D87,r2.length<=100000000->Z14 o h m o r2=some (0,(m,r2++[(o,h)])):=by
  intro r2 h2
  rw [YAe,YP7]
  unfold Yt2
  rw [YKm (show h.length<=4294967296 by omega),YMm,YOm]
  rw [YKm (show r2.length+([(o,h)]:List D87).length<=lim by unfold lim; simp; omega),YMm]
 rw [YHg,Yxe,Yt7,Yd7,YOm]
 dsimp only
 rw [YKm (show m > 0 from hm),Yan,YNm,he,YOm]
 by_cases c:e=0
 ·rw [YQm c,show (e !=0)=false from by rw [c]; rfl,YNm,Yaj m r o hm (by omega),YOm]
  dsimp only
  unfold putO
  cases g:(getO o r).isSome with
  | true=>
   rw [Yan,YNm,Bool.false_and,YNm]
   exact fin _ (by omega)
  | false=>
   rw [Ybn,YMm,Bool.true_and]
   have hb:((((delO o r).length:Nat):Int)==m)=((delO o r).length==m.toNat):=by
    by_cases q:(delO o r).length=m.toNat
    ·rw [beq_iff_eq.2 q]; exact beq_iff_eq.2 (by omega)
    ·rw [YWm.2 q]; exact YWm.2 (by omega)
   rw [hb]
   cases q:((delO o r).length==m.toNat) with
   | false=> rw [YNm,YNm]; exact fin _ (by omega)
   | true=>
    have q:=beq_iff_eq.1 q
    rw [YMm,YMm,Ylb]
    unfold Y03
    dsimp only
    rw [YKm (show (0:Int)<=0 by omega),YKm (show (0:Int)<=1 by omega),YKm (show (1:Int)<=((delO o r).length:Int) by omega),YKm (show (delO o r).length<=4294967296 by omega)]
    have e1:(delO o r).take (Int.toNat 0)++(delO o r).drop (Int.toNat 1)=(delO o r).drop 1:=rfl
    rw [e1]
    exact fin _ (by rw [Y5n]; omega)
 ·rw [YPm c,show (e !=0)=true from bne_iff_ne.2 c,YMm]
end Go.Abs
namespace Go.Abs
theorem Y94 {o:D37}:∀ {r:List D87},getO o r=none↔∀ e∈r,e.1≠o
 | []=> Iff.intro (fun _ e h=> by cases h) (fun _=> rfl)
 | x::l=> by
  unfold getO
  cases c:eqO x.1 o with
  | true=>
   exact Iff.intro (fun h=> by cases h) (fun h=> absurd ((Yq3 _ _).1 c) (h x (by simp)))
  | false=>
   rw [YNm,Y94 (r:=l)]
   refine ⟨fun h e he=> ?_,fun h e he=> h e (by simp [he])⟩
   rcases Y0n.1 he with rfl | he
   ·intro q; rw [q,Yg8] at c; cases c
   ·exact h e he
theorem Ypc {o:D37} {b:List D87}:∀ {a:List D87},getO o a=none->getO o (a++b)=getO o b
 | [],_=> rfl
 | x::l,h=> by
  unfold getO at h
  cases c:eqO x.1 o with
  | true=> rw [c] at h; cases h
  | false=>
   rw [c,YNm] at h
   show (bif eqO x.1 o then some x.2 else getO o (l++b))=_
   rw [c,YNm,Ypc h]
theorem YJj (x:D87) (l:List D87):getO x.1 (x::l)=some x.2:=by
 show (bif eqO x.1 x.1 then some x.2 else getO x.1 l)=_
 rw [Yg8]; rfl
theorem Y46 {o:D37}:∀ {r:List D87},getO o r=none->delO o r=r
 | [],_=> rfl
 | x::l,h=> by
  unfold getO at h
  unfold delO
  cases c:eqO x.1 o with
  | true=> rw [c] at h; cases h
  | false=> rw [c,YNm] at h; rw [YNm,Y46 h]
theorem YZb {o:D37} {b:List D87}:∀ {a:List D87},getO o a=none->delO o (a++b)=a++delO o b
 | [],_=> rfl
 | x::l,h=> by
  unfold getO at h
  show (bif eqO x.1 o then l++b else x::delO o (l++b))=_
  cases c:eqO x.1 o with
  | true=> rw [c] at h; cases h
  | false=> rw [c,YNm] at h; rw [YNm,YZb h]; rfl
theorem Y98 {o:D37} {b:List D87}:∀ {a:List D87},(getO o a).isSome=true->delO o (a++b)=delO o a++b/\(delO o a).length+1=a.length
 | [],h=> by cases h
 | x::l,h=> by
  unfold getO at h
  show (bif eqO x.1 o then l++b else x::delO o (l++b))=(bif eqO x.1 o then l else x::delO o l)++b/\(bif eqO x.1 o then l else x::delO o l).length+1=_
  cases c:eqO x.1 o with
  | true=> exact ⟨rfl,rfl⟩
  | false=>
   rw [c,YNm] at h
   obtain ⟨h1,h2⟩:=Y98 (b:=b) h
   rw [YNm,YNm,h1]
   exact ⟨rfl,by show (delO o l).length+1+1=l.length+1; rw [h2]⟩
theorem YUd (o:D37) (r:List D87):getO o r=none\/(getO o r).isSome=true:=by
 cases getO o r with
 | none=> exact .inl rfl
 | some _=> exact .inr rfl
def YV (x:D87) (l:List D87):Bool:=l.any fun y=> eqO y.1 x.1
def ded:List D87->List D87
 | []=> []
 | x::l=> bif YV x l then ded l else x::ded l
theorem YOc {x:D87} {l:List D87}:YV x l=true↔∃ y∈l,y.1=x.1:=by
 unfold YV
 rw [List.any_eq_true]
 exact ⟨fun ⟨y,h1,h2⟩=> ⟨y,h1,(Yq3 _ _).1 h2⟩,fun ⟨y,h1,h2⟩=> ⟨y,h1,(Yq3 _ _).2 h2⟩⟩
theorem YI4:∀ {l:List D87} {e:D87},e∈ded l->e∈l
 | [],_,h=> by cases h
 | x::l,e,h=> by
  unfold ded at h
  cases c:YV x l with
  | true=> rw [c] at h; exact List.mem_cons_of_mem _ (YI4 h)
  | false=>
   rw [c,YNm] at h
   rcases Y0n.1 h with rfl | h
   ·exact List.mem_cons_self
   ·exact List.mem_cons_of_mem _ (YI4 h)
theorem Y36:∀ l:List D87,(ded l).Pairwise fun a b=> a.1≠b.1
 | []=> List.Pairwise.nil
 | x::l=> by
  unfold ded
  cases c:YV x l with
  | true=> exact Y36 l
  | false=>
   rw [YNm]
   refine List.Pairwise.cons (fun y hy e=> ?_) (Y36 l)
   have:=YOc.2 ⟨y,YI4 hy,e.symm⟩
   rw [this] at c; cases c
theorem YXb (o:D37) (h:List Int):∀ l:List D87,ded (l++[(o,h)])=delO o (ded l)++[(o,h)]
 | []=> rfl
 | x::l=> by
  have ih:=YXb o h l
  show (bif YV x (l++[(o,h)]) then ded (l++[(o,h)]) else x::ded (l++[(o,h)]))=delO o (bif YV x l then ded l else x::ded l)++[(o,h)]
  have ha:YV x (l++[(o,h)])=(YV x l||eqO o x.1):=by unfold YV; rw [List.any_append]; simp
  rw [ha,ih]
  cases c:YV x l with
  | true=> rw [Y9n,YMm,YMm]
  | false=>
   rw [Y8n,YNm]
   by_cases e:x.1=o
   ·rw [(Yq3 o x.1).2 e.symm,YMm]
    have hn:getO o (ded l)=none:=Y94.2 fun y hy q=> by
     have:=YOc.2 ⟨y,YI4 hy,q.trans e.symm⟩
     rw [this] at c; cases c
    rw [Y46 hn]
    show _=(bif eqO x.1 o then ded l else x::delO o (ded l))++_
    rw [(Yq3 x.1 o).2 e,YMm]
   ·rw [Yac (fun q=> e q.symm),YNm]
    show _=(bif eqO x.1 o then ded l else x::delO o (ded l))++_
    rw [Yac e,YNm]; rfl
theorem YYb (x:D87) (s:List D87) (hx:YV x s=false):∀ a:List D87,∃ a',ded (a++x::s)=a'++x::ded s
 | []=> ⟨[],by show (bif YV x s then ded s else x::ded s)=_; rw [hx]; rfl⟩
 | y::a=> by
  obtain ⟨a',ih⟩:=YYb x s hx a
  show ∃ a',(bif YV y (a++x::s) then ded (a++x::s) else y::ded (a++x::s))=_
  cases YV y (a++x::s) with
  | true=> exact ⟨a',ih⟩
  | false=> exact ⟨y::a',by rw [YNm,ih]; rfl⟩
theorem Y66 {α:Type} (b:List α) (k:Nat):∀ a:List α,(a++b).drop (a.length+k)=b.drop k
 | []=> by rw [YYm,Nat.zero_add]; rfl
 | x::a=> by rw [YTm,show a.length+1+k=(a.length+k)+1 from by omega,List.cons_append,List.drop_succ_cons,Y66 b k a]
def YU (m:Nat) (d:List D87):List D87:=d.drop (d.length - m)
theorem Yl6 (m:Nat) (d:List D87):(YU m d).length<=m:=by unfold YU; rw [Y5n]; omega
theorem Ynk (m:Nat) (hm:1<=m) (d:List D87) (o:D37) (h:List Int) (hd:d.Pairwise fun a b=> a.1≠b.1):putO (m:Int) (YU m d) o h=YU m (delO o d++[(o,h)]):=by
 obtain ⟨pre,r,hpr,hr,hpl⟩:∃ pre r,d=pre++r/\YU m d=r/\pre.length=d.length - m:=⟨d.take (d.length - m),d.drop (d.length - m),(List.take_append_drop _ _).symm,rfl,by rw [Y4n]; omega⟩
 have hlen:d.length=pre.length+r.length:=by rw [hpr,YUm]
 have hrl:r.length<=m:=by rw [<-hr]; exact Yl6 m d
 unfold putO
 rw [hr,YSm]
 rcases YUd o pre with c | c
 ·-- not in what is forgotten
  rw [hpr,YZb c]
  rcases YUd o r with g | g
  ·rw [g,Y46 g]
   show (bif (!false)&&(r.length==m) then _ else _)++_=_
   rw [Ybn,Bool.true_and]
   unfold YU
   rw [YUm,YUm,List.length_singleton]
   by_cases q:r.length=m
   ·rw [beq_iff_eq.2 q,YMm,show pre.length+r.length+1 - m=pre.length+1 from by omega,YVm,Y66,List.drop_append_of_le_length (by omega)]
   ·have hp:pre=[]:=List.eq_nil_of_length_eq_zero (by omega)
    subst hp
    rw [YWm.2 q,YNm,show List.length ([]:List D87)+r.length+1 - m=0 from by simp only [YYm]; omega]; rfl
  ·obtain ⟨g1,g2⟩:=Y98 (b:=[]) g
   rw [g]
   show (bif (!true)&&_ then _ else _)++_=_
   rw [Yan,Bool.false_and,YNm]
   unfold YU
   rw [YUm,YUm,List.length_singleton,show pre.length+(delO o r).length+1 - m=pre.length from by omega,YVm,List.drop_left]
 ·-- in what is forgotten
  obtain ⟨g1,g2⟩:=Y98 (b:=r) c
  have hg:getO o r=none:=by
   obtain ⟨v,hv⟩:=Option.isSome_iff_exists.1 c
   rw [Y94]
   intro e he q
   rw [hpr] at hd
   have hc:getO o pre=none:=Y94.2 fun x hx q'=> (List.pairwise_append.1 hd).2.2 x hx e he (q'.trans q.symm)
   rw [hc] at hv; cases hv
  have hp:r.length=m:=by omega
  rw [hg,Y46 hg,hpr,g1]
  show (bif (!false)&&(r.length==m) then _ else _)++_=_
  rw [Ybn,Bool.true_and,beq_iff_eq.2 hp,YMm]
  unfold YU
  rw [YUm,YUm,List.length_singleton,show (delO o pre).length+r.length+1 - m=(delO o pre).length+1 from by omega,YVm,Y66,List.drop_append_of_le_length (by omega)]
theorem Ymk (m:Nat) (a t:List D87) (x:D87) (hd:(a++x::t).Pairwise fun a b=> a.1≠b.1):getO x.1 (YU m (a++x::t))=if t.length+1<=m then some x.2 else none:=by
 obtain ⟨p1,p2,p3⟩:=List.pairwise_append.1 hd
 obtain ⟨q1,q2⟩:=List.pairwise_cons.1 p2
 unfold YU
 rw [YUm,YTm]
 by_cases c:t.length+1<=m
 ·rw [YQm c,List.drop_append_of_le_length (by omega),Ypc,YJj]
  exact Y94.2 fun y hy=> p3 y (List.mem_of_mem_drop hy) x List.mem_cons_self
 ·rw [YPm c,show a.length+(t.length+1) - m=a.length+(t.length - m+1) from by omega,Y66,List.drop_succ_cons]
  exact Y94.2 fun y hy e=> q1 y (List.mem_of_mem_drop hy) e.symm
end Go.Abs
namespace Go.Abs
def Y29 (s:List UInt8):Int×Bool:=bif s==[104,116,116,112] then (80,true) else bif s==[104,116,116,112,115] then (443,true) else bif s==[119,115] then (80,true) else bif s==[119,115,115] then (443,true) else bif s==[102,116,112] then (21,true) else (0,false)
theorem Yil (s:List UInt8) (hs:s.length<=1073741823):YC4 s=some (Y29 s):=by
 rw [Yyh]
 unfold YG3
 rw [YKm (show s.length<=140737488355328 by omega),YMm]; rfl
def Yk6 (k:Int):Bool:=(k==1)||((k==2)||(k==3))
theorem YQi (k:Int):YF4 (([(1:Int),(2:Int),(3:Int)]:List Int),k)=some (Yk6 k):=by
 have w1:IntKind.i64.wrap ((0:Int)+1)=1:=by kernel_rfl
 have w2:IntKind.i64.wrap ((1:Int)+1)=2:=by kernel_rfl
 have w3:IntKind.i64.wrap ((2:Int)+1)=3:=by kernel_rfl
 rw [Y3i,YOf,Y5i,YRf]
 dsimp only
 have e0:∀ i:Int,Zq4 ([(1:Int),(2:Int),(3:Int)]:List Int) k ((List.length ([(1:Int),(2:Int),(3:Int)]:List Int):Nat):Int) i=Zq4 ([(1:Int),(2:Int),(3:Int)]:List Int) k 3 i:=fun i=> rfl
 rw [e0]
 unfold Yk6
 rw [Yr5]
 show ((bif k==1 then some 0 else Zq4 _ k 3 (IntKind.i64.wrap (0+1))).bind _)=_
 rw [w1]
 cases h1:(k==1) with
 | true=> rfl
 | false=>
  rw [YNm,Yr5]
  show ((bif k==2 then some 1 else Zq4 _ k 3 (IntKind.i64.wrap (1+1))).bind _)=_
  rw [w2]
  cases h2:(k==2) with
  | true=> rfl
  | false=>
   rw [YNm,Yr5]
   show ((bif k==3 then some 2 else Zq4 _ k 3 (IntKind.i64.wrap (2+1))).bind _)=_
   rw [w3]
   cases h3:(k==3) with
   | true=> rfl
   | false=> rw [YNm,Yr5]; rfl
def opq (n:Int):D37:=(n,(([]:List UInt8),(hnil,(0:Int))))
noncomputable def YW6 (o:D37):Int:=bif o.1 !=0 then 71 else bif !(Y29 o.2.1).2 then 71 else bif !(Yk6 o.2.2.1.1) then 71 else bif YK2 o.2.2.1 !=0 then 71 else bif decide (o.2.2.2 < 0) then 71 else bif decide (o.2.2.2 > 65535) then 71 else 0
noncomputable def Yk4 (o:D37):Int:=bif decide (o.1 > 0)&&eqO o (opq o.1) then 0 else YW6 o
theorem Y4l (o:D37) (hs:o.2.1.length<=1073741823):((YC4 o.2.1).bind fun y0=>
    bif (o.1 !=(0:Int)) then
     some (71:Int)
    else
     bif (!y0.2) then
      some (71:Int)
     else
      (YF4 (([(1:Int),(2:Int),(3:Int)]:List Int),o.2.2.1.1)).bind fun y1=>
       bif (!y1) then
        some (71:Int)
       else
        (Yz4 o.2.2.1).bind fun y2=>
         bif (y2 !=(0:Int)) then
          some (71:Int)
         else
          bif (decide (o.2.2.2 < (0:Int))) then
           some (71:Int)
          else
           bif (decide (o.2.2.2 > (65535:Int))) then
            some (71:Int)
           else
            some (0:Int))=some (YW6 o):=by
 rw [Yil _ hs,YOm]
 unfold YW6
 cases (o.1 !=(0:Int)) with
 | true=> rfl
 | false=>
  rw [YNm,YNm]
  cases (!(Y29 o.2.1).2) with
  | true=> rfl
  | false=>
   rw [YNm,YNm,YQi,YOm]
   cases (!(Yk6 o.2.2.1.1)) with
   | true=> rfl
   | false=>
    rw [YNm,YNm,YPg,YOm]
    cases (YK2 o.2.2.1 !=0) with
    | true=> rfl
    | false=>
     rw [YNm,YNm]
     cases decide (o.2.2.2 < (0:Int)) with
     | true=> rfl
     | false=>
      rw [YNm,YNm]
      cases decide (o.2.2.2 > (65535:Int)) <;> rfl
theorem Y7d (o:D37) (hs:o.2.1.length<=1073741823):YE5 o=some (Yk4 o):=by
 rw [Yxh,Ylf,Y4l o hs]
 unfold Yk4
 cases decide (o.1 > 0) with
 | false=> rfl
 | true=>
  rw [YMm,Bool.true_and]
  show (bif eqO o (opq o.1) then some 0 else some (YW6 o))=_
  cases eqO o (opq o.1) <;> rfl
def YLc (l:List (List UInt8)) (s:List UInt8):Bool:=decide (0 < l.length)&&(l.getD (l.length - 1) []==s)
def YB8:List UInt8:=[108,111,99,97,108,104,111,115,116]
def YN3 (s:List UInt8):Bool:=(s==[104,116,116,112,115])||(s==[119,115,115])
def Y7e (o:D37):Bool:=
 bif o.2.2.1.1==2 then (shr IntKind.u32 o.2.2.1.2.2.1 24==127)||YN3 o.2.1
 else bif o.2.2.1.1==3 then (Ty.beq (.arr 8 (.int .u16)) o.2.2.1.2.2.2 (List.set (Ty.zero (.arr 8 (.int .u16))) 7 (1:Int)))||YN3 o.2.1
 else YLc (Yd4 o.2.2.1.2.1) YB8||YN3 o.2.1
noncomputable def YV6 (o:D37):Bool:=bif Yk4 o !=0 then false else bif decide (o.1 > 0) then false else Y7e o
theorem Yum (o:D37) (hs:o.2.1.length<=1073741823) (hn:o.2.2.1.2.1.length<=1073741823):YH7 o=some (YV6 o):=by
 have tl1:∀ x,Zh4 x o=some (YN3 o.2.1):=fun x=> by
  rw [Yrf]
  unfold YN3
  cases (o.2.1==([104,116,116,112,115]:List UInt8)) <;> rfl
 have tl2:∀ x,Zi4 x o=some (YN3 o.2.1):=fun x=> by rw [Yvf,tl1]
 have hl:=Ylk o.2.2.1.2.1
 rw [Yzh,Yof,Y7d o hs,YOm,tl1,tl2,YXg _ hn,YOm]
 unfold YV6 Y7e
 cases (Yk4 o !=0) with
 | true=> rfl
 | false=>
  rw [YNm,YNm]
  cases decide (o.1 > 0) with
  | true=> rfl
  | false=>
   rw [YNm,YNm]
   cases (o.2.2.1.1==(2:Int)) with
   | true=>
    rw [YMm,YMm]
    cases (shr IntKind.u32 o.2.2.1.2.2.1 24==127) <;> rfl
   | false=>
    rw [YNm,YNm]
    cases (o.2.2.1.1==(3:Int)) with
    | true=>
     rw [YMm,YMm]
     cases (Ty.beq (.arr 8 (.int .u16)) o.2.2.1.2.2.2 (List.set (Ty.zero (.arr 8 (.int .u16))) 7 (1:Int))) <;> rfl
    | false=>
     rw [YNm,YNm]
     unfold YLc
     generalize Yd4 o.2.2.1.2.1=L at hl
     by_cases c:0 < L.length
     ·have hw:IntKind.i64.wrap (((L.length:Nat):Int) - 1)=((L.length - 1:Nat):Int):=by rw [w64 (by omega) (by omega)]; omega
      rw [YKm (show ((L.length:Nat):Int) > 0 by omega),YMm,hw,Ym,YKm (by omega),YMm,YSm,YKm c,Bool.true_and]
      show (bif (L.getD (L.length - 1) []==YB8) then some true else some (YN3 o.2.1))=_
      cases (L.getD (L.length - 1) []==YB8) <;> rfl
     ·rw [YLm (show ¬((L.length:Nat):Int) > 0 by omega),YNm,YLm c]; rfl
def YV4:Option Int->List Int->Int
 | _,[]=> 0
 | p,x::l=> bif decide (x < 0) then 201 else bif decide (x>=12) then 201 else bif (match p with | some q=> decide (x<=q) | none=> false) then 7 else YV4 (some x) l
def Yb5 (h:List Int) (i:Nat):Option Int:=if i=0 then none else some (h.getD (i - 1) 0)
theorem Ysc (h:List Int) (hh:h.length<=1073741823):∀ (k i:Nat),i+k=h.length->Zk4 h h (h.length:Int) (i:Int)=some (YV4 (Yb5 h i) (h.drop i))
 | 0,i,hk=> by rw [Yba,Yl,YLm (by omega),YNm,List.drop_eq_nil_of_le (by omega)]; rfl
 | k+1,i,hk=> by
  have hw:IntKind.i64.wrap ((i:Int)+1)=((i+1:Nat):Int):=by rw [w64 (by omega) (by omega)]; omega
  have hd:h.drop i=h.getD i 0::h.drop (i+1):=by
   rw [Y1n,Y2n (by omega),YXm (by omega)]; rfl
  have hp:Yb5 h (i+1)=some (h.getD i 0):=by unfold Yb5; rw [YPm (by omega),Nat.add_sub_cancel]
  have ih:=Ysc h hh k (i+1) (by omega)
  rw [hp] at ih
  rw [Yba,Yl,YKm (by omega),YMm,Ym,YKm (by omega),YMm,YSm,hw,ih,hd]
  show (bif decide (h.getD i 0 < 0) then some (201:Int) else bif decide (h.getD i 0>=12) then some 201 else _)=some (bif decide (h.getD i 0 < 0) then (201:Int) else bif decide (h.getD i 0>=12) then 201 else bif (match Yb5 h i with | some q=> decide (h.getD i 0<=q) | none=> false) then 7 else YV4 (some (h.getD i 0)) (h.drop (i+1)))
  cases decide (h.getD i 0 < 0) with
  | true=> rfl
  | false=>
   rw [YNm,YNm]
   cases decide (h.getD i 0>=12) with
   | true=> rfl
   | false=>
    rw [YNm,YNm]
    by_cases c:i=0
    ·subst c
     rw [YLm (show ¬((0:Nat):Int) > 0 by omega),YNm]; rfl
    ·have hw2:IntKind.i64.wrap ((i:Int) - 1)=((i - 1:Nat):Int):=by rw [w64 (by omega) (by omega)]; omega
     rw [YKm (show (i:Int) > 0 by omega),YMm,hw2,Ym,YKm (by omega),YMm,YSm]
     unfold Yb5
     rw [YPm c]
     show (bif decide (h.getD i 0<=h.getD (i - 1) 0) then some 7 else _)=some (bif decide (h.getD i 0<=h.getD (i - 1) 0) then 7 else _)
     cases decide (h.getD i 0<=h.getD (i - 1) 0) <;> rfl
theorem YRj (h:List Int) (hh:h.length<=1073741823):Yv7 h=some (YV4 none h):=by
 rw [YNg,Yzf]
 exact Ysc h hh h.length 0 (by omega)
noncomputable def mayC (o:D37) (h:List Int):Int:=bif Yk4 o !=0 then 71 else bif decide (o.1 > 0) then 242 else bif !(YV6 o) then 1 else YV4 none h
def okSt (o:D37) (h:List Int):Prop:=o.2.1.length<=1073741823/\o.2.2.1.2.1.length<=1073741823/\h.length<=1000000000
theorem YLk (o:D37) (h:List Int) (ho:okSt o h):Yy5 (o,h)=some (mayC o h):=by
 obtain ⟨h1,h2,h3⟩:=ho
 rw [YLg,Ycf]
 dsimp only
 rw [Y7d o h1,YOm,Yum o h1 h2,YOm,YRj h (by omega),YOm]
 unfold mayC
 cases (Yk4 o !=0) with
 | true=> rfl
 | false=>
  rw [YNm,YNm]
  cases decide (o.1 > 0) with
  | true=> rfl
  | false=>
   rw [YNm,YNm]
   cases (!(YV6 o)) <;> rfl
end Go.Abs
namespace Go.Abs
theorem Ync (l:List D87) (k:Nat) (h:k < l.length):(l.map (·.1)).getD k (Ty.zero T37)=(l[k]'h).1:=by
 rw [Y1n,List.getElem?_map,Y2n h]; rfl
theorem YHj (l:List D87) (k:Nat) (h:k < l.length):(l.map (·.2)).getD k (Ty.zero (.sl false (.int .i64)))=(l[k]'h).2:=by
 rw [Y1n,List.getElem?_map,Y2n h]; rfl
theorem Ys6 (x:Int):YB4 x=some x:=by rw [Yrh,Yhg]
theorem YMd (a b:List Int) (h:a.length=b.length) (ha:a.length<=1000000000):∀ (k i:Nat),i+k=a.length->Z84 a b (i:Int)=some (a.drop i==b.drop i)
 | 0,i,hk=> by rw [YW9,Yl,YLm (by omega),YNm,List.drop_eq_nil_of_le (by omega),List.drop_eq_nil_of_le (by omega)]; rfl
 | k+1,i,hk=> by
  have hw:IntKind.i64.wrap ((i:Int)+1)=((i+1:Nat):Int):=by rw [w64 (by omega) (by omega)]; omega
  have hda:a.drop i=a.getD i 0::a.drop (i+1):=by
   rw [Y1n,Y2n (by omega),YXm (by omega)]; rfl
  have hdb:b.drop i=b.getD i 0::b.drop (i+1):=by
   rw [Y1n,Y2n (by omega),YXm (by omega)]; rfl
  rw [YW9,Yl,YKm (by omega),YMm,Ym,YKm (by omega),YMm,Ym,YKm (by omega),YMm,YSm,hw,YMd a b h ha k (i+1) (by omega),hda,hdb]
  show (bif !(a.getD i 0==b.getD i 0) then some false else some (a.drop (i+1)==b.drop (i+1)))=some ((a.getD i 0==b.getD i 0)&&(a.drop (i+1)==b.drop (i+1)))
  cases (a.getD i 0==b.getD i 0) <;> rfl
theorem YVl (a b:List Int) (ha:a.length<=1000000000):YK7 (a,b)=some (a==b):=by
 rw [YMh,YTe]
 dsimp only
 by_cases h:a.length=b.length
 ·rw [show ((((List.length a):Nat):Int) !=(((List.length b):Nat):Int))=false from by rw [h]; simp,YNm]
  exact YMd a b h ha a.length 0 (by omega)
 ·rw [show ((((List.length a):Nat):Int) !=(((List.length b):Nat):Int))=true from bne_iff_ne.2 (by omega),YMm]
  congr 1
  exact (YWm.2 fun e=> h (congrArg List.length e)).symm
theorem YPc (L:List D37) (a:Nat) (ha:a < L.length) (hL:L.length<=1000000000):∀ (k i:Nat),i+k=L.length->Z54 L (a:Int) (i:Int)=some ((L.drop i).any fun y=> eqO y (L.getD a (Ty.zero T37)))
 | 0,i,hk=> by rw [YT9,Yl,YLm (by omega),YNm,List.drop_eq_nil_of_le (by omega)]; rfl
 | k+1,i,hk=> by
  have hw:IntKind.i64.wrap ((i:Int)+1)=((i+1:Nat):Int):=by rw [w64 (by omega) (by omega)]; omega
  have hd:L.drop i=L.getD i (Ty.zero T37)::L.drop (i+1):=by
   rw [Y1n,Y2n (by omega),YXm (by omega)]; rfl
  rw [YT9,Yl,YKm (by omega),YMm,Ym,YKm (by omega),YMm,Ym,YKm (by omega),YMm,YSm,YSm,hw,YPc L a ha hL k (i+1) (by omega),hd]
  show (bif eqO (L.getD i (Ty.zero T37)) (L.getD a (Ty.zero T37)) then some true else some ((L.drop (i+1)).any fun y=> eqO y (L.getD a (Ty.zero T37))))=some (eqO (L.getD i (Ty.zero T37)) (L.getD a (Ty.zero T37))||(L.drop (i+1)).any fun y=> eqO y (L.getD a (Ty.zero T37)))
  cases eqO (L.getD i (Ty.zero T37)) (L.getD a (Ty.zero T37)) <;> rfl
theorem Yrk (put:List D87) (a:Nat) (ha:a < put.length) (hp:put.length<=1000000000):YF7 (put.map (·.1),(a:Int))=some (YV (put[a]'ha) (put.drop (a+1))):=by
 have hw:IntKind.i64.wrap ((a:Int)+1)=((a+1:Nat):Int):=by rw [w64 (by omega) (by omega)]; omega
 rw [Yqh,YIe]
 dsimp only
 rw [hw,YPc (put.map (·.1)) a (by rw [List.length_map]; omega) (by rw [List.length_map]; omega) (put.length - (a+1)) (a+1) (by rw [List.length_map]; omega),Ync put a ha]
 congr 1
 unfold YV
 rw [<-List.map_drop,List.any_map]; rfl
theorem YMc {m:Nat} {l:List D87} {e:D87} (h:e∈YU m (ded l)):e∈l:=YI4 (List.mem_of_mem_drop h)
theorem YMa (m:Nat) (hm:1<=m) (hm2:m<=64) (S:List D40) (i:Int) (put:List D87) (hp:put.length<=200000000) (hh:∀ e∈put,e.2.length<=1000000000) (X:Option Bool)
  (hX:Zw3 (m:Int) S (IntKind.wrap IntKind.i64 (i+1)) (m:Int) (YU m (ded put)) (put.map (·.1)) (put.map (·.2))=X):
  ∀ k:Nat,k<=put.length->Zx3 (m:Int) S i (((ded (put.drop k)).length:Nat):Int) ((k:Int) - 1) (m:Int) (YU m (ded put)) (put.map (·.1)) (put.map (·.2))=X
 | 0,_=> by rw [Yva,YLm (by omega),YNm]; exact hX
 | k+1,hk=> by
  have hlen:=Yl6 m (ded put)
  have ih:=YMa m hm hm2 S i put hp hh X hX k (by omega)
  have hd:put.drop k=put[k]'(by omega)::put.drop (k+1):=YXm (by omega)
  have hw:IntKind.i64.wrap ((k:Int) - 1)=(k:Int) - 1:=w64 (by omega) (by omega)
  rw [show ((k+1:Nat):Int) - 1=(k:Int) from by omega,Yva,YKm (show (k:Int)>=0 by omega),YMm,Yrk put k (by omega) (by omega),YOm,hw]
  cases c:YV (put[k]'(by omega)) (put.drop (k+1)) with
  | true=>
   rw [YMm]
   have:ded (put.drop k)=ded (put.drop (k+1)):=by
    rw [hd]
    show (bif YV _ _ then _ else _)=_
    rw [c,YMm]
   rw [this] at ih; exact ih
  | false=>
   have hdk:ded (put.drop k)=put[k]'(by omega)::ded (put.drop (k+1)):=by
    rw [hd]
    show (bif YV _ _ then _ else _)=_
    rw [c,YNm]
   have hle:(ded (put.drop (k+1))).length<=200000000:=by
    have:∀ l:List D87,(ded l).length<=l.length:=by
     intro l
     induction l with
     | nil=> exact Nat.le_refl _
     | cons x l ihl=>
      unfold ded
      cases YV x l with
      | true=> rw [YMm,YTm]; omega
      | false=> rw [YNm,YTm,YTm]; omega
    have:=this (put.drop (k+1))
    rw [Y5n] at this; omega
   rw [hdk,YTm] at ih
   obtain ⟨a',ha'⟩:=YYb (put[k]'(by omega)) (put.drop (k+1)) c (put.take k)
   have hall:put.take k++put[k]'(by omega)::put.drop (k+1)=put:=by rw [<-hd,List.take_append_drop]
   rw [hall] at ha'
   have hn:=Y36 put
   rw [ha'] at hn
   have hget:=Ymk m a' (ded (put.drop (k+1))) (put[k]'(by omega)) hn
   rw [<-ha'] at hget
   have hw2:IntKind.i64.wrap ((((ded (put.drop (k+1))).length:Nat):Int)+1)=(((ded (put.drop (k+1))).length+1:Nat):Int):=by rw [w64 (by omega) (by omega)]; omega
   rw [YNm,Ym,YKm (by rw [List.length_map]; omega),YMm,YSm,Ync put k (by omega),YKj (m:Int) _ _ (by omega) (by omega) (fun e he=> hh e (YMc he)),YOm,hget,hw2]
   by_cases q:(ded (put.drop (k+1))).length+1<=m
   ·rw [YQm q]
    dsimp only
    rw [YKm (show (((ded (put.drop (k+1))).length+1:Nat):Int)<=(m:Int) by omega),beq_self_eq_true,Yan,YNm,YMm,Ym,YKm (by rw [List.length_map]; omega),YMm,YHj put k (by omega),YVl _ _ (hh _ (List.getElem_mem _)),YOm,beq_self_eq_true,Yan,YNm]
    exact ih
   ·rw [YPm q]
    dsimp only
    rw [YLm (show ¬(((ded (put.drop (k+1))).length+1:Nat):Int)<=(m:Int) by omega)]
    exact ih
def okL (S:List D40):Prop:=S.length<=100000000/\∀ e∈S,okSt e.2.1 e.2.2
theorem YLa (m:Nat) (hm:1<=m) (hm2:m<=64) (S:List D40) (hS:okL S):∀ (k i:Nat),i+k=S.length->∀ put:List D87,put.length<=i->(∀ e∈put,e.2.length<=1000000000)->
  Zw3 (m:Int) S (i:Int) (m:Int) (YU m (ded put)) (put.map (·.1)) (put.map (·.2))=some true
 | 0,i,hk,put,hp,hh=> by rw [Yua,Yl,YLm (by omega),YNm]
 | k+1,i,hk,put,hp,hh=> by
  have hSl:=hS.1
  have hw:IntKind.i64.wrap ((i:Int)+1)=((i+1:Nat):Int):=by rw [w64 (by omega) (by omega)]; omega
  have hg:S.getD i (Ty.zero T40)=S[i]'(by omega):=by rw [Y1n,Y2n (by omega)]; rfl
  have hok:okSt (S.getD i (Ty.zero T40)).2.1 (S.getD i (Ty.zero T40)).2.2:=by rw [hg]; exact hS.2 _ (List.getElem_mem _)
  have hlen:=Yl6 m (ded put)
  have ih:=YLa m hm hm2 S hS k (i+1) (by omega)
  rw [Yua,Yl,YKm (by omega),YMm,Ym,YKm (by omega),YMm,YSm]
  generalize S.getD i (Ty.zero T40)=e at hok
  obtain ⟨wh,o,h⟩:=e
  dsimp only at hok ⊢
  have hh0:=hok.2.2
  cases (wh !=0) with
  | true=> rw [YMm,hw]; exact ih put (by omega) hh
  | false=>
   rw [YNm,YMm,YMm,Ysl (m:Int) _ o h (by omega) (by omega) (by omega) _ (YLk o h hok),YOm]
   by_cases c:mayC o h=0
   ·rw [YQm c]
    dsimp only
    have hput:putO (m:Int) (YU m (ded put)) o h=YU m (ded (put++[(o,h)])):=by rw [Ynk m hm _ _ _ (Y36 put),YXb]
    have hput2:∀ e∈put++[(o,h)],e.2.length<=1000000000:=by
     intro e he
     rcases Y6n.1 he with he | he
     ·exact hh e he
     ·rw [Yjn.1 he]; show h.length<=_; omega
    obtain ⟨pre,hpre⟩:∃ pre,putO (m:Int) (YU m (ded put)) o h=pre++[(o,h)]:=⟨_,rfl⟩
    have hlen2:=Yl6 m (ded (put++[(o,h)]))
    rw [<-hput,hpre,YUm,List.length_singleton] at hlen2
    have hm1:(putO (m:Int) (YU m (ded put)) o h).map (·.1)=pre.map (·.1)++[o]:=by rw [hpre,List.map_append]; rfl
    have hml:((pre.map (fun e:D87=> e.1))++[o]).length=pre.length+1:=by rw [YUm,List.length_map,List.length_singleton]
    rw [Ys6,YOm,show ((0:Int) !=0)=false from rfl,YNm,YMm]
    rw [YKm (show (put.map (·.1)).length+([o]:List D37).length<=lim by rw [List.length_map,List.length_singleton]; unfold lim; omega),YMm,YMm]
    rw [YKm (show (put.map (·.2)).length+([h]:List (List Int)).length<=lim by rw [List.length_map,List.length_singleton]; unfold lim; omega),YMm]
    rw [Y5l (m:Int) _ (by omega) (by rw [hpre,YUm,List.length_singleton]; omega) (fun e he=> hput2 e (YMc (by rw [<-hput]; exact he))),YOm]
    dsimp only
    rw [hm1,hml,YLm (show ¬((pre.length+1:Nat):Int) > (m:Int) by omega),YNm,show (((pre.length+1:Nat):Int)==0)=false from YWm.2 (by omega),YNm]
    have hw3:IntKind.i64.wrap (((pre.length+1:Nat):Int) - 1)=((pre.length:Nat):Int):=by rw [w64 (by omega) (by omega)]; omega
    rw [hw3,Ym,YKm (by omega),YMm,YMm,YSm]
    have hlast:(pre.map (fun e:D87=> e.1)++[o]).getD pre.length (Ty.zero T37)=o:=by
     rw [Y1n,List.getElem?_append_right (by rw [List.length_map]; omega),List.length_map,Nat.sub_self]; rfl
    rw [hlast,show Ty.beq T37 o o=true from Yg8 o,Yan,YNm]
    have hput3:Zw3 (m:Int) S (IntKind.wrap IntKind.i64 ((i:Int)+1)) (m:Int) (YU m (ded (put++[(o,h)]))) ((put++[(o,h)]).map (·.1)) ((put++[(o,h)]).map (·.2))=some true:=by
     rw [hw]; exact ih (put++[(o,h)]) (by rw [YUm,List.length_singleton]; omega) hput2
    have h3:=YMa m hm hm2 S (i:Int) (put++[(o,h)]) (by rw [YUm,List.length_singleton]; omega) hput2 _ hput3 (put++[(o,h)]).length (Nat.le_refl _)
    rw [List.drop_length] at h3
    have hw4:IntKind.i64.wrap ((((put.map (fun e:D87=> e.1)++[o]).length:Nat):Int) - 1)=(((put++[(o,h)]).length:Nat):Int) - 1:=by
     rw [show (put.map (fun e:D87=> e.1)++[o]).length=(put++[(o,h)]).length from by simp]
     exact w64 (by omega) (by rw [YUm,List.length_singleton]; omega)
    rw [hw4,hput]
    rw [List.map_append,List.map_append] at h3
    exact h3
   ·rw [YPm c]
    dsimp only
    rw [Ys6,YOm,show (mayC o h !=0)=true from bne_iff_ne.2 c,YMm,hw]
    exact ih put (by omega) hh
theorem YMk (m:Int):Yu7 m=some (if 1<=m/\m<=64 then (some (m,[]),0) else (none,4)):=by
 rw [YKg,Yfg]
 by_cases c:m < 1
 ·rw [YKm c,YMm,YPm (by omega)]
 ·rw [YLm c,YNm]
  by_cases d:m > 64
  ·rw [YKm d,YMm,YPm (by omega)]
  ·rw [YLm d,YNm,YQm (by omega)]
theorem Ysk (m:Int) (S:List D40) (hS:okL S) (ha:YE7 ()=some true):Y9b (m,S)=some true:=by
 rw [Yph,Y6g,ha,YOm,Yan,YNm]
 dsimp only
 rw [YMk,YOm]
 by_cases c:1<=m/\m<=64
 ·rw [YQm c]
  dsimp only
  rw [Option.elim_some,Ys6,YOm,show ((0:Int) !=0)=false from rfl,YNm]
  obtain ⟨n,rfl⟩:∃ n:Nat,m=(n:Int):=⟨m.toNat,by omega⟩
  have:=YLa n (by omega) (by omega) S hS S.length 0 (by omega) [] (by simp) (by simp)
  have e:YU n (ded [])=[]:=by unfold YU ded; simp
  rw [e] at this
  exact this
 ·rw [YPm c]
  dsimp only
  rw [Option.elim_none,Ys6,YOm,show ((4:Int) !=0)=true from rfl,YMm]
  by_cases d:m < 1
  ·rw [YKm d,YMm]
  ·rw [YLm d,YNm,YKm (by omega)]
end Go.Abs
