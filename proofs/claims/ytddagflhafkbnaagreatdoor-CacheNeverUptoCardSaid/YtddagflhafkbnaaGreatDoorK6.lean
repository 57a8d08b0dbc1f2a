/- Part K6 of the proof: see the last text of the claim. No condition of its own. -/
import Derived.Test.YtddagflhafkbnaaGreatDoorK5
set_option linter.all false
set_option autoImplicit false
namespace Go.Abs
theorem Y89 {n:Nat}:∀ {l:List Nat},l.any (Nat.beq n)=false->n∉l
 | [],_=> by simp
 | m::l,h=> by
  simp only [List.any_cons,Bool.or_eq_false_iff] at h
  intro hm
  rcases Yuu.1 hm with e | hm
  ·subst e; simp at h
  ·exact Y89 h.2 hm
end Go.Abs
namespace Go.Abs
section
variable {E:Env} {ops:Array Oper}
def Deps (ops:Array Oper) (S:Nat->Prop) (i:Nat):Prop:=∀ o,ops[i]? =some o->∀ e∈o.after.toList,Region.binds .any e=true->S e.on
theorem YEr {acc:List Nat} (l:List Edge):∀ {s j:Nat},Nat.testBit (l.foldl (fun s e=> bif Region.binds .any e then Nat.lor (Nat.lor s (Nat.pow 2 e.on)) (acc.getD e.on 0) else s) s) j=true↔
  (Nat.testBit s j=true\/∃ e∈l,Region.binds .any e=true/\(j=e.on\/Nat.testBit (acc.getD e.on 0) j=true)):=by
 induction l with
 | nil=> intro s j; simp
 | cons e l ih=>
  intro s j
  rw [List.foldl_cons,ih]
  cases hb:Region.binds .any e with
  | false=> simp [hb]
  | true=>
   have hl:∀ a b:Nat,Nat.testBit (Nat.lor a b) j=(Nat.testBit a j||Nat.testBit b j):=fun a b=> Nat.testBit_or a b j
   have hp:Nat.testBit (Nat.pow 2 e.on) j=decide (e.on=j):=Nat.testBit_two_pow
   simp only [Ygu,hl,hp,Bool.or_eq_true,Yxu]
   constructor
   ·rintro (((h | h) | h) | ⟨e',h1,h2,h3⟩)
    ·exact .inl h
    ·exact .inr ⟨e,by simp,hb,.inl h.symm⟩
    ·exact .inr ⟨e,by simp,hb,.inr h⟩
    ·exact .inr ⟨e',by simp [h1],h2,h3⟩
   ·rintro (h | ⟨e',h1,h2,h3⟩)
    ·exact .inl (.inl (.inl h))
    ·rcases Yuu.1 h1 with rfl | h1
     ·rcases h3 with h3 | h3
      ·exact .inl (.inl (.inr h3.symm))
      ·exact .inl (.inr h3)
     ·exact .inr ⟨e',h1,h2,h3⟩
def YM8 (ops:Array Oper) (acc:List Nat):Prop:=
 ∀ (S:Nat->Prop),(∀ j,S j->Deps ops S j)->∀ i,i < acc.length->Deps ops S i->∀ j,Nat.testBit (acc.getD i 0) j=true->S j
def YL8 (ops:Array Oper) (acc:List Nat):Prop:=
 ∀ i,i < acc.length->∀ o,ops[i]? =some o->∀ e∈o.after.toList,Region.binds .any e=true->Nat.testBit (acc.getD i 0) e.on=true
theorem YYg:∀ (os:List Oper) (acc:List Nat),(∀ k,os[k]? =ops[acc.length+k]?)->YM8 ops acc->YL8 ops acc->YM8 ops (Yr4 os acc)/\YL8 ops (Yr4 os acc)/\(Yr4 os acc).length=acc.length+os.length
 | [],acc,_,h,h'=> ⟨h,h',rfl⟩
 | o::os,acc,hk,h,h'=> by
  have ho:ops[acc.length]? =some o:=by have:=hk 0; simpa using this.symm
  have hget:∀ i,i < acc.length->(acc++[Yq4 acc o]).getD i 0=acc.getD i 0:=fun i hi=> by
   rw [Yvu,Yvu,List.getElem?_append_left hi]
  have hlast:(acc++[Yq4 acc o]).getD acc.length 0=Yq4 acc o:=by
   rw [Yvu,Ycv (Nat.le_refl _)]; simp
  have hbits:∀ j,Nat.testBit (Yq4 acc o) j=true↔∃ e∈o.after.toList,Region.binds .any e=true/\(j=e.on\/Nat.testBit (acc.getD e.on 0) j=true):=by
   intro j
   unfold Yq4
   rw [YEr]
   simp
  have:=YYg os (acc++[Yq4 acc o]) (fun k=> by
    have:=hk (k+1)
    rw [List.getElem?_cons_succ] at this
    rw [this,You]
    congr 1
    simp only [Ynu,Ysu]
    omega) (fun S hS i hi hd j hj=> ?_) (fun i hi o' ho' e he hb=> ?_)
  ·rw [Yr4]
   refine ⟨this.1,this.2.1,?_⟩
   rw [this.2.2,You]
   simp only [Ynu,Ysu]
   omega
  ·rw [You] at hi
   rcases Nat.lt_or_ge i acc.length with hlt | hge
   ·rw [hget i hlt] at hj; exact h S hS i hlt hd j hj
   ·have:i=acc.length:=by simp only [Ynu,Ysu] at hi; omega
    subst this
    rw [hlast] at hj
    obtain ⟨e,he,hb,hj⟩:=(hbits j).1 hj
    have hse:=hd o ho e he hb
    rcases hj with rfl | hj
    ·exact hse
    ·rcases Nat.lt_or_ge e.on acc.length with hlt | hge
     ·exact h S hS e.on hlt (hS _ hse) j hj
     ·rw [Yvu,List.getElem?_eq_none hge] at hj; simp at hj
  ·rw [You] at hi
   rcases Nat.lt_or_ge i acc.length with hlt | hge
   ·rw [hget i hlt]; exact h' i hlt o' ho' e he hb
   ·have:i=acc.length:=by simp only [Ynu,Ysu] at hi; omega
    subst this
    rw [ho] at ho'
    cases ho'
    rw [hlast]
    exact (hbits _).2 ⟨e,he,hb,.inl rfl⟩
theorem Y88 (ops:Array Oper):YM8 ops (YJ3 ops.toList)/\YL8 ops (YJ3 ops.toList)/\(YJ3 ops.toList).length=ops.size:=by
 have:=YYg (ops:=ops) ops.toList [] (fun k=> by simp) (fun S hS i hi=> by simp at hi) (fun i hi=> by simp at hi)
 refine ⟨this.1,this.2.1,?_⟩
 show (Yr4 ops.toList []).length=_
 rw [this.2.2]; simp
def Rw (E:Env) (ops:Array Oper) (i:Nat):Row:=match ops[i]? with
 | some o=> ⟨i,Ym2 E ops o,(YJ3 ops.toList).getD i 0,o.dst,Yq1 ops o,Yn2 o.op⟩
 | none=> ⟨i,.hard,0,none,[],false⟩
theorem YBb {ms:List Nat}:∀ (os:List Oper) (k j:Nat),(YA4 E ops ms os k)[j]? =(os[j]?).map fun o=> ⟨k+j,Ym2 E ops o,ms.getD (k+j) 0,o.dst,Yq1 ops o,Yn2 o.op⟩
 | [],k,j=> by simp [YA4]
 | o::os,k,0=> by simp [YA4]
 | o::os,k,j+1=> by
  rw [YA4,List.getElem?_cons_succ,YBb os (k+1) j,List.getElem?_cons_succ]
  have:k+1+j=k+(j+1):=by omega
  rw [this]
theorem Y1g {α β:Type} (f:α->Option β) (g:α->β):∀ (l:List α),(∀ a b,f a=some b->b=g a)->(l.filterMap f).length=l.length->l.filterMap f=l.map g/\∀ a∈l,f a=some (g a)
 | [],_,_=> ⟨rfl,fun a h=> by cases h⟩
 | a::l,hg,h=> by
  cases hf:f a with
  | none=>
   rw [List.filterMap_cons_none hf] at h
   have:=List.length_filterMap_le f l
   rw [h,Ynu] at this
   omega
  | some b=>
   rw [List.filterMap_cons_some hf] at h ⊢
   obtain ⟨h1,h2⟩:=Y1g f g l hg (by simpa using h)
   refine ⟨by rw [YBu,h1,hg a b hf],fun c hc=> ?_⟩
   rcases Yuu.1 hc with rfl | hc
   ·rw [hf,hg c b hf]
   ·exact h2 c hc
theorem Yrh:∀ {l:List Row},Yj8 l=true->l.Pairwise fun x y=> Yj2 x y=true
 | [],_=> List.Pairwise.nil
 | x::l,h=> by
  simp only [Yj8,Ylu,Y3v] at h
  exact List.Pairwise.cons (fun y hy=> h.1 y hy) (Yrh h.2)
theorem YNf:∀ {pre:List Row} {x:Row} {post:List Row} {m:Nat},YS5 (pre++x::post) m=true->∀ j,Nat.testBit x.mask j=true->Nat.testBit m j=true\/∃ y∈pre,y.i=j
 | [],x,post,m,h,j,hj=> by
  simp only [YIu,YS5,Ylu] at h
  have:=YOu h.1
  refine .inl ?_
  rw [<-this]
  have:Nat.testBit (Nat.lor x.mask m) j=(Nat.testBit x.mask j||Nat.testBit m j):=Nat.testBit_or _ _ _
  rw [this,hj,YDu]
 | y::pre,x,post,m,h,j,hj=> by
  simp only [List.cons_append,YS5,Ylu] at h
  rcases YNf h.2 j hj with h1 | ⟨z,hz,h1⟩
  ·have e:Nat.testBit (Nat.lor m (Nat.pow 2 y.i)) j=(Nat.testBit m j||Nat.testBit (2 ^ y.i) j):=Nat.testBit_or _ _ _
   rw [e,Nat.testBit_two_pow,Bool.or_eq_true,Yxu] at h1
   rcases h1 with h1 | h1
   ·exact .inl h1
   ·exact .inr ⟨y,by simp,h1⟩
  ·exact .inr ⟨z,by simp [hz],h1⟩
theorem YOf:∀ {l:List Nat},Yz3 l=true->l.Nodup
 | [],_=> List.nodup_nil
 | a::l,h=> by
  simp only [Yz3,Ylu,YXu] at h
  exact Yfv.2 ⟨Y89 h.1,YOf h.2⟩
structure OrdOk (E:Env) (ops:Array Oper) (l:List Nat):Prop where
 lt:∀ i∈l,i < ops.size
 nodup:l.Nodup
 all:∀ i,i < ops.size->i∈l
 pw:l.Pairwise fun i j=> Yj2 (Rw E ops i) (Rw E ops j)=true
 self:∀ i∈l,Yn6 (Rw E ops i)=true
 deps:∀ pre i post,l=pre++i::post->∀ j,Nat.testBit (Rw E ops i).mask j=true->j∈pre
theorem OrdOk.of {l:List Nat} (h:Ysa E ops l=true):OrdOk E ops l:=by
 unfold Ysa at h
 simp only [Ylu] at h
 obtain ⟨h1,h2,h3,h4,h5,h6,h7⟩:=h
 have h1:=YOu h1
 have h2:=YOu h2
 have hf:∀ i b,(YA4 E ops (YJ3 ops.toList) ops.toList 0)[i]? =some b->b=Rw E ops i:=by
  intro i b hb
  rw [YBb] at hb
  simp only [Y2v,Y4v] at hb
  unfold Rw
  cases ho:ops[i]? with
  | none=> rw [ho] at hb; cases hb
  | some o=> rw [ho] at hb; cases hb; rfl
 obtain ⟨e1,e2⟩:=Y1g _ (Rw E ops) l hf (h2.trans h1.symm)
 rw [e1] at h3 h4 h5
 have hi:∀ i,(Rw E ops i).i=i:=fun i=> by unfold Rw; split <;> rfl
 refine ⟨fun i hi=> ?_,YOf h6,fun i hi=> ?_,?_,fun i hi=> ?_,fun pre i post e j hj=> ?_⟩
 ·have:=e2 i hi
  rw [YBb] at this
  cases ho:ops.toList[i]? with
  | none=> rw [ho] at this; cases this
  | some o=> have:=(List.getElem?_eq_some_iff.1 ho).1; simpa using this
 ·simp only [Y3v,List.mem_range,List.any_eq_true] at h7
  obtain ⟨k,hk,e⟩:=h7 i hi
  rw [YOu e]; exact hk
 ·exact (List.pairwise_map.1 (Yrh h3))
 ·simp only [Y3v,List.mem_map] at h5
  exact h5 _ ⟨i,hi,rfl⟩
 ·rw [e,List.map_append,YBu] at h4
  rcases YNf h4 j hj with h | ⟨y,hy,h⟩
  ·simp at h
  ·obtain ⟨k,hk,rfl⟩:=List.mem_map.1 hy
   rw [<-h,hi]; exact hk
end
end Go.Abs
namespace Go.Abs
section
variable {w0:World} {X0:Ent} {E:Env} {R:Type} {ops:Array Oper}
theorem Yqb {s:St} {d:Nat} {p:PV} (h:s.slots d=p):s.put d p=s:=by
 have:(fun n=> bif Nat.beq n d then p else s.slots n)=s.slots:=by
  funext n
  rw [Yc2]
  by_cases e:n=d
  ·subst e; rw [Yku rfl,h]
  ·rw [Yju e]
 unfold St.put
 rw [this]
def YC2 (E:Env) (o:Op):Bool:=YD2 E o||YY5 E o
theorem Yws {o:Op} (h:YC2 E o=true):YD2 E o=true\/YY5 E o=true:=(Bool.or_eq_true _ _).mp h
def QRun (E:Env) (call:CallT E) (t:St) (o:Oper) (v:PV):Prop:=
 (YD2 E o.op=true/\Yw E t o=some (true,t.putO o.dst v))\/
 (∀ {R':Type} (s:St),(∀ x∈o.op.operands.toList,s.opd E x=t.opd E x)->∀ (π:Ex->St->Option R') (κ:St->Option R'),opC E call s o π κ=κ (s.putO o.dst v))
def QStep (E:Env) (call:CallT E) (ops:Array Oper) (t:St) (o:Oper) (v:PV):Prop:=
 match o.guard with
 | none=> QRun E call t o v
 | some (g,want)=> ∃ d,(ops[g]?).bind (·.dst)=some d/\((t.slots d=.val .bool want/\QRun E call t o v)\/((t.slots d=.tnil\/t.slots d=.val .bool (!want))/\v=.tnil))
theorem YTr {call:CallT E} {s:St} {o:Oper} {π:Ex->St->Option R} {κ:St->Option R} (hq:YD2 E o.op=true):opC E call s o π κ=YZ1 E s o κ:=by
 unfold opC
 split
 ·rename_i c hc
  rw [hc] at hq
  split
  ·rename_i x hx
   simp only [YD2,hx] at hq
   cases hq
  ·rfl
 ·rename_i x hx; rw [hx] at hq; cases hq
 ·rename_i x hx; rw [hx] at hq; cases hq
 ·rfl
theorem YGb {s:St} {o:Oper} {κ:St->Option R} {y:R} (h:YZ1 E s o κ=some y):∃ s',Yw E s o=some (true,s')/\κ s'=some y:=by
 unfold YZ1 at h
 split at h
 ·rename_i c s' hs
  cases c with
  | true=> exact ⟨s',hs,h⟩
  | false=> cases h
 ·cases h
theorem Yxs {call:CallT E} {t:St} {o:Oper} {os:List Oper} {κ:Ex->St->Option R} {y:R} (hq:YC2 E o.op=true) (h:opsC E call ops (o::os) t κ=some y):
  ∃ v,QStep E call ops t o v/\opsC E call ops os (t.putO o.dst v) κ=some y:=by
 have one:∀ {s:St},opC E call s o κ (fun s=> opsC E call ops os s κ)=some y->∃ v,QRun E call s o v/\opsC E call ops os (s.putO o.dst v) κ=some y:=by
  intro s h
  rcases Yws hq with hq | hq
  ·rw [YTr hq] at h
   obtain ⟨s',h1,h2⟩:=YGb h
   obtain ⟨v,rfl,_⟩:=YBh hq h1
   exact ⟨v,.inl ⟨hq,h1⟩,h2⟩
  ·obtain ⟨v,h1,h2⟩:=Yuq hq h
   exact ⟨v,.inr h2,h1⟩
 unfold opsC at h
 unfold QStep
 split at h
 ·rename_i hg
  rw [hg]
  exact one h
 ·rename_i g want hg
  rw [hg]
  split at h
  ·cases h
  ·rename_i d hd
   split at h
   ·rename_i b hb
    have hsb:=Yqb hb
    cases b <;> cases want <;> simp only [hsb] at h
    ·obtain ⟨v,h1,h2⟩:=one h; exact ⟨v,⟨d,hd,.inl ⟨hb,h1⟩⟩,h2⟩
    ·exact ⟨.tnil,⟨d,hd,.inr ⟨.inr hb,rfl⟩⟩,h⟩
    ·exact ⟨.tnil,⟨d,hd,.inr ⟨.inr hb,rfl⟩⟩,h⟩
    ·obtain ⟨v,h1,h2⟩:=one h; exact ⟨v,⟨d,hd,.inl ⟨hb,h1⟩⟩,h2⟩
   ·rename_i hb
    exact ⟨.tnil,⟨d,hd,.inr ⟨.inl hb,rfl⟩⟩,h⟩
   ·cases h
theorem Y5b {s t:St} {o:Oper} (h:∀ n∈Yq1 ops o,s.slots n=t.slots n):∀ x∈o.op.operands.toList,s.opd E x=t.opd E x:=by
 intro x hx
 cases x with
 | tmp n=>
  refine h n ?_
  have:n∈Y98 o.op.operands.toList:=List.mem_filterMap.2 ⟨.tmp n,hx,rfl⟩
  unfold Yq1
  split
  ·exact this
  ·split
   ·exact Y0v _ this
   ·exact this
 | _=> rfl
theorem YFa {o:Oper} {g:Nat} {want:Bool} {d:Nat} (hg:o.guard=some (g,want)) (hd:(ops[g]?).bind (·.dst)=some d):d∈Yq1 ops o:=by
 unfold Yq1
 rw [hg]
 simp only [hd]
 exact List.mem_cons_self
theorem Yqs {t:St} {d:Option Nat} {v u:PV} (h:t.putO d v=t.putO d u):∀ s:St,s.putO d v=s.putO d u:=by
 cases d with
 | none=> intro s; rfl
 | some d=>
  have h:t.put d v=t.put d u:=h
  have:=congrArg (fun s=> s.slots d) h
  simp only [Y71,if_true] at this
  intro s
  rw [this]
theorem QStep.frame {call:CallT E} {s t:St} {o:Oper} {v:PV} (h:QStep E call ops t o v) (hl:∀ n∈Yq1 ops o,s.slots n=t.slots n) (hm:Yn2 o.op=true\/MemLe t s):QStep E call ops s o v:=by
 have one:QRun E call t o v->QRun E call s o v:=by
  rintro (⟨hq,h⟩ | h)
  ·obtain ⟨v',e,g⟩:=YBh hq h
   refine .inl ⟨hq,?_⟩
   rw [Yqs e s]
   exact g s (Y5b hl) hm
  ·exact .inr fun s2 h2=> h s2 fun x hx=> (h2 x hx).trans (Y5b hl x hx)
 unfold QStep at h ⊢
 split at h
 ·exact one h
 ·rename_i g want hg
  obtain ⟨d,h1,h2⟩:=h
  refine ⟨d,h1,?_⟩
  rw [hl d (YFa hg h1)]
  rcases h2 with ⟨h2,h3⟩ | h2
  ·exact .inl ⟨h2,one h3⟩
  ·exact .inr h2
theorem YJ8 {fz:Nat->Prop} {m:Maps} {s:St} {a:Act} {w:World} {g d:Nat} {b:Bool} (h:Rel w0 X0 fz m [] s a w) (hd:(ops[g]?).bind (·.dst)=some d) (hb:s.slots d=.val .bool b):yielded ops a.tmps g=some b:=by
 have hv:=h.slots d
 rw [hb] at hv
 have hv:=hv.bool
 unfold yielded
 rw [hd]
 simp only [Yiu]
 have:a.tmps[d]? =some (.bool b):=by
  rw [Array.getD_eq_getD_getElem?] at hv
  cases e:a.tmps[d]? with
  | none=> rw [e] at hv; cases hv
  | some v=> rw [e] at hv; rw [<-hv]; rfl
 rw [this]
theorem QStep.wp (hE:EnvOK E) {call:CallT E} (hC:∀ f x y,call f x=some y->YS E f x y) {fz:Nat->Prop} {m:Maps} {s:St} {a:Act} {w:World} {i:Nat} {o:Oper} {v:PV} {n:Fr} {Q:Exit->Act->World->Prop} {K:Act->World->Prop} (hi:ops[i]? =some o) (hv:QStep E call ops s o v)
  (h:Rel w0 X0 fz m [] s a w) (hg:Glob E w fz) (hlo:∀ k,o.dst=some k->n.keep k=false) (hhi:∀ k,o.dst=some k->k < a.tmps.size)
  (hK:∀ a' w' fz' m',(n.ok a->n.ok a')->a'.defers=a.defers->Rel w0 X0 fz' m' [] (s.putO o.dst v) a' w'->K a' w'):wpOp E.P ops Q i K a w:=by
 have run:QRun E call s o v->o.wp E.P a w K Q:=by
  rintro (⟨_,hs⟩ | hs)
  rotate_left
  ·refine Oper.wp_mono (fun a' w' hh=> ?_) (Y78 (nn:=n) hlo hE hC h hg hhi (π:=fun _ _=> none) (κ:=some) (r:=s.putO o.dst v) (Q:=Q) (fun _ _ _ _ _ _ _ e=> by cases e) (hs s (fun _ _=> rfl) _ _))
   obtain ⟨q1,q2,fz',m',s',q3,q4⟩:=hh
   cases q4
   exact hK a' w' fz' m' q1 q2 q3
  refine Oper.wp_mono (fun a' w' hh=> ?_) ((Ybi hE h hg hhi hs).wp (n:=n) hlo (κ:=some) (r:=s.putO o.dst v) rfl)
  obtain ⟨q1,q2,fz',m',s',q3,q4⟩:=hh
  cases q4
  exact hK a' w' fz' m' q1 q2 q3
 unfold wpOp
 rw [hi]
 simp only
 unfold QStep at hv
 split at hv
 ·rename_i hgd
  have hw:Region.wanted o (yielded ops a.tmps)=true:=by simp [Region.wanted,hgd]
  rw [Yku hw]
  exact .inl (run hv)
 ·rename_i g want hgd
  obtain ⟨d,h1,h2⟩:=hv
  rcases h2 with ⟨h2,h3⟩ | ⟨h2,rfl⟩
  ·have hyb:=YJ8 h h1 h2
   have hw:Region.wanted o (yielded ops a.tmps)=true:=by simp [Region.wanted,hgd,hyb]
   rw [Yku hw]
   exact .inl (run h3)
  ·have hw:¬(Region.wanted o (yielded ops a.tmps)=true):=by
    rcases h2 with h2 | h2
    ·simp [Region.wanted,hgd,YK8 h h1 h2]
    ·simp [Region.wanted,hgd,YJ8 h h1 h2]
   rw [Yju hw]
   obtain ⟨q1,q2⟩:=Yl5 (n:=n) a o.dst undef hlo
   exact hK _ w fz m q1 q2 (h.skipO hhi)
theorem Yvh {i:Nat} {l:List Nat} {o:Oper} (h:ops[i]? =some o):Yf3 ops (i::l)=o::Yf3 ops l:=by
 unfold Yf3
 exact List.filterMap_cons_some h
theorem Y24 {i:Nat} {o:Oper} (h:ops[i]? =some o):Rw E ops i=⟨i,Ym2 E ops o,(YJ3 ops.toList).getD i 0,o.dst,Yq1 ops o,Yn2 o.op⟩:=by unfold Rw; rw [h]
theorem YUr (o:Op):(Yf5 E o=.quiet/\YC2 E o=true)\/(Yf5 E o=.soft/\(Yt1 E o=true\/Yk1 E o=true))\/(Yf5 E o=.firm/\Yz1 o=true)\/Yf5 E o=.hard:=by
 unfold Yf5
 show (cond (YC2 E o) _ _=_/\_)\/(cond (YC2 E o) _ _=_/\_)\/(cond (YC2 E o) _ _=_/\_)\/cond (YC2 E o) _ _=_
 cases hq:YC2 E o with
 | true=> exact .inl ⟨rfl,rfl⟩
 | false=>
  cases hs:(Yt1 E o||Yk1 E o) with
  | true=> exact .inr (.inl ⟨rfl,(Bool.or_eq_true _ _).mp hs⟩)
  | false=>
   cases hf:Yz1 o with
   | true=> exact .inr (.inr (.inl ⟨rfl,rfl⟩))
   | false=> exact .inr (.inr (.inr rfl))
theorem Yzb (o:Oper):(Ym2 E ops o=.quiet/\YC2 E o.op=true)\/(Ym2 E ops o=.soft/\(Yt1 E o.op=true\/Yk1 E o.op=true))\/(Ym2 E ops o=.firm/\Yz1 o.op=true)\/Ym2 E ops o=.hard:=by
 unfold Ym2
 split
 ·rename_i x hx
  generalize (ops.toList.any fun p=> YA3 o.dst (Yq1 ops p))=b
  cases b with
  | true=> exact .inr (.inr (.inr rfl))
  | false=> exact .inl ⟨rfl,by rw [hx]; rfl⟩
 ·exact YUr o.op
theorem Y9r {o:Oper} (h:Ym2 E ops o=.quiet):YC2 E o.op=true:=by
 rcases Yzb (E:=E) (ops:=ops) o with ⟨_,g⟩ | ⟨e,_⟩ | ⟨e,_⟩ | e
 ·exact g
 ·rw [h] at e; cases e
 ·rw [h] at e; cases e
 ·rw [h] at e; cases e
theorem Yar {o:Oper} (h:Ym2 E ops o=.soft):Yt1 E o.op=true\/Yk1 E o.op=true:=by
 rcases Yzb (E:=E) (ops:=ops) o with ⟨e,_⟩ | ⟨_,g⟩ | ⟨e,_⟩ | e
 ·rw [h] at e; cases e
 ·exact g
 ·rw [h] at e; cases e
 ·rw [h] at e; cases e
theorem Y8r {o:Oper} (h:Ym2 E ops o=.firm):Yz1 o.op=true:=by
 rcases Yzb (E:=E) (ops:=ops) o with ⟨e,_⟩ | ⟨e,_⟩ | ⟨_,g⟩ | e
 ·rw [h] at e; cases e
 ·rw [h] at e; cases e
 ·exact g
 ·rw [h] at e; cases e
theorem YT5 {d:Option Nat} {l:List Nat}:YA3 d l=true↔∃ k,d=some k/\k∈l:=by
 cases d with
 | none=> simp [YA3]
 | some k=> simp only [YA3,List.any_eq_true,Ytu,exists_eq_left']; exact ⟨fun ⟨x,hx,e⟩=> by rw [YOu e]; exact hx,fun h=> ⟨k,h,by simp⟩⟩
theorem Y3i {d e:Option Nat}:Yq5 d e=true↔∃ k,d=some k/\e=some k:=by
 cases d with
 | none=> simp [Yq5]
 | some a=>
  cases e with
  | none=> simp [Yq5]
  | some b=> exact ⟨fun h=> ⟨a,rfl,by rw [YOu h]⟩,fun ⟨k,h1,h2⟩=> by cases h1; cases h2; simp [Yq5]⟩
theorem YVd {call:CallT E} {κ:Ex->St->Option R} {y:R}:∀ (rest0:List Nat) (t0:St),(∀ i∈rest0,i < ops.size)->(rest0.Pairwise fun i j=> Yj2 (Rw E ops i) (Rw E ops j)=true)->(∀ i∈rest0,Yn6 (Rw E ops i)=true)->
  opsC E call ops (Yf3 ops rest0) t0 κ=some y->
  ∃ qs rest t,rest0=qs++rest/\(∀ i∈qs,(Rw E ops i).kind=.quiet)/\(rest=[]\/∃ h r,rest=h::r/\(Rw E ops h).kind≠.quiet)/\opsC E call ops (Yf3 ops rest) t κ=some y/\
   t.rows=t0.rows/\t.boxes=t0.boxes/\(∀ k,(∀ i∈qs,(Rw E ops i).dst≠some k)->t.slots k=t0.slots k)/\
   ∀ i∈qs,∃ o v,ops[i]? =some o/\QStep E call ops t o v/\∀ d,o.dst=some d->t.slots d=v
 | [],t0,_,_,_,h=> ⟨[],[],t0,rfl,fun i h=> (by cases h),.inl rfl,h,rfl,rfl,fun _ _=> rfl,fun i h=> (by cases h)⟩
 | i::l,t0,hlt,hpw,hself,h=> by
  by_cases hk:(Rw E ops i).kind=.quiet
  ·obtain ⟨o,ho⟩:∃ o,ops[i]? =some o:=⟨ops[i]'(hlt i (by simp)),Y1v _⟩
   have hRw:=Y24 (E:=E) ho
   have hq:YC2 E o.op=true:=by rw [hRw] at hk; exact Y9r hk
   rw [Yvh ho] at h
   obtain ⟨v,h1,h2⟩:=Yxs hq h
   obtain ⟨hp1,hp2⟩:=Ydv.1 hpw
   obtain ⟨qs,rest,t,e,g1,g2,g3,g4,g5,g6,g7⟩:=YVd l _ (fun j hj=> hlt j (by simp [hj])) hp2 (fun j hj=> hself j (by simp [hj])) h2
   have hput:∀ k,o.dst≠some k->(t0.putO o.dst v).slots k=t0.slots k:=by
    intro k hk
    cases hd:o.dst with
    | none=> rfl
    | some d=> show (t0.put d v).slots k=_; rw [Y71,Yju (fun e=> hk (by rw [hd,e]))]
   have hmem:(t0.putO o.dst v).rows=t0.rows/\(t0.putO o.dst v).boxes=t0.boxes:=by cases o.dst <;> exact ⟨rfl,rfl⟩
   have hpair:∀ j∈qs,Yq5 o.dst (Rw E ops j).dst=false/\YA3 (Rw E ops j).dst (Yq1 ops o)=false:=by
    intro j hj
    have:=hp1 j (by rw [e]; simp [hj])
    rw [hRw] at this
    unfold Yj2 at this
    rw [hRw] at hk
    simp only at hk
    simp only [hk,g1 j hj,Ylu,YXu] at this
    exact ⟨this.2.1,this.2.2.2⟩
   refine ⟨i::qs,rest,t,by rw [e]; rfl,fun j hj=> ?_,g2,g3,g4.trans hmem.1,g5.trans hmem.2,fun k hk'=> ?_,fun j hj=> ?_⟩
   ·rcases Yuu.1 hj with rfl | hj
    ·exact hk
    ·exact g1 j hj
   ·rw [g6 k (fun j hj=> hk' j (by simp [hj]))]
    refine hput k (fun e=> hk' i (by simp) ?_)
    rw [hRw]; exact e
   ·rcases Yuu.1 hj with rfl | hj
    ·refine ⟨o,v,ho,h1.frame (fun n hn=> ?_) (.inr (MemLe.of_eq (g4.trans hmem.1) (g5.trans hmem.2))),fun d hd=> ?_⟩
     ·rw [g6 n (fun k hk hd=> ?_),hput n (fun hd=> ?_)]
      ·have hs:=hself j (by simp)
       unfold Yn6 at hs
       rw [hk] at hs
       rw [hRw] at hs
       simp only [YXu] at hs
       have:=YT5.2 ⟨n,hd,hn⟩
       rw [this] at hs; cases hs
      ·have:=(hpair k hk).2
       rw [YT5.2 ⟨n,hd,hn⟩] at this; cases this
     ·rw [g6 d (fun k hk hd'=> ?_)]
      ·rw [hd]; show (t0.put d v).slots d=v; rw [Y71,Yku rfl]
      ·have:=(hpair k hk).1
       rw [Y3i.2 ⟨d,hd,hd'⟩] at this; cases this
    ·exact g7 j hj
  ·exact ⟨[],i::l,t0,rfl,fun i h=> (by cases h),.inr ⟨i,l,rfl,hk⟩,h,rfl,rfl,fun _ _=> rfl,fun i h=> (by cases h)⟩
end
end Go.Abs
namespace Go.Abs
section
variable {w0:World} {X0:Ent} {E:Env} {R:Type} {ops:Array Oper} {call:CallT E} {n:Fr} {l:List Nat} {κ:Ex->St->Option R} {y:R}
def on (listed:Array Bool) (i:Nat):Prop:=listed.getD i false=true
def off (listed:Array Bool) (i:Nat):Prop:=listed.getD i false=false
theorem Y1b (listed:Array Bool) (i:Nat):on listed i\/off listed i:=by
 unfold on off
 cases listed.getD i false
 ·exact .inr rfl
 ·exact .inl rfl
theorem Yi2 {listed:Array Bool} {i:Nat} (h:on listed i) (g:off listed i):False:=by
 unfold on at h; unfold off at g; rw [h] at g; cases g
theorem YDq {listed:Array Bool} {i j:Nat} (hi:i < listed.size):(listed.setIfInBounds i true).getD j false=if j=i then true else listed.getD j false:=by
 rw [Array.getD_eq_getD_getElem?,Array.getD_eq_getD_getElem?]
 by_cases e:j=i
 ·subst e; rw [Yku rfl,Array.getElem?_setIfInBounds_self_of_lt hi]; rfl
 ·rw [Yju e,Array.getElem?_setIfInBounds_ne (fun h=> e h.symm)]
theorem YAh {α:Type} {Q:α->α->Prop}:∀ {l:List α},l.Pairwise Q->∀ {x y:α},x∈l->y∈l->x≠y->Q x y\/Q y x
 | [],_,x,y,hx,_,_=> by cases hx
 | z::l,h,x,y,hx,hy,hne=> by
  obtain ⟨h1,h2⟩:=Ydv.1 h
  rcases Yuu.1 hx with ex | hx
  ·rcases Yuu.1 hy with ey | hy
   ·exact absurd (ex.trans ey.symm) hne
   ·rw [ex]; exact .inl (h1 y hy)
  ·rcases Yuu.1 hy with ey | hy
   ·rw [ey]; exact .inr (h1 x hx)
   ·exact YAh h2 hx hy hne
def Mid (w0:World) (X0:Ent) (E:Env) (ops:Array Oper) (call:CallT E) (n:Fr) (l:List Nat) (κ:Ex->St->Option R) (y:R) (listed:Array Bool) (a:Act) (w:World):Prop:=
 listed.size=ops.size/\n.ok a/\a.defers=n.defs/\(∀ j,on listed j->Deps ops (on listed) j)/\
 ∃ dn rest t s fz m,l=dn++rest/\(rest=[]\/∃ h r,rest=h::r/\(Rw E ops h).kind≠.quiet)/\opsC E call ops (Yf3 ops rest) t κ=some y/\s.rows=t.rows/\s.boxes=t.boxes/\
  (∀ k,(∀ i∈dn,off listed i->(Rw E ops i).dst≠some k)->s.slots k=t.slots k)/\Rel w0 X0 fz m [] s a w/\(∀ i,on listed i->i∈dn)/\(∀ i∈dn,(Rw E ops i).kind≠.quiet->on listed i)/\
  ∀ i∈dn,off listed i->∃ o v,ops[i]? =some o/\QStep E call ops t o v/\∀ d,o.dst=some d->t.slots d=v
theorem Ytb {i j:Nat} {o:Oper} (ho:ops[i]? =some o) (hi:(Rw E ops i).kind=.quiet) (hj:(Rw E ops j).kind≠.hard) (hst:(Rw E ops j).kind=.firm->(Rw E ops i).still=true) (h:Yj2 (Rw E ops i) (Rw E ops j)=true):
  (∀ d,o.dst=some d->(Rw E ops j).dst≠some d)/\∀ d∈Yq1 ops o,(Rw E ops j).dst≠some d:=by
 have hRw:=Y24 (E:=E) ho
 have key:Yq5 (Rw E ops i).dst (Rw E ops j).dst=false/\YA3 (Rw E ops j).dst (Rw E ops i).looks=false:=by
  unfold Yj2 at h
  cases hk:(Rw E ops j).kind with
  | hard=> exact absurd hk hj
  | quiet=> simp only [hi,hk,Ylu,YXu] at h; exact ⟨h.2.1,h.2.2.2⟩
  | soft=> simp only [hi,hk,Ylu,YXu] at h; exact ⟨h.2.1,h.2.2.2⟩
  | firm=> simp only [hi,hk,hst hk,Ygu,Ylu,YXu] at h; exact ⟨h.2.1,h.2.2.2⟩
 rw [hRw] at key
 refine ⟨fun d hd hj=> ?_,fun d hd hj=> ?_⟩
 ·have:=key.1; rw [Y3i.2 ⟨d,hd,hj⟩] at this; cases this
 ·have:=key.2; rw [YT5.2 ⟨d,hj,hd⟩] at this; cases this
theorem Mid.make (hl:OrdOk E ops l) {listed:Array Bool} {a:Act} {w:World} (h1:listed.size=ops.size) (h2:n.ok a) (h3:a.defers=n.defs) (h4:∀ j,on listed j->Deps ops (on listed) j)
  {dn rest0:List Nat} {t0 s:St} {fz:Nat->Prop} {m:Maps} (hlr:l=dn++rest0) (hk:opsC E call ops (Yf3 ops rest0) t0 κ=some y) (hr:s.rows=t0.rows) (hb:s.boxes=t0.boxes)
  (hs:∀ k,(∀ i∈dn,off listed i->(Rw E ops i).dst≠some k)->s.slots k=t0.slots k) (hR:Rel w0 X0 fz m [] s a w) (hon:∀ i,on listed i->i∈dn) (hq:∀ i∈dn,(Rw E ops i).kind≠.quiet->on listed i)
  (hv:∀ i∈dn,off listed i->∃ o v,ops[i]? =some o/\QStep E call ops t0 o v/\∀ d,o.dst=some d->t0.slots d=v):Mid w0 X0 E ops call n l κ y listed a w:=by
 have hpw:=hl.pw
 rw [hlr] at hpw
 obtain ⟨p1,p2,p3⟩:=Yev.1 hpw
 have hnd:=hl.nodup
 rw [hlr] at hnd
 obtain ⟨n1,n2,n3⟩:=List.nodup_append.1 hnd
 obtain ⟨qs,rest,t,e,g1,g2,g3,g4,g5,g6,g7⟩:=YVd rest0 t0 (fun i hi=> hl.lt i (by rw [hlr]; simp [hi])) p2 (fun i hi=> hl.self i (by rw [hlr]; simp [hi])) hk
 have hoff:∀ i∈qs,off listed i:=fun i hi=> by
  rcases Y1b listed i with h | h
  ·exact absurd rfl (n3 i (hon i h) i (by rw [e]; simp [hi]))
  ·exact h
 refine ⟨h1,h2,h3,h4,dn++qs,rest,t,s,fz,m,by rw [hlr,e,Ypu],g2,g3,hr.trans g4.symm,hb.trans g5.symm,fun k hk=> ?_,hR,fun i hi=> YAu.2 (.inl (hon i hi)),fun i hi hkq=> ?_,fun i hi ho=> ?_⟩
 ·rw [hs k (fun i hi ho=> hk i (by simp [hi]) ho)]
  exact (g6 k (fun i hi=> hk i (by simp [hi]) (hoff i hi))).symm
 ·rcases YAu.1 hi with hi | hi
  ·exact hq i hi hkq
  ·exact absurd (g1 i hi) hkq
 ·rcases YAu.1 hi with hi | hi
  ·obtain ⟨o,v,q1,q2,q3⟩:=hv i hi ho
   have hkq:(Rw E ops i).kind=.quiet:=by
    cases hkk:(Rw E ops i).kind with
    | quiet=> rfl
    | soft=> exact (Yi2 (hq i hi (by rw [hkk]; simp)) ho).elim
    | firm=> exact (Yi2 (hq i hi (by rw [hkk]; simp)) ho).elim
    | hard=> exact (Yi2 (hq i hi (by rw [hkk]; simp)) ho).elim
   have hpair:∀ j∈qs,(∀ d,o.dst=some d->(Rw E ops j).dst≠some d)/\∀ d∈Yq1 ops o,(Rw E ops j).dst≠some d:=fun j hj=>
    Ytb q1 hkq (by rw [g1 j hj]; simp) (fun h=> by rw [g1 j hj] at h; cases h) (p3 i hi j (by rw [e]; simp [hj]))
   refine ⟨o,v,q1,q2.frame (fun d hd=> g6 d (fun j hj=> (hpair j hj).2 d hd)) (.inr (MemLe.of_eq g4 g5)),fun d hd=> ?_⟩
   rw [g6 d (fun j hj=> (hpair j hj).1 d hd)]
   exact q3 d hd
  ·exact g7 i hi
theorem YGq (hE:EnvOK E) (hC:∀ f x y,call f x=some y->YS E f x y) {i:Nat} {o:Oper} {os:List Oper} {t:St} {a:Act} {w:World} {fz:Nat->Prop} {m:Maps} {K:Act->World->Prop} (hi:ops[i]? =some o)
  (hlo:∀ k,o.dst=some k->n.keep k=false) (hhi:∀ k,o.dst=some k->k < a.tmps.size) (hok:n.ok a) (hdf:a.defers=n.defs) (h:Rel w0 X0 fz m [] t a w) (hg:Glob E w fz) (hk:opsC E call ops (o::os) t κ=some y)
  (hK:∀ a' w' fz' m' t',(n.ok a->n.ok a')->a'.defers=a.defers->Rel w0 X0 fz' m' [] t' a' w'->opsC E call ops os t' κ=some y->K a' w'):wpOp E.P ops (Yc1 w0 X0 n κ y) i K a w:=by
 have run:opC E call t o κ (fun s=> opsC E call ops os s κ)=some y->o.wp E.P a w K (Yc1 w0 X0 n κ y):=by
  intro hk
  refine Oper.wp_mono (fun a' w' hh=> ?_) (Y78 (nn:=n) hlo hE hC h hg hhi ?_ hk)
  ·obtain ⟨q1,q2,fz',m',s',q3,q4⟩:=hh
   exact hK a' w' fz' m' s' q1 q2 q3 q4
  ·intro chain w' j u x s' hp hk
   exact ⟨hok,hdf,j,u,x,s',s',hp,rfl,rfl,fun _ _=> rfl,hk⟩
 unfold wpOp
 rw [hi]
 simp only
 unfold opsC at hk
 split at hk
 ·rename_i hgd
  have hw:Region.wanted o (yielded ops a.tmps)=true:=by simp [Region.wanted,hgd]
  rw [Yku hw]
  exact .inl (run hk)
 ·rename_i g want hgd
  split at hk
  ·cases hk
  ·rename_i d hgdst
   have skip:opsC E call ops os (t.putO o.dst .tnil) κ=some y->K (a.put o.dst undef) w:=by
    intro hk
    obtain ⟨q1,q2⟩:=Yl5 (n:=n) a o.dst undef hlo
    exact hK _ w fz m _ q1 q2 (h.skipO hhi) hk
   split at hk
   ·rename_i b hb
    have hyb:yielded ops a.tmps g=some b:=by
     have hv:=h.slots d
     rw [hb] at hv
     have hv:=hv.bool
     unfold yielded
     rw [hgdst]
     simp only [Yiu]
     have:a.tmps[d]? =some (.bool b):=by
      rw [Array.getD_eq_getD_getElem?] at hv
      cases e:a.tmps[d]? with
      | none=> rw [e] at hv; cases hv
      | some v=> rw [e] at hv; rw [<-hv]; rfl
     rw [this]
    have hsb:=Yqb hb
    cases b <;> cases want <;> simp only [hsb] at hk
    ·have hw:Region.wanted o (yielded ops a.tmps)=true:=by simp [Region.wanted,hgd,hyb]
     rw [Yku hw]; exact .inl (run hk)
    ·have hw:¬(Region.wanted o (yielded ops a.tmps)=true):=by simp [Region.wanted,hgd,hyb]
     rw [Yju hw]; exact skip hk
    ·have hw:¬(Region.wanted o (yielded ops a.tmps)=true):=by simp [Region.wanted,hgd,hyb]
     rw [Yju hw]; exact skip hk
    ·have hw:Region.wanted o (yielded ops a.tmps)=true:=by simp [Region.wanted,hgd,hyb]
     rw [Yku hw]; exact .inl (run hk)
   ·rename_i hb
    have hw:¬(Region.wanted o (yielded ops a.tmps)=true):=by simp [Region.wanted,hgd,YK8 h hgdst hb]
    rw [Yju hw]; exact skip hk
   ·cases hk
theorem Yrq {o:Op} (hf:Yz1 o=true) (hx:Yt1 E o=true\/Yk1 E o=true):False:=by
 cases o with
 | store a b c=> rcases hx with h | h <;> cases h
 | call c=>
  unfold Yz1 at hf
  simp only at hf
  split at hf
  ·rename_i b hb
   rcases hx with h | h
   ·unfold Yt1 at h
    simp only [hb] at h
    cases h
   ·cases h
  ·cases hf
 | _=> cases hf
theorem Yvt {o:Oper} (hso:(Yt1 E o.op=true\/Yk1 E o.op=true)\/Yz1 o.op=true) {t s:St} (hr:s.rows=t.rows) (hb:s.boxes=t.boxes) (hlk:∀ k∈Yq1 ops o,s.slots k=t.slots k) {os:List Oper} (hk:opsC E call ops (o::os) t κ=some y):
  ∃ (κ2:Ex->St->Option R) (os2:St->Option R),(∀ e s2 r,κ2 e s2=some r->s2.slots=s.slots/\κ e (s2.sl t.slots)=some r)/\
   (∀ s2 r,os2 s2=some r->∃ t',t'.rows=s2.rows/\t'.boxes=s2.boxes/\((Yt1 E o.op=true\/Yk1 E o.op=true)->MemLe s s2)/\(∀ k,o.dst≠some k->t'.slots k=t.slots k/\s2.slots k=s.slots k)/\(∀ k,o.dst=some k->t'.slots k=s2.slots k)/\opsC E call ops os t' κ=some r)/\
   (match o.guard with
    | none=> opC E call s o κ2 os2=some y
    | some (g,want)=> ∃ d,(ops[g]?).bind (·.dst)=some d/\((s.slots d=.val .bool want/\opC E call s o κ2 os2=some y)\/((s.slots d=.tnil\/s.slots d=.val .bool (!want))/\os2 (s.putO o.dst .tnil)=some y))):=by
 have hopd:=Y5b (E:=E) hlk
 have body:∀ {t1:St},t1.rows=t.rows->t1.boxes=t.boxes->(∀ k,t1.slots k=t.slots k)->∀ {κ1:St->Option R},opC E call t1 o κ κ1=some y->
   ∃ (π':Ex->St->Option R) (κ':St->Option R),opC E call s o π' κ'=some y/\(∀ e s2 r,π' e s2=some r->s2.slots=s.slots/\κ e (s2.sl t.slots)=some r)/\
    (∀ s2 r,κ' s2=some r->((Yt1 E o.op=true\/Yk1 E o.op=true)->MemLe s s2)/\(∀ k,o.dst≠some k->s2.slots k=s.slots k)/\κ1 (s2.sl fun k=> if o.dst=some k then s2.slots k else t.slots k)=some r):=by
  intro t1 e1 e2 e3 κ1 hk1
  have:t1=t:=by
   have:t1.slots=t.slots:=funext e3
   cases t1; cases t; simp only [St.mk.injEq] at*; exact ⟨this,e2,e1⟩
  subst this
  rcases hso with (hso | hso) | hso
  ·obtain ⟨c,x,hop,hcal,hso'⟩:∃ c x,o.op=.call c/\c.callee=.value x/\(∀ f,x=.func f->Ye4 E f=true):=by
    unfold Yt1 at hso
    split at hso
    ·rename_i c hc
     split at hso
     ·rename_i x hf
      refine ⟨c,x,hc,hf,fun f e=> ?_⟩
      subst e
      exact hso
     ·cases hso
    ·cases hso
   have hargs:c.args.toList.map (s.opd E)=c.args.toList.map (t1.opd E):=by
    refine List.map_congr_left fun x hx=> hopd x ?_
    rw [hop]
    simp only [Op.operands,Call.operands,hcal]
    simp only [Array.toList_append,YAu]
    exact .inr hx
   have hxo:s.opd E x=t1.opd E x:=by
    refine hopd x ?_
    rw [hop]
    simp only [Op.operands,Call.operands,hcal]
    simp only [Array.toList_append,YAu]
    exact .inl (by simp)
   unfold opC at hk1 ⊢
   simp only [hop,hcal,hxo] at hk1 ⊢
   cases hcl:t1.opd E x with
   | cl f n caps=>
    simp only [hcl] at hk1 ⊢
    cases hl:Yl3 n caps with
    | none=> simp [hl] at hk1
    | some l=>
     cases hgo:(E.goes f&&(YNa x||Ye4 E f)) with
     | false=> simp [hl,hgo] at hk1
     | true=>
      have hcf:Ye4 E f=true:=by
       rw [Ylu,Bool.or_eq_true] at hgo
       rcases hgo.2 with h | h
       ·cases x with
        | func g=>
         have:g=f:=by
          simp only [St.opd] at hcl
          cases hcl; rfl
         subst this
         exact hso' _ rfl
        | _=> cases h
       ·exact h
      have hcf':=hcf
      unfold Ye4 at hcf'
      rw [Ylu] at hcf'
      have hvars:E.vars f=[]:=by simpa using hcf'.2
      simp only [hl,hgo] at hk1 ⊢
      have hv:∀ ps,E.vary f ps=f:=fun ps=> by unfold Env.vary; rw [hvars]; rfl
      rw [hv] at hk1
      obtain ⟨π',κ',q1,q2,q3⟩:=YDp (s:=s) hr hb hcf'.1 hk1
      refine ⟨π',κ',?_,q2,fun s2 r h=> ⟨fun _=> (q3 s2 r h).1,(q3 s2 r h).2⟩⟩
      rw [hv]
      rw [show (List.map (fun x=> St.opd E s x) c.args.toList)=c.args.toList.map (s.opd E) from rfl,hargs]
      exact q1
   | _=> simp [hcl] at hk1
  ·classical
   have hoc:∀ (s:St) (π:Ex->St->Option R) (κ:St->Option R),opC E call s o π κ=YZ1 E s o κ:=by
    intro s π κ
    unfold opC
    split
    ·rename_i c hc; rw [hc] at hso; cases hso
    ·rename_i x hx; rw [hx] at hso; cases hso
    ·rename_i x hx; rw [hx] at hso; cases hso
    ·rfl
   rw [hoc] at hk1
   obtain ⟨t2,hstep,hκ⟩:=YGb hk1
   obtain ⟨v,u,e,m,le,g⟩:=YBr hso hstep
   refine ⟨fun _ _=> none,fun s2=> if s2=(u.sl s.slots).putO o.dst v then some y else none,?_,fun e s2 r h=> (by cases h),fun s2 r h=> ?_⟩
   ·rw [hoc]
    unfold YZ1
    rw [g s hopd hr hb]
    exact Yku rfl
   ·dsimp only at h
    split at h
    ·rename_i e2
     cases h
     subst e2
     have hm:((u.sl s.slots).putO o.dst v).rows=u.rows/\((u.sl s.slots).putO o.dst v).boxes=u.boxes:=by cases o.dst <;> exact ⟨rfl,rfl⟩
     refine ⟨fun _=> ?_,fun k hk=> ?_,?_⟩
     ·refine MemLe.trans (b:=u) ?_ (MemLe.of_eq hm.1 hm.2)
      exact ⟨fun r u' oo xs hh=> le.rows r u' oo xs (by rw [<-hr]; exact hh),fun b T oo c hh=> le.boxes b T oo c (by rw [<-hb]; exact hh),fun b l nn hh=> le.iters b l nn (by rw [<-hb]; exact hh)⟩
     ·cases hd:o.dst with
      | none=> rfl
      | some d=> show ((u.sl s.slots).put d v).slots k=_; rw [Y71,Yju (fun e=> hk (by rw [hd,e]))]; rfl
     ·rw [<-hκ,e]
      congr 1
      cases hd:o.dst with
      | none=>
       show St.mk (fun k=> if (none:Option Nat)=some k then _ else t1.slots k) u.boxes u.rows=u
       have:(fun k=> if (none:Option Nat)=some k then s.slots k else t1.slots k)=u.slots:=by
        funext k; rw [Yju (by simp),m]
       cases u
       simp only [St.mk.injEq,and_true]
       exact this
      | some d=>
       show St.mk (fun k=> if some d=some k then ((u.sl s.slots).put d v).slots k else t1.slots k) u.boxes u.rows=u.put d v
       have:(fun k=> if some d=some k then ((u.sl s.slots).put d v).slots k else t1.slots k)=(u.put d v).slots:=by
        funext k
        by_cases e:d=k
        ·subst e; rw [Yku rfl,Y71,Y71,Yku rfl,Yku rfl]
        ·rw [Yju (by simpa using e),Y71,Yju (fun h=> e h.symm),m]
       rw [this]; rfl
    ·cases h
  ·classical
   have hoc:∀ (s:St) (π:Ex->St->Option R) (κ:St->Option R),opC E call s o π κ=YZ1 E s o κ:=by
    intro s π κ
    unfold opC
    split
    ·rename_i c hc
     rw [hc] at hso
     split
     ·rename_i x hx; simp [Yz1,hx] at hso
     ·rfl
    ·rename_i x hx; rw [hx] at hso; cases hso
    ·rename_i x hx; rw [hx] at hso; cases hso
    ·rfl
   rw [hoc] at hk1
   obtain ⟨t2,hstep,hκ⟩:=YGb hk1
   obtain ⟨v,u,e,m,g⟩:=Yqq hso hstep
   refine ⟨fun _ _=> none,fun s2=> if s2=(u.sl s.slots).putO o.dst v then some y else none,?_,fun e s2 r h=> (by cases h),fun s2 r h=> ?_⟩
   ·rw [hoc]
    unfold YZ1
    rw [g s hopd hr hb]
    exact Yku rfl
   ·dsimp only at h
    split at h
    ·rename_i e2
     cases h
     subst e2
     have hm:((u.sl s.slots).putO o.dst v).rows=u.rows/\((u.sl s.slots).putO o.dst v).boxes=u.boxes:=by cases o.dst <;> exact ⟨rfl,rfl⟩
     refine ⟨fun hx=> ?_,fun k hk=> ?_,?_⟩
     ·exact (Yrq hso hx).elim
     ·cases hd:o.dst with
      | none=> rfl
      | some d=> show ((u.sl s.slots).put d v).slots k=_; rw [Y71,Yju (fun e=> hk (by rw [hd,e]))]; rfl
     ·rw [<-hκ,e]
      congr 1
      cases hd:o.dst with
      | none=>
       show St.mk (fun k=> if (none:Option Nat)=some k then _ else t1.slots k) u.boxes u.rows=u
       have:(fun k=> if (none:Option Nat)=some k then s.slots k else t1.slots k)=u.slots:=by
        funext k; rw [Yju (by simp),m]
       cases u
       simp only [St.mk.injEq,and_true]
       exact this
      | some d=>
       show St.mk (fun k=> if some d=some k then ((u.sl s.slots).put d v).slots k else t1.slots k) u.boxes u.rows=u.put d v
       have:(fun k=> if some d=some k then ((u.sl s.slots).put d v).slots k else t1.slots k)=(u.put d v).slots:=by
        funext k
        by_cases e:d=k
        ·subst e; rw [Yku rfl,Y71,Y71,Yku rfl,Yku rfl]
        ·rw [Yju (by simpa using e),Y71,Yju (fun h=> e h.symm),m]
       rw [this]; rfl
    ·cases h
 have pack:∀ {κ':St->Option R},(∀ s2 r,κ' s2=some r->((Yt1 E o.op=true\/Yk1 E o.op=true)->MemLe s s2)/\(∀ k,o.dst≠some k->s2.slots k=s.slots k)/\opsC E call ops os (s2.sl fun k=> if o.dst=some k then s2.slots k else t.slots k) κ=some r)->
   ∀ s2 r,κ' s2=some r->∃ t',t'.rows=s2.rows/\t'.boxes=s2.boxes/\((Yt1 E o.op=true\/Yk1 E o.op=true)->MemLe s s2)/\(∀ k,o.dst≠some k->t'.slots k=t.slots k/\s2.slots k=s.slots k)/\(∀ k,o.dst=some k->t'.slots k=s2.slots k)/\opsC E call ops os t' κ=some r:=by
  intro κ' h s2 r hk
  obtain ⟨q1,q2,q3⟩:=h s2 r hk
  refine ⟨s2.sl fun k=> if o.dst=some k then s2.slots k else t.slots k,rfl,rfl,q1,fun k hk=> ⟨?_,q2 k hk⟩,fun k hk=> ?_,q3⟩
  ·show (if o.dst=some k then s2.slots k else t.slots k)=_; rw [Yju hk]
  ·show (if o.dst=some k then s2.slots k else t.slots k)=_; rw [Yku hk]
 unfold opsC at hk
 split at hk
 ·rename_i hgd
  obtain ⟨π',κ',q1,q2,q3⟩:=body rfl rfl (fun _=> rfl) hk
  exact ⟨π',κ',q2,pack q3,by rw [hgd]; exact q1⟩
 ·rename_i g want hgd
  split at hk
  ·cases hk
  ·rename_i d hd
   have skip:opsC E call ops os (t.putO o.dst .tnil) κ=some y->∃ (κ2:Ex->St->Option R) (os2:St->Option R),(∀ e s2 r,κ2 e s2=some r->s2.slots=s.slots/\κ e (s2.sl t.slots)=some r)/\
     (∀ s2 r,os2 s2=some r->∃ t',t'.rows=s2.rows/\t'.boxes=s2.boxes/\((Yt1 E o.op=true\/Yk1 E o.op=true)->MemLe s s2)/\(∀ k,o.dst≠some k->t'.slots k=t.slots k/\s2.slots k=s.slots k)/\(∀ k,o.dst=some k->t'.slots k=s2.slots k)/\opsC E call ops os t' κ=some r)/\os2 (s.putO o.dst .tnil)=some y:=by
    classical
    intro hk
    refine ⟨fun _ _=> none,fun s2=> if s2=s.putO o.dst .tnil then some y else none,fun e s2 r h=> (by cases h),fun s2 r h=> ?_,Yku rfl⟩
    dsimp only at h
    split at h
    ·rename_i e
     cases h
     subst e
     have hm:(s.putO o.dst .tnil).rows=s.rows/\(s.putO o.dst .tnil).boxes=s.boxes/\(t.putO o.dst .tnil).rows=t.rows/\(t.putO o.dst .tnil).boxes=t.boxes:=by cases o.dst <;> exact ⟨rfl,rfl,rfl,rfl⟩
     refine ⟨t.putO o.dst .tnil,by rw [hm.2.2.1,hm.1,hr],by rw [hm.2.2.2,hm.2.1,hb],fun _=> MemLe.of_eq hm.1 hm.2.1,fun k hk=> ?_,fun k hk=> ?_,hk⟩
     ·cases hd:o.dst with
      | none=> exact ⟨rfl,rfl⟩
      | some d=>
       have:¬k=d:=fun e=> hk (by rw [hd,e])
       constructor
       ·show (t.put d .tnil).slots k=_; rw [Y71,Yju this]
       ·show (s.put d .tnil).slots k=_; rw [Y71,Yju this]
     ·rw [hk]
      show (t.put k .tnil).slots k=(s.put k .tnil).slots k
      rw [Y71,Y71,Yku rfl,Yku rfl]
    ·cases h
   split at hk
   ·rename_i b hbv
    have hsb:=Yqb hbv
    have hsd:s.slots d=.val .bool b:=by rw [hlk d (YFa hgd hd)]; exact hbv
    cases b <;> cases want <;> simp only [hsb] at hk
    ·obtain ⟨π',κ',q1,q2,q3⟩:=body rfl rfl (fun _=> rfl) hk
     exact ⟨π',κ',q2,pack q3,by rw [hgd]; exact ⟨d,hd,.inl ⟨hsd,q1⟩⟩⟩
    ·obtain ⟨π',κ',q1,q2,q3⟩:=skip hk
     exact ⟨π',κ',q1,q2,by rw [hgd]; exact ⟨d,hd,.inr ⟨.inr hsd,q3⟩⟩⟩
    ·obtain ⟨π',κ',q1,q2,q3⟩:=skip hk
     exact ⟨π',κ',q1,q2,by rw [hgd]; exact ⟨d,hd,.inr ⟨.inr hsd,q3⟩⟩⟩
    ·obtain ⟨π',κ',q1,q2,q3⟩:=body rfl rfl (fun _=> rfl) hk
     exact ⟨π',κ',q2,pack q3,by rw [hgd]; exact ⟨d,hd,.inl ⟨hsd,q1⟩⟩⟩
   ·rename_i hbv
    have hsd:s.slots d=.tnil:=by rw [hlk d (YFa hgd hd)]; exact hbv
    obtain ⟨π',κ',q1,q2,q3⟩:=skip hk
    exact ⟨π',κ',q1,q2,by rw [hgd]; exact ⟨d,hd,.inr ⟨.inl hsd,q3⟩⟩⟩
   ·cases hk
theorem Y8i (hE:EnvOK E) (hC:∀ f x y,call f x=some y->YS E f x y) {i:Nat} {o:Oper} {os:List Oper} {t s:St} {a:Act} {w:World} {fz:Nat->Prop} {m:Maps} {K:Act->World->Prop} (hi:ops[i]? =some o)
  (hlo:∀ k,o.dst=some k->n.keep k=false) (hhi:∀ k,o.dst=some k->k < a.tmps.size) (hok:n.ok a) (hkp:∀ k,n.keep k=true->s.slots k=t.slots k) (hdf:a.defers=n.defs) (hso:(Yt1 E o.op=true\/Yk1 E o.op=true)\/Yz1 o.op=true) (hr:s.rows=t.rows) (hb:s.boxes=t.boxes) (hlk:∀ k∈Yq1 ops o,s.slots k=t.slots k)
  (h:Rel w0 X0 fz m [] s a w) (hg:Glob E w fz) (hk:opsC E call ops (o::os) t κ=some y)
  (hK:∀ a' w' fz' m' s' t',(n.ok a->n.ok a')->a'.defers=a.defers->Rel w0 X0 fz' m' [] s' a' w'->t'.rows=s'.rows->t'.boxes=s'.boxes->((Yt1 E o.op=true\/Yk1 E o.op=true)->MemLe s s')->(∀ k,o.dst≠some k->t'.slots k=t.slots k/\s'.slots k=s.slots k)->
   (∀ k,o.dst=some k->t'.slots k=s'.slots k)->opsC E call ops os t' κ=some y->K a' w'):wpOp E.P ops (Yc1 w0 X0 n κ y) i K a w:=by
 obtain ⟨κ2,os2,k1,k2,k3⟩:=Yvt hso hr hb hlk hk
 have run:opC E call s o κ2 os2=some y->o.wp E.P a w K (Yc1 w0 X0 n κ y):=by
  intro hk
  refine Oper.wp_mono (fun a' w' hh=> ?_) (Y78 (nn:=n) hlo hE hC h hg hhi ?_ hk)
  ·obtain ⟨q1,q2,fz',m',s',q3,q4⟩:=hh
   obtain ⟨t',r1,r2,r3,r4,r5,r6⟩:=k2 s' y q4
   exact hK a' w' fz' m' s' t' q1 q2 q3 r1 r2 r3 r4 r5 r6
  ·intro chain w' j u x s' hp hk
   obtain ⟨e1,h3⟩:=k1 _ _ _ hk
   exact ⟨hok,hdf,j,u,x,s',s'.sl t.slots,hp,rfl,rfl,fun k hk=> by rw [e1]; exact (hkp k hk).symm,h3⟩
 unfold wpOp
 rw [hi]
 simp only
 cases hgd:o.guard with
 | none=>
  rw [hgd] at k3
  have hw:Region.wanted o (yielded ops a.tmps)=true:=by simp [Region.wanted,hgd]
  rw [Yku hw]
  exact .inl (run k3)
 | some gw=>
  obtain ⟨g,want⟩:=gw
  rw [hgd] at k3
  obtain ⟨d,h1,h2⟩:=k3
  rcases h2 with ⟨h2,h3⟩ | ⟨h2,h3⟩
  ·have hw:Region.wanted o (yielded ops a.tmps)=true:=by simp [Region.wanted,hgd,YJ8 h h1 h2]
   rw [Yku hw]
   exact .inl (run h3)
  ·have hw:¬(Region.wanted o (yielded ops a.tmps)=true):=by
    rcases h2 with h2 | h2
    ·simp [Region.wanted,hgd,YK8 h h1 h2]
    ·simp [Region.wanted,hgd,YJ8 h h1 h2]
   rw [Yju hw]
   obtain ⟨q1,q2⟩:=Yl5 (n:=n) a o.dst undef hlo
   obtain ⟨t',r1,r2,r3,r4,r5,r6⟩:=k2 _ y h3
   exact hK _ w fz m _ t' q1 q2 (h.skipO hhi) r1 r2 r3 r4 r5 r6
end
end Go.Abs
namespace Go.Abs
section
variable {w0:World} {X0:Ent} {E:Env} {R:Type} {ops:Array Oper} {call:CallT E} {n:Fr} {l:List Nat} {κ:Ex->St->Option R} {y:R}
theorem Y2g {p q:Nat->Bool} (hpq:∀ i,q i=true->p i=true):∀ {l:List Nat} {i:Nat},i∈l->p i=true->q i=false->(l.filter q).length < (l.filter p).length
 | [],i,h,_,_=> by cases h
 | j::l,i,h,hp,hq=> by
  have hle:∀ l:List Nat,(l.filter q).length<=(l.filter p).length:=by
   intro l
   induction l with
   | nil=> simp
   | cons k l ih=>
    cases hk:q k with
    | true=> rw [List.filter_cons_of_pos hk,List.filter_cons_of_pos (hpq k hk)]; simpa using ih
    | false=>
     rw [List.filter_cons_of_neg (by simp [hk])]
     cases hk':p k with
     | true=> rw [List.filter_cons_of_pos hk']; simp only [Ynu]; omega
     | false=> rw [List.filter_cons_of_neg (by simp [hk'])]; exact ih
  rcases Yuu.1 h with rfl | h
  ·rw [List.filter_cons_of_neg (by simp [hq]),List.filter_cons_of_pos hp]
   have:=hle l
   simp only [Ynu]; omega
  ·have ih:=Y2g hpq h hp hq
   cases hk:q j with
   | true=> rw [List.filter_cons_of_pos hk,List.filter_cons_of_pos (hpq j hk)]; simpa using ih
   | false=>
    rw [List.filter_cons_of_neg (by simp [hk])]
    cases hk':p j with
    | true=> rw [List.filter_cons_of_pos hk']; simp only [Ynu]; omega
    | false=> rw [List.filter_cons_of_neg (by simp [hk'])]; exact ih
theorem Yub {listed:Array Bool} {i:Nat} (hs:listed.size=ops.size):i∈Region.ready .any ops listed↔i < ops.size/\off listed i/\Deps ops (on listed) i:=by
 unfold Region.ready
 rw [List.mem_filter,List.mem_range]
 constructor
 ·rintro ⟨h1,h2⟩
  simp only [Ylu,YXu] at h2
  refine ⟨h1,?_,fun o ho e he hb=> ?_⟩
  ·have:=h2.1
   unfold off
   rw [Array.getD_eq_getD_getElem?] at this ⊢
   rw [Y1v (by omega)] at this ⊢
   exact this
  ·have:=h2.2
   rw [ho] at this
   simp only [Option.map_some,Option.getD_some] at this
   have:=Array.all_eq_true_iff_forall_mem.1 this e (Array.mem_toList_iff.1 he)
   rw [hb] at this
   simpa [on] using this
 ·rintro ⟨h1,h2,h3⟩
  refine ⟨h1,?_⟩
  simp only [Ylu,YXu]
  constructor
  ·unfold off at h2
   rw [Array.getD_eq_getD_getElem?] at h2 ⊢
   rw [Y1v (by omega)] at h2 ⊢
   exact h2
  ·rw [Y1v h1]
   simp only [Option.map_some,Option.getD_some]
   refine Array.all_eq_true_iff_forall_mem.2 fun e he=> ?_
   cases hb:Region.binds .any e with
   | false=> rfl
   | true=> exact h3 _ (Y1v h1) e (Array.mem_toList_iff.2 he) hb
theorem Y28 {listed:Array Bool} (hcl:∀ j,on listed j->Deps ops (on listed) j) {i:Nat} {o:Oper} (ho:ops[i]? =some o) (hd:Deps ops (on listed) i) {j:Nat} (hj:Ys2 (Rw E ops i).mask j=true):on listed j:=by
 rw [Y24 ho] at hj
 have hlt:i < (YJ3 ops.toList).length:=by rw [(Y88 ops).2.2]; exact (Array.getElem?_eq_some_iff.1 ho).1
 exact (Y88 ops).1 (on listed) hcl i hlt hd j hj
theorem YWl (hl:OrdOk E ops l) {listed:Array Bool} (hs:listed.size=ops.size) (h:Region.ready .any ops listed=[]):∀ i∈l,on listed i:=by
 have key:∀ (post pre:List Nat),l=pre++post->(∀ i∈pre,on listed i)->∀ i∈l,on listed i:=by
  intro post
  induction post with
  | nil=> intro pre e hp i hi; rw [e,YHu] at hi; exact hp i hi
  | cons i post ih=>
   intro pre e hp
   refine ih (pre++[i]) (by rw [e]; simp) fun j hj=> ?_
   rcases YAu.1 hj with hj | hj
   ·exact hp j hj
   ·have:j=i:=by simpa using hj
    subst this
    rcases Y1b listed j with ho | ho
    ·exact ho
    ·exfalso
     have hjl:j∈l:=by rw [e]; simp
     have hlt:=hl.lt j hjl
     have:j∈Region.ready .any ops listed:=(Yub hs).2 ⟨hlt,ho,fun o hoo ed hed hb=> ?_⟩
     ·rw [h] at this; cases this
     ·refine hp _ (hl.deps pre j post e ed.on ?_)
      rw [Y24 hoo]
      exact (Y88 ops).2.1 j (by rw [(Y88 ops).2.2]; exact hlt) o hoo ed hed hb
 exact key l [] rfl (fun i h=> by cases h)
theorem Mid.done (hl:OrdOk E ops l) {listed:Array Bool} {a:Act} {w:World} (h:Mid w0 X0 E ops call n l κ y listed a w) (hall:∀ i∈l,on listed i):Yc1 w0 X0 n κ y .normal a w:=by
 obtain ⟨h1,h2,h3,h4,dn,rest,t,s,fz,m,e,hr,hk,hrow,hbox,hs,hR,hon,hq,hv⟩:=h
 have hrest:rest=[]:=by
  cases rest with
  | nil=> rfl
  | cons i r=>
   have hnd:=hl.nodup
   rw [e] at hnd
   exact absurd rfl ((List.nodup_append.1 hnd).2.2 i (hon i (hall i (by rw [e]; simp))) i (by simp))
 subst hrest
 have hst:s=t:=by
  have:s.slots=t.slots:=by
   funext k
   exact hs k (fun i hi ho=> (Yi2 (hall i (by rw [e]; simp [hi])) ho).elim)
  cases s; cases t; simp only [St.mk.injEq] at*; exact ⟨this,hbox,hrow⟩
 subst hst
 exact ⟨h2,h3,fz,m,s,hR,hk⟩
theorem YRf (hE:EnvOK E) (hC:∀ f x y,call f x=some y->YS E f x y) (hX:∀ b∈X0.X,¬X0.fz b) (hz:∀ b,X0.fz b->b < w0.heap.size) (hg0:Glob E w0 X0.fz) (hn:YV5 ops n) (hl:OrdOk E ops l):
  ∀ (fuel:Nat) (listed:Array Bool) (a:Act) (w:World),Mid w0 X0 E ops call n l κ y listed a w->(l.filter fun i=> !listed.getD i false).length<=fuel->wpAny E.P .any ops (Yc1 w0 X0 n κ y) fuel listed a w
 | 0,listed,a,w,h,hf=> by
  have hall:∀ i∈l,on listed i:=by
   intro i hi
   rcases Y1b listed i with ho | ho
   ·exact ho
   ·have:i∈l.filter fun i=> !listed.getD i false:=List.mem_filter.2 ⟨hi,by unfold off at ho; simp [ho]⟩
    rw [YRu (Nat.le_zero.1 hf)] at this
    cases this
  refine ⟨?_,h.done hl hall⟩
  rw [List.eq_nil_iff_forall_not_mem]
  intro i hi
  obtain ⟨q1,q2,_⟩:=(Yub h.1).1 hi
  exact Yi2 (hall i (hl.all i q1)) q2
 | fuel+1,listed,a,w,h,hf=> by
  refine ⟨fun hr=> h.done hl (YWl hl h.1 hr),fun i hi=> ?_⟩
  obtain ⟨hlt,hoff,hdeps⟩:=(Yub h.1).1 hi
  obtain ⟨h1,h2,h3,h4,dn,rest,t,s,fz,m,e,hr,hk,hrow,hbox,hs,hR,hon,hq,hv⟩:=h
  obtain ⟨o,ho⟩:∃ o,ops[i]? =some o:=⟨ops[i],Y1v hlt⟩
  have hRw:=Y24 (E:=E) ho
  have hmem:o∈ops.toList:=List.mem_of_getElem? (by rw [Y4v]; exact ho)
  have hlo:∀ k,o.dst=some k->n.keep k=false:=fun k hk=> (hn o hmem k hk).1
  have hhi:∀ k,o.dst=some k->k < a.tmps.size:=fun k hk=> by rw [h2.1]; exact (hn o hmem k hk).2
  have hil:=hl.all i hlt
  have hkeep:∀ k,n.keep k=true->s.slots k=t.slots k:=fun k hk=> hs k fun z hz hzo hd=> by
   obtain ⟨oz,_,q1,_⟩:=hv z hz hzo
   rw [Y24 q1] at hd
   have:=(hn oz (List.mem_of_getElem? (by rw [Y4v]; exact q1)) k hd).1
   rw [hk] at this; cases this
  have hset:∀ j,(listed.setIfInBounds i true).getD j false=if j=i then true else listed.getD j false:=fun j=> YDq (by omega)
  have hon':∀ j,on (listed.setIfInBounds i true) j↔j=i\/on listed j:=fun j=> by
   unfold on
   rw [hset]
   by_cases e:j=i <;> simp [e]
  have hoff':∀ j,off (listed.setIfInBounds i true) j->j≠i/\off listed j:=fun j hj=> by
   unfold off at hj ⊢
   rw [hset] at hj
   by_cases e:j=i
   ·rw [Yku e] at hj; cases hj
   ·rw [Yju e] at hj; exact ⟨e,hj⟩
  have hcl':∀ j,on (listed.setIfInBounds i true) j->Deps ops (on (listed.setIfInBounds i true)) j:=by
   intro j hj o' ho' ed hed hb
   refine (hon' _).2 (.inr ?_)
   rcases (hon' j).1 hj with rfl | hj
   ·exact hdeps o' ho' ed hed hb
   ·exact h4 j hj o' ho' ed hed hb
  have hfuel:(l.filter fun j=> !(listed.setIfInBounds i true).getD j false).length<=fuel:=by
   have:=Y2g (p:=fun j=> !listed.getD j false) (q:=fun j=> !(listed.setIfInBounds i true).getD j false) (fun j hj=> by
    rw [hset] at hj
    by_cases e:j=i
    ·rw [Yku e] at hj; cases hj
    ·rw [Yju e] at hj; exact hj) hil (by unfold off at hoff; simp [hoff]) (by rw [hset,Yku rfl]; rfl)
   omega
  have hsz:(listed.setIfInBounds i true).size=ops.size:=by simpa using h1
  have IH:=YRf hE hC hX hz hg0 hn hl fuel (listed.setIfInBounds i true)
  have quietOff:∀ z∈dn,off listed z->(Rw E ops z).kind=.quiet:=by
   intro z hz hzo
   cases hkk:(Rw E ops z).kind with
   | quiet=> rfl
   | soft=> exact (Yi2 (hq z hz (by rw [hkk]; simp)) hzo).elim
   | firm=> exact (Yi2 (hq z hz (by rw [hkk]; simp)) hzo).elim
   | hard=> exact (Yi2 (hq z hz (by rw [hkk]; simp)) hzo).elim
  have looksOK:(Rw E ops i).kind≠.hard->∀ k∈Yq1 ops o,s.slots k=t.slots k:=by
   intro hnh k hk
   refine hs k fun z hz hzo hd=> ?_
   have hzq:=quietOff z hz hzo
   have hzl:z∈l:=by rw [e]; simp [hz]
   by_cases hzi:z=i
   ·subst hzi
    have hself:=hl.self z hil
    unfold Yn6 at hself
    rw [hzq] at hself
    simp only [YXu] at hself
    rw [YT5.2 ⟨k,hd,by rw [hRw]; exact hk⟩] at hself
    cases hself
   ·have hlook:YA3 (Rw E ops z).dst (Rw E ops i).looks=true:=YT5.2 ⟨k,hd,by rw [hRw]; exact hk⟩
    rcases YAh hl.pw hzl hil hzi with hp | hp
    ·unfold Yj2 at hp
     have hbit:Ys2 (Rw E ops i).mask (Rw E ops z).i=true:=by
      cases hkk:(Rw E ops i).kind with
      | hard=> exact absurd hkk hnh
      | quiet=> simp only [hzq,hkk,hlook,YEu,YCu,Ylu] at hp; exact hp.2.2.1
      | soft=> simp only [hzq,hkk,hlook,YEu,YCu,Ylu] at hp; exact hp.2.2.1
      | firm=>
       simp only [hzq,hkk] at hp
       cases hst:(Rw E ops z).still with
       | true=> simp only [hst,Ygu,hlook,YEu,YCu,Ylu] at hp; exact hp.2.2.1
       | false=> simp only [hst,Yhu,Ylu] at hp; exact hp.2
     have hzi':(Rw E ops z).i=z:=by unfold Rw; split <;> rfl
     rw [hzi'] at hbit
     exact Yi2 (Y28 h4 ho hdeps hbit) hzo
    ·unfold Yj2 at hp
     cases hkk:(Rw E ops i).kind with
     | hard=> exact absurd hkk hnh
     | quiet=> simp only [hzq,hkk,hlook,YEu,Bool.and_false,YSu] at hp
     | soft=> simp only [hzq,hkk,hlook,YEu,Bool.and_false,YSu] at hp
     | firm=> simp only [hzq,hkk,hlook,YEu,Bool.and_false,YSu] at hp
  have hi':=hil
  rw [e] at hi'
  rcases YAu.1 hi' with hid | hir
  ·-- it only looks,and it was done early
   obtain ⟨o',v,q1,q2,q3⟩:=hv i hid hoff
   rw [ho] at q1
   cases q1
   have hkq:=quietOff i hid hoff
   have hqs:=q2.frame (looksOK (by rw [hkq]; simp)) (.inr (MemLe.of_eq hrow hbox))
   refine hqs.wp hE hC ho hR (hR.glob hX hz hg0) hlo hhi fun a' w' fz' m' g1 g2 g3=> IH a' w' ?_ hfuel
   have hmem':(s.putO o.dst v).rows=s.rows/\(s.putO o.dst v).boxes=s.boxes:=by cases o.dst <;> exact ⟨rfl,rfl⟩
   refine ⟨hsz,g1 h2,g2.trans h3,hcl',dn,rest,t,s.putO o.dst v,fz',m',e,hr,hk,hmem'.1.trans hrow,hmem'.2.trans hbox,fun k hk'=> ?_,g3,fun j hj=> ?_,fun j hj hkj=> (hon' j).2 (.inr (hq j hj hkj)),fun j hj hjo=> hv j hj (hoff' j hjo).2⟩
   ·have old:o.dst≠some k->s.slots k=t.slots k:=fun hne=> hs k fun z hz hzo hd=> by
     by_cases hzi:z=i
     ·subst hzi; rw [hRw] at hd; exact hne hd
     ·refine hk' z hz ?_ hd
      unfold off
      rw [hset,Yju hzi]; exact hzo
    cases hd:o.dst with
    | none=> exact old (by rw [hd]; simp)
    | some d=>
     show (s.put d v).slots k=_
     rw [Y71]
     by_cases hkd:k=d
     ·rw [Yku hkd,hkd,q3 d hd]
     ·rw [Yju hkd]; exact old (by rw [hd]; simpa using fun h=> hkd h.symm)
   ·rcases (hon' j).1 hj with rfl | hj
    ·exact hid
    ·exact hon j hj
  ·-- the next that must stand where it stands
   rcases hr with rfl | ⟨hd,r,rfl,hhd⟩
   ·cases hir
   have hnd:=hl.nodup
   rw [e] at hnd
   obtain ⟨n1,n2,n3⟩:=List.nodup_append.1 hnd
   have hpw:=hl.pw
   rw [e] at hpw
   obtain ⟨p1,p2,p3⟩:=Yev.1 hpw
   have hih:i=hd:=by
    rcases Yuu.1 hir with h | h
    ·exact h
    ·exfalso
     have hp:=(Ydv.1 p2).1 i h
     have hbit:Ys2 (Rw E ops i).mask (Rw E ops hd).i=true:=by
      unfold Yj2 at hp
      cases hk1:(Rw E ops hd).kind with
      | quiet=> exact absurd hk1 hhd
      | hard=> simp only [hk1,Ylu] at hp; exact hp.2
      | soft=>
       cases hk2:(Rw E ops i).kind with
       | hard=> simp only [hk1,hk2,Ylu] at hp; exact hp.2
       | _=> simp only [hk1,hk2,Ylu] at hp; exact hp.2.2.1
      | firm=>
       cases hk2:(Rw E ops i).kind with
       | hard=> simp only [hk1,hk2,Ylu] at hp; exact hp.2
       | _=> simp only [hk1,hk2,Ylu] at hp; exact hp.2.2.1
     have hz':(Rw E ops hd).i=hd:=by unfold Rw; split <;> rfl
     rw [hz'] at hbit
     exact n3 hd (hon hd (Y28 h4 ho hdeps hbit)) hd (by simp) rfl
   subst hih
   rw [Yvh ho] at hk
   have hlr:l=(dn++[i])++r:=by rw [e]; simp
   have hon2:∀ j,on (listed.setIfInBounds i true) j->j∈dn++[i]:=fun j hj=> by
    rcases (hon' j).1 hj with rfl | hj
    ·simp
    ·simp [hon j hj]
   have hq2:∀ j∈dn++[i],(Rw E ops j).kind≠.quiet->on (listed.setIfInBounds i true) j:=fun j hj hkj=> by
    rcases YAu.1 hj with hj | hj
    ·exact (hon' j).2 (.inr (hq j hj hkj))
    ·exact (hon' j).2 (.inl (by simpa using hj))
   cases hkind:(Rw E ops i).kind with
   | quiet=> exact absurd hkind hhd
   | hard=>
    have hallon:∀ z∈dn,on listed z:=by
     intro z hz
     have hp:=p3 z hz i (by simp)
     have hbit:Ys2 (Rw E ops i).mask (Rw E ops z).i=true:=by
      unfold Yj2 at hp
      cases hk1:(Rw E ops z).kind <;> simp only [hk1,hkind,Ylu] at hp <;> exact hp.2
     have hz':(Rw E ops z).i=z:=by unfold Rw; split <;> rfl
     rw [hz'] at hbit
     exact Y28 h4 ho hdeps hbit
    have hst:s=t:=by
     have:s.slots=t.slots:=by funext k; exact hs k fun z hz hzo=> (Yi2 (hallon z hz) hzo).elim
     cases s; cases t; simp only [St.mk.injEq] at*; exact ⟨this,hbox,hrow⟩
    subst hst
    refine YGq (n:=n) hE hC ho hlo hhi h2 h3 hR (hR.glob hX hz hg0) hk fun a' w' fz' m' t' g1 g2 g3 g4=> IH a' w' ?_ hfuel
    refine Mid.make hl hsz (g1 h2) (g2.trans h3) hcl' hlr g4 rfl rfl (fun _ _=> rfl) g3 hon2 hq2 fun j hj hjo=> ?_
    obtain ⟨j1,j2⟩:=hoff' j hjo
    rcases YAu.1 hj with hj | hj
    ·exact (Yi2 (hallon j hj) j2).elim
    ·exact absurd (by simpa using hj) j1
   | soft=>
    have hso:Yt1 E o.op=true\/Yk1 E o.op=true:=by
     rw [hRw] at hkind
     exact Yar hkind
    refine Y8i (n:=n) hE hC ho hlo hhi h2 hkeep h3 (.inl hso) hrow hbox (looksOK (by rw [hkind]; simp)) hR (hR.glob hX hz hg0) hk fun a' w' fz' m' s' t' g1 g2 g3 g4 g5 g6 g7 g8 g9=> IH a' w' ?_ hfuel
    refine Mid.make hl hsz (g1 h2) (g2.trans h3) hcl' hlr g9 g4.symm g5.symm (fun k hk'=> ?_) g3 hon2 hq2 fun j hj hjo=> ?_
    ·cases hd:o.dst with
     | none=>
      obtain ⟨k1,k2⟩:=g7 k (by rw [hd]; simp)
      rw [k1,k2]
      refine hs k fun z hz hzo=> hk' z (by simp [hz]) ?_
      have:z≠i:=fun e=> n3 z hz z (by rw [e]; simp) rfl
      unfold off; rw [hset,Yju this]; exact hzo
     | some d=>
      by_cases hkd:d=k
      ·exact (g8 k (by rw [hd,hkd])).symm
      ·obtain ⟨k1,k2⟩:=g7 k (by rw [hd]; simpa using hkd)
       rw [k1,k2]
       refine hs k fun z hz hzo=> hk' z (by simp [hz]) ?_
       have:z≠i:=fun e=> n3 z hz z (by rw [e]; simp) rfl
       unfold off; rw [hset,Yju this]; exact hzo
    ·obtain ⟨j1,j2⟩:=hoff' j hjo
     rcases YAu.1 hj with hj | hj
     ·obtain ⟨oj,vj,q1,q2,q3⟩:=hv j hj j2
      have hkj:=quietOff j hj j2
      obtain ⟨r1,r2⟩:=Ytb q1 hkj (by rw [hkind]; simp) (fun h=> by rw [hkind] at h; cases h) (p3 j hj i (by simp))
      rw [hRw] at r1 r2
      have hml:MemLe t t':=by
       refine ⟨fun r u oo xs hh=> ?_,fun b T oo c hh=> ?_,fun b lt nn hh=> ?_⟩
       ·obtain ⟨o',e1,e2⟩:=(g6 hso).rows r u oo xs (by rw [hrow]; exact hh); exact ⟨o',by rw [g4]; exact e1,e2⟩
       ·obtain ⟨o',e1,e2⟩:=(g6 hso).boxes b T oo c (by rw [hbox]; exact hh); exact ⟨o',by rw [g5]; exact e1,e2⟩
       ·rw [g5]; exact (g6 hso).iters b lt nn (by rw [hbox]; exact hh)
      refine ⟨oj,vj,q1,q2.frame (fun k hk=> (g7 k (r2 k hk)).1) (.inr hml),fun d hd=> ?_⟩
      rw [(g7 d (r1 d hd)).1]
      exact q3 d hd
     ·exact absurd (by simpa using hj) j1
   | firm=>
    have hso:Yz1 o.op=true:=by
     rw [hRw] at hkind
     exact Y8r hkind
    refine Y8i (n:=n) hE hC ho hlo hhi h2 hkeep h3 (.inr hso) hrow hbox (looksOK (by rw [hkind]; simp)) hR (hR.glob hX hz hg0) hk fun a' w' fz' m' s' t' g1 g2 g3 g4 g5 g6 g7 g8 g9=> IH a' w' ?_ hfuel
    refine Mid.make hl hsz (g1 h2) (g2.trans h3) hcl' hlr g9 g4.symm g5.symm (fun k hk'=> ?_) g3 hon2 hq2 fun j hj hjo=> ?_
    ·cases hd:o.dst with
     | none=>
      obtain ⟨k1,k2⟩:=g7 k (by rw [hd]; simp)
      rw [k1,k2]
      refine hs k fun z hz hzo=> hk' z (by simp [hz]) ?_
      have:z≠i:=fun e=> n3 z hz z (by rw [e]; simp) rfl
      unfold off; rw [hset,Yju this]; exact hzo
     | some d=>
      by_cases hkd:d=k
      ·exact (g8 k (by rw [hd,hkd])).symm
      ·obtain ⟨k1,k2⟩:=g7 k (by rw [hd]; simpa using hkd)
       rw [k1,k2]
       refine hs k fun z hz hzo=> hk' z (by simp [hz]) ?_
       have:z≠i:=fun e=> n3 z hz z (by rw [e]; simp) rfl
       unfold off; rw [hset,Yju this]; exact hzo
    ·obtain ⟨j1,j2⟩:=hoff' j hjo
     rcases YAu.1 hj with hj | hj
     ·obtain ⟨oj,vj,q1,q2,q3⟩:=hv j hj j2
      have hkj:=quietOff j hj j2
      have hstill:(Rw E ops j).still=true:=by
       cases hst:(Rw E ops j).still with
       | true=> rfl
       | false=>
        exfalso
        have hp:=p3 j hj i (by simp)
        unfold Yj2 at hp
        simp only [hkj,hkind,hst,Yhu,Ylu] at hp
        have hz':(Rw E ops j).i=j:=by unfold Rw; split <;> rfl
        have hbit:=hp.2
        rw [hz'] at hbit
        exact Yi2 (Y28 h4 ho hdeps hbit) j2
      obtain ⟨r1,r2⟩:=Ytb q1 hkj (by rw [hkind]; simp) (fun _=> hstill) (p3 j hj i (by simp))
      rw [hRw] at r1 r2
      have hst2:Yn2 oj.op=true:=by have:=hstill; rw [Y24 q1] at this; exact this
      refine ⟨oj,vj,q1,q2.frame (fun k hk=> (g7 k (r2 k hk)).1) (.inl hst2),fun d hd=> ?_⟩
      rw [(g7 d (r1 d hd)).1]
      exact q3 d hd
     ·exact absurd (by simpa using hj) j1
theorem YHs (hE:EnvOK E) (hC:∀ f x y,call f x=some y->YS E f x y) (hX:∀ b∈X0.X,¬X0.fz b) (hz:∀ b,X0.fz b->b < w0.heap.size) (hg0:Glob E w0 X0.fz) (hn:YV5 ops n) (hl:OrdOk E ops l)
  {s:St} {a:Act} {w:World} {fz:Nat->Prop} {m:Maps} {id:Nat} (h2:n.ok a) (h3:a.defers=n.defs) (h:Rel w0 X0 fz m [] s a w) (hk:opsC E call ops (Yf3 ops l) s κ=some y):
  (Code.region id ops true).wp E.P (Yc1 w0 X0 n κ y) a w:=by
 refine wp_region_any hE.mixed (YRf (l:=l) hE hC hX hz hg0 hn hl _ _ _ _ ?_ ?_)
 ·have hoff:∀ j,¬on (Array.replicate ops.size false) j:=fun j hj=> by
   unfold on at hj
   rw [Array.getD_eq_getD_getElem?,Array.getElem?_replicate] at hj
   split at hj <;> cases hj
  exact Mid.make (dn:=[]) hl (by simp) h2 h3 (fun j hj=> (hoff j hj).elim) rfl hk rfl rfl (fun _ _=> rfl) (h.drawn (w.drawn+1)) (fun j hj=> (hoff j hj).elim) (fun j hj=> (by cases hj)) (fun j hj=> (by cases hj))
 ·have hlen:l.length<=ops.size:=by
   have:l.length<=(List.range ops.size).length:=List.Nodup.length_le_of_subset hl.nodup fun i hi=> List.mem_range.2 (hl.lt i hi)
   simpa using this
  exact Nat.le_trans (List.length_filter_le _ _) hlen
end
end Go.Abs
