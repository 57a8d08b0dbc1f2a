/- Part K5 of the proof: see the last text of the claim. No condition of its own. -/
import Derived.Test.YtddagflhafkbnaaGreatDoorK4
import Derived.Orders
set_option linter.all false
set_option autoImplicit false
namespace Go.Abs
section
variable {w0:World} {X0:Ent} {a:Act} {w:World} {fz:Nat->Prop} {m:Maps} {s s':St} {E:Env} {o:Oper} {R:Type}
structure Fr where
 size:Nat
 vs:List Value
 keep:Nat->Bool
 defs:List Deferred:=[]
def Fr.ok (n:Fr) (a:Act):Prop:=a.tmps.size=n.size/\∀ k,n.keep k=true->a.tmps.getD k undef=n.vs.getD k undef
def YE6 (w0:World) (X0:Ent) (n:Fr) (a:Act) (κ:St->Option R) (r:R) (a':Act) (w':World):Prop:=
 (n.ok a->n.ok a')/\a'.defers=a.defers/\∃ fz' m' s',Rel w0 X0 fz' m' [] s' a' w'/\κ s'=some r
theorem Yrb (a:Act) (d:Option Tmp) (v:Value):(a.put d v).tmps.size=a.tmps.size/\(a.put d v).defers=a.defers:=by
 cases d with
 | none=> exact ⟨rfl,rfl⟩
 | some d=> exact ⟨by simp [Act.put],rfl⟩
theorem Yl5 {n:Fr} (a:Act) (d:Option Tmp) (v:Value) (hd:∀ k,d=some k->n.keep k=false):(n.ok a->n.ok (a.put d v))/\(a.put d v).defers=a.defers:=by
 refine ⟨fun h=> ⟨(Yrb a d v).1.trans h.1,fun k hk=> ?_⟩,(Yrb a d v).2⟩
 rw [<-h.2 k hk]
 cases d with
 | none=> rfl
 | some d=>
  have:=hd d rfl
  have hne:d≠k:=fun e=> by rw [e,hk] at this; cases this
  simp only [Act.put,Array.getD_eq_getD_getElem?]
  rw [Array.getElem?_setIfInBounds_ne hne]
theorem StepOK.wp {n:Fr} {κ:St->Option R} {r:R} {Q:Exit->Act->World->Prop} (hn:∀ k,o.dst=some k->n.keep k=false) (h:StepOK E w0 X0 a w o s') (hk:κ s'=some r):o.wp E.P a w (YE6 w0 X0 n a κ r) Q:=by
 obtain ⟨n,v,w',fz',m',h1,h2,h3⟩:=h
 unfold Oper.wp
 rw [h1]
 obtain ⟨g1,g2⟩:=Yl5 a o.dst v hn
 rcases h2 with rfl | ⟨rfl,rfl⟩
 ·exact ⟨g1,g2,fz',m',s',h3,hk⟩
 ·exact ⟨g1,g2,fz',m',s',h3,hk⟩
theorem YWb:∀ {n:Nat} {p:PV} {vs:List Value} {l:List PV},RepP w fz m s p vs->vs.length=n->Yl3 n p=some l->RepSs w fz m s l vs
 | 0,p,vs,l,_,hl,hu=> by
  cases hu
  exact YRu hl
 | 1,p,vs,l,h,hl,hu=> by
  simp only [Yl3] at hu
  cases hc:(Nat.beq p.size 1&&!p.isAgg) with
  | false=> rw [hc] at hu; cases hu
  | true=>
   rw [hc] at hu
   cases hu
   simp only [Ylu,YXu] at hc
   obtain ⟨v,rfl⟩:=List.length_eq_one_iff.1 hl
   exact ⟨v,[],rfl,h.toS (by rw [hc.2]; rfl),rfl⟩
 | n+2,p,vs,l,h,hl,hu=> by
  simp only [Yl3] at hu
  split at hu
  ·rename_i l' hl'
   cases hc:(Nat.beq p.fst.size 1&&!p.fst.isAgg) with
   | false=> rw [hc] at hu; cases hu
   | true=>
    rw [hc] at hu
    cases hu
    simp only [Ylu,YXu] at hc
    have hsz:=YOu hc.1
    rcases h.parts with ⟨e,_⟩ | ⟨c1,c2,rfl,h1,h2⟩
    ·rw [e] at hsz; cases hsz
    ·obtain ⟨v,rfl⟩:=List.length_eq_one_iff.1 (h1.size.trans hsz)
     exact ⟨v,c2,rfl,h1.toS (by rw [hc.2]; rfl),YWb h2 (by simpa using hl) hl'⟩
  ·cases hu
theorem Y7i {n:Fr} (hn:∀ k,o.dst=some k->n.keep k=false) (hE:EnvOK E) (h:Rel w0 X0 fz m [] s a w) (hg:Glob E w fz) (hd:∀ k,o.dst=some k->k < a.tmps.size) {κ:St->Option R} {r:R} {Q:Exit->Act->World->Prop} (hk:YZ1 E s o κ=some r):o.wp E.P a w (YE6 w0 X0 n a κ r) Q:=by
 unfold YZ1 at hk
 split at hk
 ·rename_i c s1 hs
  split at hk
  ·exact (Ybi hE h hg hd hs).wp hn hk
  ·cases hk
 ·cases hk
theorem YNh {P : Program} {f : FuncId} {fn : Func} {args : Array Value} (hf : P.funcs[f]? = some fn) (hb : fn.body.isNone = false) (hn : (fn.name == "runtime.NumGoroutine") = false) : (callFunc f args).run P w = .ok (.enter f args) w := by
 simp only [callFunc,Sem.run_bind,run_program,Result.andThen_ok,hf,hn,hb,YSu,if_false,Sem.run_pure]
theorem RepSs.append {ps qs:List PV} {vs us:List Value} (h:RepSs w fz m s ps vs) (g:RepSs w fz m s qs us):RepSs w fz m s (ps++qs) (vs++us):=by
 induction ps generalizing vs with
 | nil=> have:vs=[]:=h; subst this; exact g
 | cons p ps ih=> obtain ⟨v,us',rfl,h1,h2⟩:=h; exact ⟨v,us'++us,rfl,h1,ih h2⟩
theorem StLe.setIter {s:St} {b:Nat} {l:List UInt8} {n:Nat} (hb:s.boxes b=.iter l n) (n':Nat):StLe s (s.setBox b (.iter l n')):=by
 refine ⟨fun r t o xs h=> ⟨o,xs,h,rfl⟩,fun k T o c h=> ⟨o,c,?_⟩,fun k l' j h=> ?_⟩
 ·rw [YY]
  by_cases e:k=b
  ·subst e; rw [hb] at h; cases h
  ·rw [Yju e]; exact h
 ·rw [YY]
  by_cases e:k=b
  ·subst e; rw [hb] at h; cases h; exact ⟨n',Yku rfl⟩
  ·rw [Yju e]; exact ⟨j,h⟩
theorem Rel.writeIter (h:Rel w0 X0 fz m [] s a w) {b:Nat} {l:List UInt8} {n:Nat} (hb:s.boxes b=.iter l n) (n':Nat):
  Rel w0 X0 fz m [] (s.setBox b (.iter l n')) a (World.setBlock w (m.γ b) (.stringIter ⟨l.toArray⟩ n')):=by
 obtain ⟨hw,hω⟩:=h.iters b l n hb
 have hown:=h.own _ _ hω
 have hs:=StLe.setIter hb n'
 have hm:MapsLe s m m:=MapsLe.refl _ _
 have hf:∀ k,fz k->(World.setBlock w (m.γ b) (.stringIter ⟨l.toArray⟩ n')).heap[k]? =w.heap[k]? :=fun k hk=> Ys5 (fun e=> by subst e; exact hown.2.1 hk)
 have ho:∀ k q,m.ω k=some q->q≠.box b->(World.setBlock w (m.γ b) (.stringIter ⟨l.toArray⟩ n')).heap[k]? =w.heap[k]? :=fun k q hk hq=> Ys5 (fun e=> hq (by subst e; rw [hω] at hk; cases hk; rfl))
 have hsz:(World.setBlock w (m.γ b) (.stringIter ⟨l.toArray⟩ n')).heap.size=w.heap.size:=by simp [World.setBlock]
 refine ⟨fun t=> RepS.le hs hm hf (fun _ h=> h) (h.slots t),fun r t xs hr=> ?_,fun r t xs hr=> ?_,fun k T o c hk ho'=> ?_,fun k l' j hk=> ?_,h.hand,fun k q hk=> ?_,fun k hk=> ?_,?_,h.fz0s⟩
 ·obtain ⟨h1,h2,h3⟩:=h.rows r t xs hr
  exact ⟨Rep.frame hf (fun _ h=> h) _ (fun k hk=> ho k _ (h3 k hk) (by simp)) h1,h2,h3⟩
 ·exact ⟨(h.rowsF r t xs hr).1,Rep.frame hf (fun _ h=> h) _ (fun k hk=> by cases hk) (h.rowsF r t xs hr).2⟩
 ·rw [YY] at hk
  by_cases e:k=b
  ·subst e; rw [Yku rfl] at hk; cases hk
  ·rw [Yju e] at hk
   obtain ⟨cs,el,fr,h1,h2,h3,h4,h5,h6⟩:=h.boxes k T o c hk ho'
   refine ⟨cs,el,fr,?_,RepP.le hs hm hf (fun _ h=> h) h2,h3,h4,h5,h6⟩
   cases o with
   | live=> rw [ho _ _ (h5 rfl) (by simpa using e)]; exact h1
   | frz=> rw [hf _ (h6 rfl)]; exact h1
   | dead=> exact absurd rfl ho'
 ·rw [YY] at hk
  by_cases e:k=b
  ·subst e
   rw [Yku rfl] at hk
   cases hk
   exact ⟨by rw [YB4,Yku rfl,Yku (Y73 hw)],hω⟩
  ·rw [Yju e] at hk
   obtain ⟨h1,h2⟩:=h.iters k l' j hk
   exact ⟨by rw [ho _ _ h2 (by simpa using e)]; exact h1,h2⟩
 ·obtain ⟨h1,h2,h3⟩:=h.own k q hk
  exact ⟨by rw [hsz]; exact h1,h2,h3⟩
 ·exact ⟨by rw [hsz]; exact (h.fzs k hk).1,(h.fzs k hk).2⟩
 ·exact h.keep.trans (Yx8 w (m.γ b) _ [m.γ b] (by simp)) (fun k hk=> by
   have:k=m.γ b:=by simpa using hk
   subst this
   exact hown.2.2)
theorem Y0t {P:Program} {k:Nat} {l:List UInt8} {n:Nat} {ty:TypeId} (hw:w.heap[k]? =some (.stringIter ⟨l.toArray⟩ n)):
  (Instr.next (.pointer (some ⟨k,0,none⟩)) true ty).run P w=if n < l.length then
   .ok (.tuple #[.bool true,.int .i64 (n:Int),.int .i32 ((Yx l n).1:Int)]) (World.setBlock w k (.stringIter ⟨l.toArray⟩ (n+(Yx l n).2))) else .ok (.tuple #[.bool false]) w:=by
 have hlt:=Y73 hw
 have hsz:(⟨l.toArray⟩:ByteArray).size=l.length:=YL2 l
 have hget:(getObj k).run P w=.ok (.stringIter ⟨l.toArray⟩ n) w:=by simp only [getObj,Sem.run,hw]
 have hset:∀ o,(setObj k o).run P w=.ok () (World.setBlock w k o):=fun o=> by
  simp only [setObj,Sem.run,hw]
  rfl
 by_cases hn:n < l.length
 ·rw [Yku hn]
  simp only [Instr.next,Sem.run_bind,hget,Result.andThen_ok,hsz,Yku hn,hset,Sem.run_pure]
  rfl
 ·rw [Yju hn]
  simp only [Instr.next,Sem.run_bind,hget,Result.andThen_ok,hsz,Yju hn,Sem.run_pure]
theorem Y78 {nn:Fr} (hnn:∀ k,o.dst=some k->nn.keep k=false) (hE:EnvOK E) {call:CallT E} (hC:∀ f x y,call f x=some y->YS E f x y) (h:Rel w0 X0 fz m [] s a w) (hg:Glob E w fz) (hd:∀ k,o.dst=some k->k < a.tmps.size) {π:Ex->St->Option R} {κ:St->Option R} {r:R} {Q:Exit->Act->World->Prop}
  (hQ:∀ chain w' i t x s',YQ8 w0 X0 i t x chain s' a w'->π (.pan i t x) s'=some r->Q (.panic chain) a w') (hk:opC E call s o π κ=some r):o.wp E.P a w (YE6 w0 X0 nn a κ r) Q:=by
 obtain ⟨ps1,ps2⟩:=Yrb a o.dst undef
 unfold opC at hk
 split at hk
 ·rename_i c hop
  split at hk
  ·rename_i x hcal
   split at hk
   ·rename_i f n caps hx
    split at hk
    ·rename_i l hl hgo
     obtain ⟨⟨fn,hf,hb,hn⟩,hcode⟩:=hE.goes f (by rw [Ylu] at hgo; exact hgo.1)
     have hxv:=h.opd hg x
     rw [hx] at hxv
     obtain ⟨cs,⟨vs,rfl,hvl,hcaps⟩,hxe⟩:=hxv
     have hxe:a.eval x=.func (.func f) #[] vs.toArray:=hxe
     have hargs:=RepSs.append (YSa h hg c.args.toList) (YWb hcaps hvl hl)
     have hrun:(execOp a.eval o).run E.P w=.ok (.enter f (c.args.map a.eval++vs.toArray)) w:=by
      simp only [execOp,hop,resolve,hcal,hxe,Deferred.ofValue,pure_bind,invoke,Array.empty_append]
      exact YNh hf hb hn
     have harr:c.args.map a.eval++vs.toArray=(c.args.toList.map a.eval++vs).toArray:=by
      apply Array.ext'; simp
     have hcalls:=YEp hC h hg hd hargs hk
     rw [hcode] at hcalls
     unfold Oper.wp
     rw [hrun,harr]
     refine hcalls.mono ?_
     rintro e w' (⟨v,rfl,fz',m',s',g1,g2⟩ | ⟨chain,rfl,i,t,z,s',g1,g2⟩)
     ·obtain ⟨q1,q2⟩:=Yl5 a o.dst v hnn
      exact ⟨q1,q2,fz',m',s',g1,g2⟩
     ·exact hQ chain w' i t z s' g1 g2
    ·cases hk
   ·cases hk
  ·exact Y7i hnn hE h hg hd hk
 ·rename_i x hop
  split at hk
  ·rename_i b hx
   split at hk
   ·rename_i l n hb
    have hxv:=h.opd hg x
    rw [hx] at hxv
    obtain ⟨hw,hω⟩:=h.iters b l n hb
    have hxe:a.eval x=.pointer (some ⟨m.γ b,0,none⟩):=by
     obtain ⟨cs,hc,hv⟩:=hxv
     rcases hc with ⟨T,o',c,hb',_,_⟩ | ⟨l',n',_,_,rfl⟩
     ·rw [hb] at hb'; cases hb'
     ·exact hv
    have hrun:=Y0t (P:=E.P) (ty:=o.type) hw
    split at hk
    ·rename_i hn
     have hn:n < l.length:=by simpa using hn
     rw [Yku hn] at hrun
     refine StepOK.wp hnn (s':=(s.setBox b (.iter l (n+(Yx l n).2))).putO o.dst (.tcons (.val .bool true) (.tcons (.val (.int .i64) (n:Int)) (.tcons (.val (.int .i32) ((Yx l n).1:Int)) .tnil)))) ⟨.value _,.tuple #[.bool true,.int .i64 (n:Int),.int .i32 ((Yx l n).1:Int)],_,fz,m,?_,.inl rfl,(h.writeIter hb _).putO hd ?_⟩ hk
     ·simp only [execOp,hop,hxe,Sem.run_bind,hrun,Result.andThen_ok,Sem.run_pure]
     ·exact ⟨_,rfl,[_],_,rfl,⟨rfl,rfl,rfl⟩,[_],_,rfl,⟨rfl,rfl,rfl⟩,[_],_,rfl,⟨rfl,rfl,rfl⟩,rfl⟩
    ·rename_i hn
     have hn:¬n < l.length:=by simpa using hn
     rw [Yju hn] at hrun
     refine StepOK.wp hnn (s':=s.putO o.dst (.tcons (.val .bool false) .tnil)) ⟨.value _,.tuple #[.bool false],w,fz,m,?_,.inl rfl,h.putO hd ?_⟩ hk
     ·simp only [execOp,hop,hxe,Sem.run_bind,hrun,Result.andThen_ok,Sem.run_pure]
     ·exact ⟨_,rfl,[_],_,rfl,⟨rfl,rfl,rfl⟩,rfl⟩
   ·cases hk
  ·cases hk
 ·rename_i x hop
  split at hk
  ·rename_i i p hx
   split at hk
   ·rename_i t ht
    split at hk
    ·rename_i z hz
     have:=Yv3 hz
     subst this
     have hxv:=h.opd hg x
     rw [hx] at hxv
     obtain ⟨cs,⟨vs,rfl,hp,hr⟩,hxe⟩:=hxv
     have hxe:a.eval x=.iface i (mkV t.isAgg vs):=hxe
     have hrun:(execOp a.eval o).run E.P w=.halt (.panic (.iface i (mkV t.isAgg vs))) w:=by
      simp only [execOp,hop,hxe,Instr.panic]
      rfl
     unfold Oper.wp
     rw [hrun]
     exact hQ _ w i t z s ⟨fz,m,vs,rfl,hp,hr,h⟩ hk
    ·cases hk
   ·cases hk
  ·cases hk
 ·exact Y7i hnn hE h hg hd hk
end
end Go.Abs
namespace Go.Abs
structure MemLe (s s2:St):Prop where
 rows:∀ r t o xs,s.rows r=.mk t o xs->∃ o',s2.rows r=.mk t o' xs/\(o≠.dead->o'≠.dead)
 boxes:∀ b T o c,s.boxes b=.cells T o c->∃ o',s2.boxes b=.cells T o' c/\(o≠.dead->o'≠.dead)
 iters:∀ b l n,s.boxes b=.iter l n->s2.boxes b=.iter l n
theorem MemLe.refl (s:St):MemLe s s:=⟨fun _ _ o _ h=> ⟨o,h,id⟩,fun _ _ o _ h=> ⟨o,h,id⟩,fun _ _ _ h=> h⟩
theorem MemLe.of_eq {s s2:St} (h1:s2.rows=s.rows) (h2:s2.boxes=s.boxes):MemLe s s2:=
 ⟨fun _ _ o _ h=> ⟨o,by rw [h1]; exact h,id⟩,fun _ _ o _ h=> ⟨o,by rw [h2]; exact h,id⟩,fun _ _ _ h=> by rw [h2]; exact h⟩
theorem MemLe.trans {a b c:St} (h:MemLe a b) (g:MemLe b c):MemLe a c:=
 ⟨fun r t o xs e=> by obtain ⟨o1,e1,k1⟩:=h.rows _ _ _ _ e; obtain ⟨o2,e2,k2⟩:=g.rows _ _ _ _ e1; exact ⟨o2,e2,fun k=> k2 (k1 k)⟩,
  fun r t o xs e=> by obtain ⟨o1,e1,k1⟩:=h.boxes _ _ _ _ e; obtain ⟨o2,e2,k2⟩:=g.boxes _ _ _ _ e1; exact ⟨o2,e2,fun k=> k2 (k1 k)⟩,
  fun r l n e=> g.iters _ _ _ (h.iters _ _ _ e)⟩
section
variable {s s2:St}
theorem MemLe.alive (h:MemLe s s2) {r:Nat} {t:Ty} {o:Own} {xs:List t.den} (e:s.rows r=.mk t o xs) (ho:o≠.dead):s2.rows r=.mk t .live xs\/s2.rows r=.mk t .frz xs:=by
 obtain ⟨o',e',k⟩:=h.rows _ _ _ _ e
 cases o' with
 | live=> exact .inl e'
 | frz=> exact .inr e'
 | dead=> exact absurd rfl (k ho)
theorem MemLe.aliveB (h:MemLe s s2) {b:Nat} {T:Ty} {o:Own} {c:PV} (e:s.boxes b=.cells T o c) (ho:o≠.dead):s2.boxes b=.cells T .live c\/s2.boxes b=.cells T .frz c:=by
 obtain ⟨o',e',k⟩:=h.boxes _ _ _ _ e
 cases o' with
 | live=> exact .inl e'
 | frz=> exact .inr e'
 | dead=> exact absurd rfl (k ho)
theorem YQa (h:MemLe s s2) {p v:PV} (e:s.load p=some v):s2.load p=some v:=by
 cases p with
 | addr b path=>
  cases b with
  | box b=>
   simp only [St.load] at e ⊢
   cases hb:s.boxes b with
   | none=> rw [hb] at e; cases e
   | iter l n=> rw [hb] at e; cases e
   | cells T o c=>
    rw [hb] at e
    cases o with
    | dead=> cases e
    | live=> rcases h.aliveB hb (by simp) with h2 | h2 <;> rw [h2] <;> exact e
    | frz=> rcases h.aliveB hb (by simp) with h2 | h2 <;> rw [h2] <;> exact e
  | row r i=>
   simp only [St.load] at e ⊢
   cases hb:s.rows r with
   | none=> rw [hb] at e; cases e
   | mk t o xs=>
    rw [hb] at e
    cases o with
    | dead=> cases e
    | live=> rcases h.alive hb (by simp) with h2 | h2 <;> rw [h2] <;> exact e
    | frz=> rcases h.alive hb (by simp) with h2 | h2 <;> rw [h2] <;> exact e
  | fbox t x=> exact e
 | _=> simp [St.load] at e
theorem Ylr (h:MemLe s s2) {u:Ty} {p:PV} {n:Nat} (e:s.len u p=some n):s2.len u p=some n:=by
 cases u with
 | str=> exact e
 | arr n a=> exact e
 | sl o a=>
  cases p with
  | row r=>
   simp only [St.len] at e ⊢
   cases hb:s.rows r with
   | none=> rw [hb] at e; cases e
   | mk t o xs=>
    rw [hb] at e
    cases o with
    | dead=> cases e
    | live=> rcases h.alive hb (by simp) with h2 | h2 <;> rw [h2] <;> exact e
    | frz=> rcases h.alive hb (by simp) with h2 | h2 <;> rw [h2] <;> exact e
  | val t x=> cases t <;> first | exact e | simp [St.len] at e
  | _=> first | exact e | simp [St.len] at e
 | _=> simp [St.len] at e
theorem YXt (h:MemLe s s2) {b:Base} {path:List Step} {T:Ty} (e:s.tyAt b path=some T):s2.tyAt b path=some T:=by
 cases b with
 | box b=>
  simp only [St.tyAt] at e ⊢
  cases hb:s.boxes b with
  | none=> rw [hb] at e; cases e
  | iter l n=> rw [hb] at e; cases e
  | cells T o c=> rw [hb] at e; obtain ⟨o',h2,_⟩:=h.boxes _ _ _ _ hb; rw [h2]; exact e
 | row r i=>
  simp only [St.tyAt] at e ⊢
  cases hb:s.rows r with
  | none=> rw [hb] at e; cases e
  | mk t o xs=> rw [hb] at e; obtain ⟨o',h2,_⟩:=h.rows _ _ _ _ hb; rw [h2]; exact e
 | fbox t x=> exact e
theorem YTq (h:MemLe s s2) {u:Ty} {p:PV} {n:Int} {q:Bool×PV} (e:Yh2 s u p n=some q):Yh2 s2 u p n=some q:=by
 cases u with
 | sl o a=>
  cases p with
  | val t x=> cases t <;> exact e
  | row r=>
   simp only [Yh2] at e ⊢
   cases hb:s.rows r with
   | none=> rw [hb] at e; cases e
   | mk t o xs=>
    rw [hb] at e
    cases o with
    | dead=> cases e
    | live=> rcases h.alive hb (by simp) with h2 | h2 <;> rw [h2] <;> exact e
    | frz=> rcases h.alive hb (by simp) with h2 | h2 <;> rw [h2] <;> exact e
  | part r lo hi=>
   simp only [Yh2] at e ⊢
   cases hb:s.rows r with
   | none=> rw [hb] at e; cases e
   | mk t o xs=>
    rw [hb] at e
    cases o with
    | dead=> cases e
    | live=> rcases h.alive hb (by simp) with h2 | h2 <;> rw [h2] <;> exact e
    | frz=> rcases h.alive hb (by simp) with h2 | h2 <;> rw [h2] <;> exact e
  | _=> simp [Yh2] at e
 | arr m a=>
  cases p with
  | addr b path=>
   simp only [Yh2] at e ⊢
   cases hl:s.load (.addr b path) with
   | none=> rw [hl] at e; cases e
   | some v=> rw [YQa h hl]; rw [hl] at e; exact e
  | _=> simp [Yh2] at e
 | _=> simp [Yh2] at e
theorem Ytt (h:MemLe s s2) {u:Ty} {p:PV} {lo hi:Option Int} {q:Bool×PV} (e:Y82 s u p lo hi=some q):Y82 s2 u p lo hi=some q:=by
 cases u with
 | str=> exact e
 | sl o a=>
  cases p with
  | val t x=> cases t <;> exact e
  | row r=>
   simp only [Y82] at e ⊢
   cases hb:s.rows r with
   | none=> rw [hb] at e; cases e
   | mk t o xs=>
    rw [hb] at e
    cases o with
    | dead=> cases e
    | live=> rcases h.alive hb (by simp) with h2 | h2 <;> rw [h2] <;> exact e
    | frz=> rcases h.alive hb (by simp) with h2 | h2 <;> rw [h2] <;> exact e
  | part r a b=>
   simp only [Y82] at e ⊢
   cases hb:s.rows r with
   | none=> rw [hb] at e; cases e
   | mk t o xs=>
    rw [hb] at e
    cases o with
    | dead=> cases e
    | live=> rcases h.alive hb (by simp) with h2 | h2 <;> rw [h2] <;> exact e
    | frz=> rcases h.alive hb (by simp) with h2 | h2 <;> rw [h2] <;> exact e
  | _=> simp [Y82] at e
 | arr n a=>
  cases p with
  | addr b path=>
   cases b with
   | box b=>
    simp only [Y82] at e ⊢
    cases hl:s.load (.addr (.box b) path) with
    | none=> rw [hl] at e; cases e
    | some v=> rw [YQa h hl]; rw [hl] at e; exact e
   | _=> simp [Y82] at e
  | _=> simp [Y82] at e
 | _=> simp [Y82] at e
theorem YBh {E:Env} {o:Oper} (hq:YD2 E o.op=true) {s':St} (h:Yw E s o=some (true,s')):∃ v,s'=s.putO o.dst v/\∀ s2,(∀ x∈o.op.operands.toList,s2.opd E x=s.opd E x)->(Yn2 o.op=true\/MemLe s s2)->Yw E s2 o=some (true,s2.putO o.dst v):=by
 unfold Yw at h
 cases hop:o.op with
 | move x=>
  simp only [hop,ok1] at h
  cases h
  exact ⟨_,rfl,fun s2 hx hm=> by simp only [Yw,hop,ok1]; rw [hx x (by simp [Op.operands])]⟩
 | assign x=>
  simp only [hop,ok1] at h
  cases h
  exact ⟨_,rfl,fun s2 hx hm=> by simp only [Yw,hop,ok1]; rw [hx x (by simp [Op.operands])]⟩
 | pick c a b=>
  simp only [hop,ok1] at h
  split at h
  ·rename_i t ht
   cases t <;> cases h
   ·exact ⟨_,rfl,fun s2 hx hm=> by simp only [Yw,hop,ok1]; rw [hx c (by simp [Op.operands]),hx b (by simp [Op.operands]),ht]⟩
   ·exact ⟨_,rfl,fun s2 hx hm=> by simp only [Yw,hop,ok1]; rw [hx c (by simp [Op.operands]),hx a (by simp [Op.operands]),ht]⟩
  ·cases h
 | unOp op t x=>
  simp only [hop,ok1] at h
  split at h
  ·rename_i v hv
   cases h
   exact ⟨_,rfl,fun s2 hx hm=> by simp only [Yw,hop,ok1]; rw [hx x (by simp [Op.operands]),hv]⟩
  ·cases h
 | binOp op t x y yt=>
  simp only [hop] at h
  cases hb:binPV op (E.ty t) (E.eqs t) (s.opd E x) (s.opd E y) with
  | none=> rw [hb] at h; cases h
  | some q=>
   obtain ⟨c,v⟩:=q
   rw [hb] at h
   cases h
   exact ⟨_,rfl,fun s2 hx hm=> by simp only [Yw,hop]; rw [hx x (by simp [Op.operands]),hx y (by simp [Op.operands]),hb]; rfl⟩
 | index t x i=>
  simp only [hop] at h
  split at h
  ·rename_i l n h1 h2 h3
   simp only [Ytu,YJu] at h
   obtain ⟨hb,rfl⟩:=h
   exact ⟨_,rfl,fun s2 hx hm=> by simp only [Yw,hop]; rw [hx x (by simp [Op.operands]),hx i (by simp [Op.operands])]; simp only [h1,h2,h3,hb]⟩
  ·rename_i k e m t' l n h1 h2 h3
   cases hc:(Nat.beq k m&&e.same t') with
   | false=> rw [hc] at h; cases h
   | true=>
    rw [hc] at h
    simp only [Ygu,Ytu,YJu] at h
    obtain ⟨hb,rfl⟩:=h
    exact ⟨_,rfl,fun s2 hx hm=> by simp only [Yw,hop]; rw [hx x (by simp [Op.operands]),hx i (by simp [Op.operands])]; simp only [h1,h2,h3,hc,Ygu,hb]⟩
  ·cases h
 | indexAddr t x i=>
  simp only [hop] at h
  split at h
  ·rename_i u n h1 h2
   cases hb:Yh2 s u (s.opd E x) n with
   | none=> rw [hb] at h; cases h
   | some q=>
    obtain ⟨c,v⟩:=q
    rw [hb] at h
    cases h
    exact ⟨_,rfl,fun s2 hx hm=> by simp only [Yw,hop]; rw [hx x (by simp [Op.operands]),hx i (by simp [Op.operands])]; simp only [h1,h2,YTq (hm.resolve_left (by simp [Yn2])) hb]; rfl⟩
  ·cases h
 | load t a=>
  simp only [hop,ok1] at h
  split at h
  ·rename_i v u h1 h2
   cases hf:fits u v with
   | false=> rw [hf] at h; cases h
   | true=>
    rw [hf] at h
    cases h
    exact ⟨_,rfl,fun s2 hx hm=> by simp only [Yw,hop,ok1]; rw [hx a (by simp [Op.operands])]; simp only [YQa (hm.resolve_left (by simp [Yn2])) h1,h2,hf,Ygu]⟩
  ·cases h
 | fieldAddr t x f=>
  simp only [hop,ok1] at h
  split at h
  ·rename_i b path A h1 h2
   split at h
   ·rename_i T hT
    cases hf:(Ty.same (.st A) T&&Nat.ble (f+1) (E.nf t)) with
    | false=> rw [hf] at h; cases h
    | true=>
     rw [hf] at h
     cases h
     exact ⟨_,rfl,fun s2 hx hm=> by simp only [Yw,hop,ok1]; rw [hx x (by simp [Op.operands])]; simp only [h1,h2,YXt (hm.resolve_left (by simp [Yn2])) hT,hf,Ygu]⟩
   ·cases h
  ·cases h
 | field t x f=>
  simp only [hop,ok1] at h
  split at h
  ·rename_i A h1
   cases hf:(fits (.st A) (s.opd E x)&&Nat.ble (f+1) (E.nf t)) with
   | false=> rw [hf] at h; cases h
   | true=>
    rw [hf] at h
    cases h
    exact ⟨_,rfl,fun s2 hx hm=> by simp only [Yw,hop,ok1]; rw [hx x (by simp [Op.operands])]; simp only [h1,hf,Ygu]⟩
  ·cases h
 | nilCheck x=>
  simp only [hop,ok1] at h
  split at h
  ·rename_i b path h1
   cases h
   exact ⟨_,rfl,fun s2 hx hm=> by simp only [Yw,hop,ok1]; rw [hx x (by simp [Op.operands])]; simp only [h1]⟩
  ·cases h
 | slice t x lo hi mx=>
  cases mx with
  | some m=> simp [hop,YD2] at hq
  | none=>
   simp only [hop] at h
   split at h
   ·rename_i u l r h1 h2 h3
    cases hb:Y82 s u (s.opd E x) l r with
    | none=> rw [hb] at h; cases h
    | some q=>
     obtain ⟨c,v⟩:=q
     rw [hb] at h
     cases h
     refine ⟨_,rfl,fun s2 hx hm=> ?_⟩
     have e2:YK3 E s2 lo=some l:=by
      cases lo with
      | none=> exact h2
      | some y=> simp only [YK3] at h2 ⊢; rw [hx y (by simp [Op.operands])]; exact h2
     have e3:YK3 E s2 hi=some r:=by
      cases hi with
      | none=> exact h3
      | some y=> simp only [YK3] at h3 ⊢; rw [hx y (by simp [Op.operands])]; exact h3
     simp only [Yw,hop]
     rw [hx x (by simp [Op.operands])]
     simp only [h1,e2,e3,Ytt (hm.resolve_left (by simp [Yn2])) hb]
     rfl
   ·cases h
 | build t parts=>
  simp only [hop,ok1] at h
  split at h
  ·rename_i u hu
   split at h
   ·rename_i v hv
    cases hf:fits u v with
    | false=> rw [hf] at h; cases h
    | true=>
     rw [hf] at h
     cases h
     refine ⟨_,rfl,fun s2 hx hm=> ?_⟩
     have hb:∀ (l:List (Nat×Operand)) (p:PV),(∀ y∈l,s2.opd E y.2=s.opd E y.2)->YZ2 E t u s2 l p=YZ2 E t u s l p:=by
      intro l
      induction l with
      | nil=> intro p _; rfl
      | cons y l ih=>
       intro p hy
       obtain ⟨f,x⟩:=y
       simp only [YZ2]
       rw [hy (f,x) (by simp)]
       cases hc:(Yb6 u (E.nf t) f&&fits (u.at (Yk2 u (E.nf t) f)) (s.opd E x)) with
       | false=> rfl
       | true=>
        simp only [Ygu]
        cases p.set (Yk2 u (E.nf t) f) (s.opd E x) with
        | none=> rfl
        | some q=> exact ih q (fun z hz=> hy z (by simp [hz]))
     simp only [Yw,hop,ok1,hu]
     rw [hb parts.toList (Y31 u) (fun z hz=> hx z.2 (by simp only [Op.operands]; simp only [List.mem_map]; exact ⟨z,hz,rfl⟩)),hv]
     simp only [hf,Ygu]
   ·cases h
  ·cases h
 | makeInterface t x=>
  simp only [hop,ok1] at h
  split at h
  ·rename_i u hu
   cases hf:fits u (s.opd E x) with
   | false=> rw [hf] at h; cases h
   | true=>
    rw [hf] at h
    cases h
    exact ⟨_,rfl,fun s2 hx hm=> by simp only [Yw,hop,ok1]; rw [hx x (by simp [Op.operands])]; simp only [hu,hf,Ygu]⟩
  ·cases h
 | makeFunc fn first caps=>
  simp only [hop,ok1] at h
  split at h
  ·rename_i f
   cases hf:(Nat.beq first.size 0&&YR4 (caps.toList.map (s.opd E))) with
   | false=> rw [hf] at h; cases h
   | true=>
    rw [hf] at h
    cases h
    refine ⟨_,rfl,fun s2 hx hm=> ?_⟩
    have hc:caps.toList.map (s2.opd E)=caps.toList.map (s.opd E):=List.map_congr_left fun x hxm=> hx x (by
     simp only [Op.operands,Array.toList_append,YAu]; exact .inr hxm)
    simp only [Yw,hop,ok1]
    rw [hc]
    simp only [hf,Ygu]
  ·cases h
 | convert src dst x=>
  simp only [hop,YD2,Y2h] at hq
  simp only [hop] at h
  split at hq
  ·rename_i j k hj hkk
   rw [hj,hkk] at h
   cases hd:o.dst with
   | none=> rw [hd] at h; cases h
   | some d=>
    rw [hd] at h
    simp only at h
    cases hp:s.opd E x with
    | val u z=>
     cases u with
     | int i=>
      rw [hp] at h
      simp only [YN2,okC,YB7] at h
      cases h
      exact ⟨.val (.int k) (k.wrap z),rfl,fun s2 hx hm=> by simp only [Yw,hop,hj,hkk,hd]; rw [hx x (by simp [Op.operands]),hp]; rfl⟩
     | str=> rw [hp] at h; simp [YN2,okC] at h
     | _=> rw [hp] at h; simp [YN2,okC] at h
    | _=> rw [hp] at h; simp [YN2,okC] at h
  ·cases hq
 | extract x i=>
  simp only [hop,ok1] at h
  cases hf:Yt4 (s.opd E x) i with
  | false=> rw [hf] at h; cases h
  | true=>
   rw [hf] at h
   cases h
   exact ⟨_,rfl,fun s2 hx hm=> by simp only [Yw,hop,ok1]; rw [hx x (by simp [Op.operands])]; simp only [hf,Ygu]⟩
 | call c=>
  simp only [hop] at h hq
  obtain ⟨cal,cargs,cty⟩:=c
  cases cal with
  | value f=> cases h
  | invoke r m=> cases h
  | builtin b=>
   cases b with
   | len=>
    simp only [YJ2] at h
    split at h
    ·rename_i x hb hargs
     split at h
     ·rename_i n hn
      simp only [ok1] at h
      cases h
      obtain ⟨u,hu,hl⟩:=YLu.1 hn
      refine ⟨_,rfl,fun s2 hx hm=> ?_⟩
      have hmem:x∈(Op.call { callee:=Callee.builtin Builtin.len,args:=cargs,argTypes:=cty }).operands.toList:=by
       simp only [Op.operands,Call.operands]
       simp [hargs]
      simp only [Yw,hop,YJ2,hargs,hu,Yiu,hx x hmem,Ylr (hm.resolve_left (by simp [Yn2])) hl,ok1]
     ·cases h
    all_goals first | (rename_i hb _; cases hb) | cases h
   | min=>
    simp only [YJ2] at h
    split at h
    case h_3 x y hb hargs=>
     split at h
     ·rename_i j a k b ha hb'
      split at h
      ·rename_i z hz
       simp only [ok1] at h
       cases h
       refine ⟨_,rfl,fun s2 hx hm=> ?_⟩
       have hmem:∀ q∈[x,y],q∈(Op.call { callee:=Callee.builtin Builtin.min,args:=cargs,argTypes:=cty }).operands.toList:=fun q hq=> by
        simp only [Op.operands,Call.operands]
        simpa [hargs] using hq
       simp only [Yw,hop,YJ2,hargs]
       rw [hx x (hmem x (by simp)),hx y (hmem y (by simp)),ha,hb']
       simp only [hz,ok1]
      ·cases h
     ·cases h
    all_goals first | (rename_i hb _; cases hb) | cases h
   | max=>
    simp only [YJ2] at h
    split at h
    case h_4 x y hb hargs=>
     split at h
     ·rename_i j a k b ha hb'
      split at h
      ·rename_i z hz
       simp only [ok1] at h
       cases h
       refine ⟨_,rfl,fun s2 hx hm=> ?_⟩
       have hmem:∀ q∈[x,y],q∈(Op.call { callee:=Callee.builtin Builtin.max,args:=cargs,argTypes:=cty }).operands.toList:=fun q hq=> by
        simp only [Op.operands,Call.operands]
        simpa [hargs] using hq
       simp only [Yw,hop,YJ2,hargs]
       rw [hx x (hmem x (by simp)),hx y (hmem y (by simp)),ha,hb']
       simp only [hz,ok1]
      ·cases h
     ·cases h
    all_goals first | (rename_i hb _; cases hb) | cases h
   | _=> simp [YD2] at hq
 | _=> simp [hop,YD2] at hq
end
end Go.Abs
namespace Go.Abs
def St.sl (s:St) (σ:Nat->PV):St:={ s with slots:=σ }
theorem Yva (s:St) (σ:Nat->PV) (t:Ty) (p:PV):(s.sl σ).elems t p=s.elems t p:=by cases p <;> rfl
theorem Ypr (s:St) (σ:Nat->PV) (p:PV):(s.sl σ).load p=s.load p:=by
 cases p with
 | addr b path=> cases b <;> rfl
 | _=> rfl
theorem YBa (s:St) (σ:Nat->PV) (r:Nat):(s.sl σ).freezeRow r=(s.freezeRow r).sl σ:=by
 unfold St.freezeRow
 show (match s.rows r with | .mk t .live xs=> (s.sl σ).setRow r (.mk t .frz xs) | _=> s.sl σ)=_
 cases s.rows r with
 | none=> rfl
 | mk t o xs=> cases o <;> rfl
theorem Yza (s:St) (σ:Nat->PV) (b:Nat):(s.sl σ).freezeBox b=(s.freezeBox b).sl σ:=by
 unfold St.freezeBox
 show (match s.boxes b with | .cells T .live c=> (s.sl σ).setBox b (.cells T .frz c) | _=> s.sl σ)=_
 cases s.boxes b with
 | none=> rfl
 | iter l n=> rfl
 | cells T o c=> cases o <;> rfl
theorem Ycg (s:St) (σ:Nat->PV) (p:PV):(s.sl σ).freeze p=(s.freeze p).sl σ:=by
 cases p with
 | row r=> exact YBa s σ r
 | part r lo hi=> exact YBa s σ r
 | bpart b path lo hi=> exact Yza s σ b
 | addr b path=>
  cases b with
  | box b=> exact Yza s σ b
  | row r i=> exact YBa s σ r
  | fbox t x=> rfl
 | _=> rfl
theorem YAa (s:St) (r:Nat):MemLe s (s.freezeRow r):=by
 unfold St.freezeRow
 split
 ·rename_i t xs hr
  refine ⟨fun r' t' o' xs' h=> ?_,fun b T o c h=> ⟨o,h,id⟩,fun _ _ _ h=> h⟩
  rw [Ys1]
  by_cases e:r'=r
  ·subst e; rw [Yku rfl]; rw [hr] at h; cases h; exact ⟨.frz,rfl,fun _=> by simp⟩
  ·rw [Yju e]; exact ⟨o',h,id⟩
 ·exact MemLe.refl s
theorem Yya (s:St) (b:Nat):MemLe s (s.freezeBox b):=by
 unfold St.freezeBox
 split
 ·rename_i T c hb
  refine ⟨fun r t o xs h=> ⟨o,h,id⟩,fun b' T' o' c' h=> ?_,fun b' l n h=> ?_⟩
  ·rw [YY]
   by_cases e:b'=b
   ·subst e; rw [Yku rfl]; rw [hb] at h; cases h; exact ⟨.frz,rfl,fun _=> by simp⟩
   ·rw [Yju e]; exact ⟨o',h,id⟩
  ·rw [YY]
   by_cases e:b'=b
   ·subst e; rw [hb] at h; cases h
   ·rw [Yju e]; exact h
 ·exact MemLe.refl s
theorem YAq (s:St) (p:PV):MemLe s (s.freeze p):=by
 cases p with
 | row r=> exact YAa s r
 | part r lo hi=> exact YAa s r
 | bpart b path lo hi=> exact Yya s b
 | addr b path=>
  cases b with
  | box b=> exact Yya s b
  | row r i=> exact YAa s r
  | fbox t x=> exact MemLe.refl s
 | _=> exact MemLe.refl s
theorem Y68 {s s':St} {r:Nat} {t:Ty} {xs:List t.den} (h:s.newRow r t xs=some s'):MemLe s s'/\∀ σ,(s.sl σ).newRow r t xs=some (s'.sl σ):=by
 obtain ⟨h1,rfl⟩:=YK1 h
 refine ⟨⟨fun r' t' o' xs' hh=> ?_,fun b T o c h=> ⟨o,h,id⟩,fun _ _ _ h=> h⟩,fun σ=> ?_⟩
 ·rw [Ys1]
  by_cases e:r'=r
  ·subst e; rw [h1] at hh; cases hh
  ·rw [Yju e]; exact ⟨o',hh,id⟩
 ·unfold St.newRow
  show (match s.rows r with | .none=> some ((s.sl σ).setRow r (.mk t .live xs)) | _=> none)=_
  rw [h1]; rfl
theorem Y96 {s s':St} {b:Nat} {e:BoxE} (h:s.newBox b e=some s'):MemLe s s'/\∀ σ,(s.sl σ).newBox b e=some (s'.sl σ):=by
 obtain ⟨h1,rfl⟩:=Yx2 h
 refine ⟨⟨fun r t o xs h=> ⟨o,h,id⟩,fun b' T' o' c' hh=> ?_,fun b' l n hh=> ?_⟩,fun σ=> ?_⟩
 ·rw [YY]
  by_cases e:b'=b
  ·subst e; rw [h1] at hh; cases hh
  ·rw [Yju e]; exact ⟨o',hh,id⟩
 ·rw [YY]
  by_cases e:b'=b
  ·subst e; rw [h1] at hh; cases hh
  ·rw [Yju e]; exact hh
 ·unfold St.newBox
  show (match s.boxes b with | .none=> some ((s.sl σ).setBox b e) | _=> none)=_
  rw [h1]; rfl
theorem YD8 (t:Ty):∀ {p:PV} {s s':St} {x:t.den},t.calm=true->Yh t p s=some (x,s')->MemLe s s'/\∀ σ,Yh t p (s.sl σ)=some (x,s'.sl σ):=by
 have leaf:∀ {t:Ty} {p:PV} {s s':St} {x:t.den},(∀ s:St,Yh t p s=(Yo t p).map (fun x=> (x,s)))->Yh t p s=some (x,s')->MemLe s s'/\∀ σ,Yh t p (s.sl σ)=some (x,s'.sl σ):=by
  intro t p s s' x h1 h
  rw [h1] at h
  cases hc:Yo t p with
  | none=> rw [hc] at h; cases h
  | some y=>
   rw [hc] at h
   cases h
   exact ⟨MemLe.refl s,fun σ=> by rw [h1,hc]; rfl⟩
 induction t with
 | pair a b iha ihb=>
  intro p s s' x hc h
  simp only [Ty.calm,Ylu] at hc
  simp only [Yh] at h ⊢
  split at h
  ·rename_i y hy; cases h; exact ⟨MemLe.refl s,fun σ=> rfl⟩
  ·rename_i hy
   split at h
   ·rename_i y s1 h1
    split at h
    ·rename_i z s2 h2
     cases h
     obtain ⟨l1,g1⟩:=iha hc.1 h1
     obtain ⟨l2,g2⟩:=ihb hc.2 h2
     exact ⟨l1.trans l2,fun σ=> by simp only [g1 σ,g2 σ]⟩
    ·cases h
   ·cases h
 | st a ih=>
  intro p s s' x hc h
  simp only [Yh] at h ⊢
  split at h
  ·rename_i y hy; cases h; exact ⟨MemLe.refl s,fun σ=> rfl⟩
  ·rename_i hy
   obtain ⟨l1,g1⟩:=ih (p:=p.inn) hc h
   exact ⟨l1,fun σ=> g1 σ⟩
 | sl own a ih=>
  intro p s s' x hc h
  cases own with
  | true=> cases hc
  | false=>
   simp only [Yh] at h ⊢
   split at h
   ·rename_i xs hx
    cases h
    exact ⟨YAq s p,fun σ=> by rw [Yva,hx,Ycg]⟩
   ·cases h
 | ptr a _=> intro p s s' x hc h; cases hc
 | optr a _=> intro p s s' x hc h; cases hc
 | rptr a _=>
  intro p s s' x hc h
  cases p with
  | addr b path=>
   cases b with
   | box b=>
    simp only [Yh] at h ⊢
    split at h
    ·rename_i q hq
     split at h
     ·rename_i y hy
      cases h
      exact ⟨Yya s b,fun σ=> by rw [Ypr,hq]; simp only [hy,Yza]⟩
     ·cases h
    ·cases h
   | row r i=> exact leaf (fun s=> by simp only [Yh]; cases Yo _ _ <;> rfl) h
   | fbox u z=>
    simp only [Yh] at h ⊢
    split at h
    ·rename_i y hy
     cases h
     exact ⟨MemLe.refl s,fun σ=> rfl⟩
    ·cases h
  | _=> exact leaf (fun s=> by simp only [Yh]; cases Yo _ _ <;> rfl) h
 | clo f n a ih=>
  intro p s s' x hc h
  cases p with
  | cl g k q=>
   simp only [Yh] at h ⊢
   split at h
   ·exact ih hc h
   ·cases h
  | _=> exact leaf (fun s=> by simp only [Yh]; cases Yo _ _ <;> rfl) h
 | nilp=>
  intro p s s' x hc h
  cases p with
  | nilp=> cases h; exact ⟨MemLe.refl s,fun σ=> rfl⟩
  | _=> exact leaf (fun s=> by simp only [Yh]; cases Yo _ _ <;> rfl) h
 | _=> intro p s s' x hc h; exact leaf (fun s=> by simp only [Yh]; cases Yo _ _ <;> rfl) h
theorem Y0e:∀ (ts:List Ty) {ps:List PV} {s s':St} {x:(tup ts).den},ts.all Ty.calm=true->YX2 ts ps s=some (x,s')->MemLe s s'/\∀ σ,YX2 ts ps (s.sl σ)=some (x,s'.sl σ)
 | [],ps,s,s',x,_,h=> by
  cases ps with
  | nil=> cases h; exact ⟨MemLe.refl s,fun σ=> rfl⟩
  | cons _ _=> cases h
 | [t],ps,s,s',x,hc,h=> by
  cases ps with
  | nil=> cases h
  | cons p ps=>
   cases ps with
   | nil=> exact YD8 t (by simpa using hc) (h:Yh t p s=some (x,s'))
   | cons _ _=> cases h
 | t::u::ts,ps,s,s',x,hc,h=> by
  cases ps with
  | nil=> cases h
  | cons p ps=>
   rw [YH4] at h
   simp only [List.all_cons,Ylu] at hc
   split at h
   ·rename_i y s1 hy
    split at h
    ·rename_i z s2 hz
     cases h
     obtain ⟨l1,g1⟩:=YD8 t hc.1 hy
     obtain ⟨l2,g2⟩:=Y0e (u::ts) (by simp [hc.2]) hz
     exact ⟨l1.trans l2,fun σ=> by rw [YH4,g1 σ]; simp only [g2 σ]⟩
    ·cases h
   ·cases h
theorem Ysg {R:Type} (t:Ty):∀ {id:Nat} {x:t.den} {s:St} {k:PV->St->Option R} {r:R},imp t id x s k=some r->
  ∃ p s2,k p s2=some r/\MemLe s s2/\(∀ n,s2.slots n=s.slots n)/\∀ (σ:Nat->PV) (k':PV->St->Option R),imp t id x (s.sl σ) k'=k' p (s2.sl σ):=by
 have leaf:∀ {t:Ty} {id:Nat} {x:t.den} {s:St} {k:PV->St->Option R} {r:R} (q:PV) (c:Bool),(∀ (s:St) (k:PV->St->Option R),imp t id x s k=bif c then k q s else none)->imp t id x s k=some r->
   ∃ p s2,k p s2=some r/\MemLe s s2/\(∀ n,s2.slots n=s.slots n)/\∀ (σ:Nat->PV) (k':PV->St->Option R),imp t id x (s.sl σ) k'=k' p (s2.sl σ):=by
  intro t id x s k r q c h1 h
  rw [h1] at h
  cases c with
  | false=> cases h
  | true=> exact ⟨q,s,h,MemLe.refl s,fun _=> rfl,fun σ k'=> by rw [h1]; rfl⟩
 induction t with
 | pair a b iha ihb=>
  intro id x s k r h
  simp only [imp] at h ⊢
  cases hp:(a.pure&&b.pure) with
  | true=>
   rw [hp] at h
   exact ⟨_,s,h,MemLe.refl s,fun _=> rfl,fun σ k'=> rfl⟩
  | false=>
   rw [hp,Yhu] at h
   obtain ⟨p,s1,h1,l1,m1,g1⟩:=iha h
   obtain ⟨q,s2,h2,l2,m2,g2⟩:=ihb h1
   exact ⟨_,s2,h2,l1.trans l2,fun n=> (m2 n).trans (m1 n),fun σ k'=> by rw [Yhu,g1,g2]⟩
 | st a ih=>
  intro id x s k r h
  simp only [imp] at h ⊢
  cases hp:a.pure with
  | true=>
   rw [hp] at h
   exact ⟨_,s,h,MemLe.refl s,fun _=> rfl,fun σ k'=> rfl⟩
  | false=>
   rw [hp,Yhu] at h
   obtain ⟨p,s1,h1,l1,m1,g1⟩:=ih h
   exact ⟨_,s1,h1,l1,m1,fun σ k'=> by rw [Yhu,g1]⟩
 | sl own a _=>
  intro id x s k r h
  cases own with
  | false=> exact leaf (.val (.sl false a) x) a.pure (fun s k=> by simp only [imp,Ty.pure,YFu,Y5v]) h
  | true=>
   simp only [imp] at h ⊢
   split at h
   ·rename_i s1 h1
    obtain ⟨l1,g1⟩:=Y68 h1
    obtain ⟨_,rfl⟩:=YK1 h1
    exact ⟨_,_,h,l1,fun _=> rfl,fun σ k'=> by rw [g1 σ]⟩
   ·cases h
 | ptr a ih=>
  intro id x s k r h
  simp only [imp] at h ⊢
  obtain ⟨p,s1,h1,l1,m1,g1⟩:=ih h
  split at h1
  ·rename_i s2 h2
   obtain ⟨l2,g2⟩:=Y96 h2
   obtain ⟨_,rfl⟩:=Yx2 h2
   exact ⟨_,_,h1,l1.trans l2,m1,fun σ k'=> by rw [g1,g2 σ]⟩
  ·cases h1
 | rptr a _=>
  intro id x s k r h
  exact leaf (.addr (.fbox a x) []) a.pure (fun s k=> by simp only [imp]) h
 | optr a ih=>
  intro id x s k r h
  cases x with
  | none=> exact ⟨.nilp,s,h,MemLe.refl s,fun _=> rfl,fun σ k'=> rfl⟩
  | some y=>
   simp only [imp] at h ⊢
   obtain ⟨p,s1,h1,l1,m1,g1⟩:=ih h
   split at h1
   ·rename_i s2 h2
    obtain ⟨l2,g2⟩:=Y96 h2
    obtain ⟨_,rfl⟩:=Yx2 h2
    exact ⟨_,_,h1,l1.trans l2,m1,fun σ k'=> by rw [g1,g2 σ]⟩
   ·cases h1
 | clo f n a ih=>
  intro id x s k r h
  simp only [imp] at h ⊢
  obtain ⟨p,s1,h1,l1,m1,g1⟩:=ih h
  exact ⟨_,s1,h1,l1,m1,fun σ k'=> by rw [g1]⟩
 | nilp=> intro id x s k r h; exact ⟨_,s,h,MemLe.refl s,fun _=> rfl,fun σ k'=> rfl⟩
 | arr n a _=> intro id x s k r h; exact leaf (.val (.arr n a) x) (Ty.pure (.arr n a)) (fun s k=> by simp only [imp]) h
 | _=> intro id x s k r h; exact ⟨_,s,h,MemLe.refl s,fun _=> rfl,fun σ k'=> rfl⟩
theorem Ypg {R:Type}:∀ (res:List Ty) {l:List PV} {id:Nat} {x:(tup (res++[])).den} {s:St} {k:PV->St->Option R} {r:R},Y01 res [] l id x s k=some r->
  ∃ p s2,k p s2=some r/\MemLe s s2/\(∀ n,s2.slots n=s.slots n)/\∀ (σ:Nat->PV) (k':PV->St->Option R),Y01 res [] l id x (s.sl σ) k'=k' p (s2.sl σ)
 | [],l,id,x,s,k,r,h=> by
  cases l with
  | nil=> exact ⟨.tnil,s,h,MemLe.refl s,fun _=> rfl,fun σ k'=> rfl⟩
  | cons _ _=> cases h
 | [t],l,id,x,s,k,r,h=> by
  simp only [Y01] at h ⊢
  obtain ⟨p,s1,h1,l1,m1,g1⟩:=Ysg t h
  exact ⟨_,s1,h1,l1,m1,fun σ k'=> by rw [g1]⟩
 | t::u::res,l,id,x,s,k,r,h=> by
  simp only [Y01] at h ⊢
  obtain ⟨p,s1,h1,l1,m1,g1⟩:=Ysg t h
  obtain ⟨q,s2,h2,l2,m2,g2⟩:=Ypg (u::res) h1
  exact ⟨_,s2,h2,l1.trans l2,fun n=> (m2 n).trans (m1 n),fun σ k'=> by rw [g1,g2]⟩
theorem YIt {s s':St} (h:MemLe s s'):MemLe s (s.thaw s'):=by
 refine ⟨fun r t o xs hr=> ?_,fun b T o c hb=> ?_,fun b l n hb=> ?_⟩
 ·obtain ⟨o',e,k⟩:=h.rows r t o xs hr
  show ∃ o',YC8 (s.rows r) (s'.rows r)=_/\_
  rw [hr,e]
  cases o with
  | live=>
   cases o' with
   | dead=> exact absurd rfl (k (by simp))
   | live=> exact ⟨_,rfl,fun _=> by simp⟩
   | frz=> exact ⟨_,rfl,fun _=> by simp⟩
  | frz=> exact ⟨o',by cases o' <;> rfl,k⟩
  | dead=> exact ⟨o',by cases o' <;> rfl,k⟩
 ·obtain ⟨o',e,k⟩:=h.boxes b T o c hb
  show ∃ o',Ys6 (s.boxes b) (s'.boxes b)=_/\_
  rw [hb,e]
  cases o with
  | live=>
   cases o' with
   | dead=> exact absurd rfl (k (by simp))
   | live=> exact ⟨_,rfl,fun _=> by simp⟩
   | frz=> exact ⟨_,rfl,fun _=> by simp⟩
  | frz=> exact ⟨o',by cases o' <;> rfl,k⟩
  | dead=> exact ⟨o',by cases o' <;> rfl,k⟩
 ·show Ys6 (s.boxes b) (s'.boxes b)=_
  rw [hb,h.iters b l n hb]; rfl
theorem Yuf:∀ {ts:List Ty},ts.all Ty.calm=true->(ts.filterMap fun | .ptr t=> some t | _=> none)=[]/\∀ ps:List PV,Ya2 ts ps=[]
 | [],_=> ⟨rfl,fun ps=> by cases ps <;> rfl⟩
 | t::ts,h=> by
  simp only [List.all_cons,Ylu] at h
  obtain ⟨h1,h2⟩:=Yuf h.2
  cases t <;> first | (cases h.1; done) | exact ⟨h1,fun ps=> by cases ps <;> first | rfl | exact h2 _⟩
theorem Y8s {R:Type} {g:Sig} {z:g.Out} {p p':(i:TypeId)->(t:Ty)->t.den->Option R} {k k':g.good.den->Option R} {r:R} (h:YX1 g z p k=some r)
  (hp:∀ i t x,p i t x=some r->p' i t x=some r) (hk:∀ v,k v=some r->k' v=some r):YX1 g z p' k'=some r:=by
 obtain ⟨args,res,pan⟩:=g
 cases pan with
 | none=> exact hk _ h
 | some q=>
  cases z with
  | inl w=> exact hp _ _ _ h
  | inr z=> exact hk _ h
theorem YDp {E:Env} {R:Type} {call:CallT E} {t s:St} (hr:s.rows=t.rows) (hb:s.boxes=t.boxes) {dst:Option Nat} {f:FuncId} {ps:List PV} {π:Ex->St->Option R} {κ:St->Option R} {y:R}
  (hc:(E.sig f).args.all Ty.calm=true) (h:Yb2 E call t dst f ps π κ=some y):
  ∃ (π':Ex->St->Option R) (κ':St->Option R),Yb2 E call s dst f ps π' κ'=some y/\
   (∀ e s2 r,π' e s2=some r->s2.slots=s.slots/\π e (s2.sl t.slots)=some r)/\
   (∀ s2 r,κ' s2=some r->MemLe s s2/\(∀ n,dst≠some n->s2.slots n=s.slots n)/\κ (s2.sl fun n=> if dst=some n then s2.slots n else t.slots n)=some r):=by
 classical
 have hst:s=t.sl s.slots:=by cases s; cases t; simp only [St.sl] at*; simp_all
 refine ⟨fun e s2=> if s2.slots=s.slots then π e (s2.sl t.slots) else none,fun s2=> if MemLe s s2/\(∀ n,dst≠some n->s2.slots n=s.slots n) then κ (s2.sl fun n=> if dst=some n then s2.slots n else t.slots n) else none,?_,fun e s2 r h=> ?_,fun s2 r h=> ?_⟩
 ·unfold Yb2 at h ⊢
  split at h
  ·cases h
  ·rename_i x t1 hx
   obtain ⟨l1,g1⟩:=Y0e _ hc hx
   have hx':YX2 (E.sig f).args ps s=some (x,t1.sl s.slots):=by rw [hst]; exact g1 _
   have ht1:t1.sl t.slots=t1:=by
    have:=g1 t.slots
    have e:t.sl t.slots=t:=rfl
    rw [e,hx] at this
    exact (congrArg Prod.snd (Option.some.inj this)).symm
   rw [hx']
   simp only
   obtain ⟨z,hz,h⟩:=YLu.1 h
   rw [hz]
   simp only [Yiu]
   obtain ⟨hb1,hb2⟩:=Yuf hc
   have main:∀ (v:(E.sig f).good.den),Y01 (E.sig f).res (E.sig f).backs (Ya2 (E.sig f).args ps) (1024*(dst.getD 0+1)+2) v (bif (E.sig f).leaks then t1 else t.thaw t1) (fun v s=> κ (s.putO dst (single v)))=some y->
     Y01 (E.sig f).res (E.sig f).backs (Ya2 (E.sig f).args ps) (1024*(dst.getD 0+1)+2) v (bif (E.sig f).leaks then t1.sl s.slots else s.thaw (t1.sl s.slots)) (fun v s2=> if MemLe s (s2.putO dst (single v))/\(∀ n,dst≠some n->(s2.putO dst (single v)).slots n=s.slots n) then κ ((s2.putO dst (single v)).sl fun n=> if dst=some n then (s2.putO dst (single v)).slots n else t.slots n) else none)=some y:=by
    have hbk:(E.sig f).backs=[]:=hb1
    rw [hb2]
    revert hbk
    show (E.sig f).backs=[]->∀ (v:(tup ((E.sig f).res++(E.sig f).backs)).den),_
    generalize (E.sig f).backs=bs
    rintro rfl v h
    obtain ⟨p,t2,h2,l2,m2,g2⟩:=Ypg _ h
    have hs0:(bif (E.sig f).leaks then t1.sl s.slots else s.thaw (t1.sl s.slots))=(bif (E.sig f).leaks then t1 else t.thaw t1).sl s.slots:=by
     cases (E.sig f).leaks with
     | true=> rfl
     | false=>
      show s.thaw (t1.sl s.slots)=(t.thaw t1).sl s.slots
      rw [hst]; rfl
    rw [hs0,g2 s.slots]
    have hl:MemLe t t2:=by
     refine MemLe.trans ?_ l2
     cases (E.sig f).leaks with
     | true=> exact l1
     | false=> exact YIt l1
    have hs2:∀ n,t2.slots n=t.slots n:=by
     intro n
     rw [m2 n]
     cases (E.sig f).leaks with
     | true=> show t1.slots n=_; rw [<-ht1]; rfl
     | false=> show (t.thaw t1).slots n=_; show t1.slots n=_; rw [<-ht1]; rfl
    have hput:∀ (u:St) (q:PV),(u.putO dst q).rows=u.rows/\(u.putO dst q).boxes=u.boxes:=fun u q=> by cases dst <;> exact ⟨rfl,rfl⟩
    rw [Yku]
    ·rw [<-h2]
     congr 1
     cases dst with
     | none=>
      show St.mk (fun n=> if none=some n then _ else t.slots n) t2.boxes t2.rows=t2
      have:(fun n=> if (none:Option Nat)=some n then s.slots n else t.slots n)=t2.slots:=by
       funext n; rw [Yju (by simp),hs2]
      cases t2
      simp only [St.mk.injEq,and_true]
      exact this
     | some d=>
      show St.mk (fun n=> if some d=some n then ((t2.sl s.slots).put d (single p)).slots n else t.slots n) t2.boxes t2.rows=t2.put d (single p)
      have:(fun n=> if some d=some n then ((t2.sl s.slots).put d (single p)).slots n else t.slots n)=(t2.put d (single p)).slots:=by
       funext n
       by_cases e:d=n
       ·subst e; rw [Yku rfl,Y71,Y71,Yku rfl,Yku rfl]
       ·rw [Yju (by simpa using e),Y71,Yju (fun h=> e h.symm),hs2]
      rw [this]; rfl
    ·constructor
     ·have h1:=hput (t2.sl s.slots) (single p)
      refine MemLe.trans (b:=t2) ?_ (MemLe.of_eq h1.1 h1.2)
      exact ⟨fun r u o xs hh=> hl.rows r u o xs (by rw [<-hr]; exact hh),fun b T o c hh=> hl.boxes b T o c (by rw [<-hb]; exact hh),fun b l n hh=> hl.iters b l n (by rw [<-hb]; exact hh)⟩
     ·intro n hn
      cases dst with
      | none=> rfl
      | some d=> show ((t2.sl s.slots).put d (single p)).slots n=_; rw [Y71,Yju (fun e=> hn (by rw [e]))]; rfl
   refine Y8s h (fun i u x hp=> ?_) main
   show (if (t1.sl s.slots).slots=s.slots then π _ ((t1.sl s.slots).sl t.slots) else none)=some y
   rw [Yku (show (t1.sl s.slots).slots=s.slots from rfl),show (t1.sl s.slots).sl t.slots=t1.sl t.slots from rfl,ht1]
   exact hp
 ·dsimp only at h
  split at h
  ·rename_i e1; exact ⟨e1,h⟩
  ·cases h
 ·dsimp only at h
  split at h
  ·rename_i hh
   exact ⟨hh.1,hh.2,h⟩
  ·cases h
theorem Yii (t:Ty):∀ (p:PV),t.flat=true->∃ r:Option t.den,∀ s,Yh t p s=r.map fun x=> (x,s):=by
 have leaf:∀ {t:Ty} {p:PV},(∀ s:St,Yh t p s=(Yo t p).map (fun x=> (x,s)))->∃ r:Option t.den,∀ s,Yh t p s=r.map fun x=> (x,s):=fun h=> ⟨_,h⟩
 induction t with
 | pair a b iha ihb=>
  intro p hc
  simp only [Ty.flat,Ylu] at hc
  obtain ⟨r1,h1⟩:=iha p.fst hc.1
  obtain ⟨r2,h2⟩:=ihb p.snd hc.2
  simp only [Yh]
  cases Yo (.pair a b) p with
  | some x=> exact ⟨some x,fun s=> rfl⟩
  | none=>
   cases r1 with
   | none=> exact ⟨none,fun s=> by simp only [h1]; rfl⟩
   | some x=>
    cases r2 with
    | none=> exact ⟨none,fun s=> by simp only [h1,h2]; rfl⟩
    | some y=> exact ⟨some (x,y),fun s=> by simp only [h1,h2]; rfl⟩
 | st a ih=>
  intro p hc
  obtain ⟨r1,h1⟩:=ih p.inn hc
  simp only [Yh]
  cases Yo (.st a) p with
  | some x=> exact ⟨some x,fun s=> rfl⟩
  | none=> exact ⟨r1,fun s=> h1 s⟩
 | sl own a _=> intro p hc; cases hc
 | ptr a _=> intro p hc; cases hc
 | optr a _=> intro p hc; cases hc
 | rptr a _=> intro p hc; cases hc
 | clo f n a _=> intro p hc; cases hc
 | nilp=> intro p hc; cases hc
 | _=> intro p hc; exact leaf (fun s=> by simp only [Yh]; cases Yo _ _ <;> rfl)
theorem Y1e:∀ (ts:List Ty) (ps:List PV),ts.all Ty.flat=true->∃ r:Option (tup ts).den,∀ s,YX2 ts ps s=r.map fun x=> (x,s)
 | [],ps,_=> by
  cases ps with
  | nil=> exact ⟨some (),fun s=> rfl⟩
  | cons _ _=> exact ⟨none,fun s=> rfl⟩
 | [t],ps,hc=> by
  cases ps with
  | nil=> exact ⟨none,fun s=> rfl⟩
  | cons p ps=>
   cases ps with
   | nil=> exact Yii t p (by simpa using hc)
   | cons _ _=> exact ⟨none,fun s=> rfl⟩
 | t::u::ts,ps,hc=> by
  cases ps with
  | nil=> exact ⟨none,fun s=> rfl⟩
  | cons p ps=>
   simp only [List.all_cons,Ylu] at hc
   obtain ⟨r1,h1⟩:=Yii t p hc.1
   obtain ⟨r2,h2⟩:=Y1e (u::ts) ps (by simp [hc.2])
   cases r1 with
   | none=> exact ⟨none,fun s=> by rw [YH4]; simp only [h1]; rfl⟩
   | some x=>
    cases r2 with
    | none=> exact ⟨none,fun s=> by rw [YH4]; simp only [h1,h2]; rfl⟩
    | some y=> exact ⟨some (x,y),fun s=> by rw [YH4]; simp only [h1,h2]; rfl⟩
theorem Y35:∀ {t:Ty},t.flat=true->t.pure=true/\t.free=true
 | .pair a b,h=> by
  simp only [Ty.flat,Ylu] at h
  have h1:=Y35 h.1
  have h2:=Y35 h.2
  simp only [Ty.pure,Ty.free,h1.1,h1.2,h2.1,h2.2,Bool.and_self,and_self]
 | .st a,h=> Y35 (t:=a) h
 | .arr _ a,h=> Y35 (t:=a) h
 | .int _,_=> ⟨rfl,rfl⟩
 | .bool,_=> ⟨rfl,rfl⟩
 | .str,_=> ⟨rfl,rfl⟩
 | .unit,_=> ⟨rfl,rfl⟩
theorem Ytg:∀ (t:Ty) (x:t.den),t.flat=true->∃ p,∀ {R:Type} (id:Nat) (s:St) (k:PV->St->Option R),imp t id x s k=k p s:=by
 intro t x h
 have hp:=(Y35 h).1
 refine ⟨.val t x,fun id s k=> ?_⟩
 cases t with
 | pair a b=> simp only [Ty.pure] at hp; simp only [imp,hp,Ygu]
 | st a=> simp only [Ty.pure] at hp; simp only [imp,hp,Ygu]
 | arr n a=> simp only [imp,hp,Ygu]
 | sl own a=> cases h
 | ptr a=> cases h
 | optr a=> cases h
 | rptr a=> cases h
 | clo f n a=> cases h
 | nilp=> cases h
 | int k=> rfl
 | bool=> rfl
 | str=> rfl
 | unit=> rfl
theorem Yqg:∀ (res:List Ty) (x:(tup (res++[])).den),res.all Ty.flat=true->∃ p,∀ {R:Type} (id:Nat) (s:St) (k:PV->St->Option R),Y01 res [] [] id x s k=k p s
 | [],x,_=> ⟨.tnil,fun id s k=> rfl⟩
 | [t],x,h=> by
  obtain ⟨p,hp⟩:=Ytg t x (by simpa using h)
  exact ⟨.tcons p .tnil,fun id s k=> by simp only [Y01,hp]⟩
 | t::u::res,x,h=> by
  simp only [List.all_cons,Ylu] at h
  obtain ⟨p,hp⟩:=Ytg t x.1 h.1
  obtain ⟨q,hq⟩:=Yqg (u::res) x.2 (by simp [h.2])
  exact ⟨.tcons p q,fun id s k=> by simp only [Y01,hp,hq]⟩
theorem YJt (s:St):s.thaw s=s:=by
 have h1:∀ e:RowE,YC8 e e=e:=fun e=> by cases e with
  | none=> rfl
  | mk t o xs=> cases o <;> rfl
 have h2:∀ e:BoxE,Ys6 e e=e:=fun e=> by cases e with
  | none=> rfl
  | iter l n=> rfl
  | cells T o c=> cases o <;> rfl
 unfold St.thaw
 cases s
 simp only [h1,h2]
theorem Y9g:∀ {ts:List Ty},ts.all Ty.flat=true->(ts.filterMap fun | .ptr t=> some t | _=> none)=[]/\∀ ps:List PV,Ya2 ts ps=[]
 | [],_=> ⟨rfl,fun ps=> by cases ps <;> rfl⟩
 | t::ts,h=> by
  simp only [List.all_cons,Ylu] at h
  obtain ⟨h1,h2⟩:=Y9g h.2
  cases t <;> first | (cases h.1; done) | exact ⟨h1,fun ps=> by cases ps <;> first | rfl | exact h2 _⟩
theorem YBp {E:Env} {R:Type} {call:CallT E} {t:St} {dst:Option Nat} {f:FuncId} {ps:List PV} {π:Ex->St->Option R} {κ:St->Option R} {y:R}
  (hf:YZ5 E f=true) (h:Yb2 E call t dst f ps π κ=some y):
  ∃ v,κ (t.putO dst v)=some y/\∀ {R':Type} (s:St) (π':Ex->St->Option R') (κ':St->Option R'),Yb2 E call s dst f ps π' κ'=κ' (s.putO dst v):=by
 unfold YZ5 at hf
 simp only [Ylu] at hf
 obtain ⟨ha,hr,hp,-⟩:=hf
 obtain ⟨r,hr1⟩:=Y1e _ ps ha
 obtain ⟨b1,b2⟩:=Y9g ha
 have hbk:(E.sig f).backs=[]:=b1
 have hlk:(E.sig f).leaks=false:=by
  unfold Sig.leaks
  rw [hbk,YHu]
  simp only [Y3v] at hr ⊢
  simp only [Bool.not_eq_false',Y3v]
  exact fun t ht=> (Y35 (hr t ht)).2
 unfold Yb2 at h ⊢
 cases r with
 | none=> rw [hr1] at h; cases h
 | some x=>
  rw [hr1] at h
  simp only [Option.map_some] at h
  obtain ⟨z,hz,h⟩:=YLu.1 h
  simp only [hr1,Option.map_some,hz,Yiu,b2,hlk,Yhu,YJt] at h ⊢
  clear hz hr1
  have main:∀ (g:Sig),g.res.all Ty.flat=true->g.pan.isNone=true->g.backs=[]->∀ z:g.Out,((YX1 g z (fun i u x=> π (.pan i u x) t) fun z=> Y01 g.res g.backs [] (1024*(dst.getD 0+1)+2) z t fun v s=> κ (s.putO dst (single v)))=some y)->
    ∃ v,κ (t.putO dst v)=some y/\∀ {R':Type} (s:St) (π':Ex->St->Option R') (κ':St->Option R'),(YX1 g z (fun i u x=> π' (.pan i u x) s) fun z=> Y01 g.res g.backs [] (1024*(dst.getD 0+1)+2) z s fun v s=> κ' (s.putO dst (single v)))=κ' (s.putO dst v):=by
   rintro ⟨a,rs,pn⟩ hr hp hb z h
   cases pn with
   | some _=> cases hp
   | none=>
    have main2:∀ (bs:List Ty),bs=[]->∀ z:(tup (rs++bs)).den,∃ v,∀ {R':Type} (s:St) (κ:St->Option R'),(Y01 rs bs [] (1024*(dst.getD 0+1)+2) z s fun v s=> κ (s.putO dst (single v)))=κ (s.putO dst v):=by
     rintro bs rfl z
     obtain ⟨p,hp⟩:=Yqg rs z hr
     exact ⟨single p,fun s κ=> hp _ s _⟩
    obtain ⟨v,hv⟩:=main2 _ hb z
    exact ⟨v,(hv t κ).symm.trans h,fun s π' κ'=> hv s κ'⟩
  exact main _ hr hp hbk z h
theorem Yuq {E:Env} {R:Type} {call:CallT E} {t:St} {o:Oper} {π:Ex->St->Option R} {κ:St->Option R} {y:R} (hq:YY5 E o.op=true) (h:opC E call t o π κ=some y):
  ∃ v,κ (t.putO o.dst v)=some y/\∀ {R':Type} (s:St),(∀ x∈o.op.operands.toList,s.opd E x=t.opd E x)->∀ (π':Ex->St->Option R') (κ':St->Option R'),opC E call s o π' κ'=κ' (s.putO o.dst v):=by
 obtain ⟨c,f,hop,hcal,hfl⟩:∃ c f,o.op=.call c/\c.callee=.value (.func f)/\YZ5 E f=true:=by
  unfold YY5 at hq
  split at hq
  ·rename_i c hc
   split at hq
   ·rename_i x hf
    split at hq
    ·exact ⟨c,_,hc,hf,hq⟩
    ·cases hq
   ·cases hq
  ·cases hq
 have hv:∀ ps,E.vary f ps=f:=fun ps=> by
  have:=hfl
  unfold YZ5 at this
  simp only [Ylu,List.isEmpty_iff] at this
  unfold Env.vary
  rw [this.2.2.2]; rfl
 unfold opC at h
 simp only [hop,hcal,St.opd,Yl3] at h
 cases hgo:(E.goes f&&(YNa (.func f)||Ye4 E f)) with
 | false=> simp [hgo] at h
 | true=>
  simp only [hgo,hv] at h
  obtain ⟨v,h1,h2⟩:=YBp hfl h
  refine ⟨v,h1,fun s hs π' κ'=> ?_⟩
  have hargs:c.args.toList.map (s.opd E)=c.args.toList.map (t.opd E):=by
   refine List.map_congr_left fun x hx=> hs x ?_
   rw [hop]
   simp only [Op.operands,Call.operands,hcal]
   simp only [Array.toList_append,YAu]
   exact .inr hx
  unfold opC
  simp only [hop,hcal,St.opd,Yl3,hgo,hv]
  rw [show (List.map (fun x=> St.opd E s x) c.args.toList)=c.args.toList.map (s.opd E) from rfl,hargs]
  exact h2 s π' κ'
end Go.Abs
namespace Go.Abs
section
variable {E:Env} {t:St}
theorem YS2 {s:St} (hr:s.rows=t.rows) (hb:s.boxes=t.boxes):s=t.sl s.slots:=by
 cases s; cases t; simp only [St.sl] at*; simp_all
def Made (E:Env) (t:St) (o:Oper) (t1:St):Prop:=∃ v u,t1=u.putO o.dst v/\(∀ n,u.slots n=t.slots n)/\MemLe t u/\
 ∀ s,(∀ x∈o.op.operands.toList,s.opd E x=t.opd E x)->s.rows=t.rows->s.boxes=t.boxes->Yw E s o=some (true,(u.sl s.slots).putO o.dst v)
theorem Yce {u:Ty} (hu:u.calm=true):∀ (l:List (Nat×Operand)) (i:Nat) {t0 t2:St} {ys:List u.den},Yo2 E u t0 l i=some (ys,t2)->
  MemLe t0 t2/\(∀ n,t2.slots n=t0.slots n)/\∀ s:St,(∀ y∈l,s.opd E y.2=t0.opd E y.2)->s.rows=t0.rows->s.boxes=t0.boxes->Yo2 E u s l i=some (ys,t2.sl s.slots)
 | [],i,t0,t2,ys,h=> by
  cases h
  exact ⟨MemLe.refl _,fun _=> rfl,fun s _ hr hb=> by simp only [Yo2]; rw [<-YS2 hr hb]⟩
 | (j,x)::l,i,t0,t2,ys,h=> by
  simp only [Yo2] at h
  cases hj:Nat.beq i j with
  | false=> rw [hj] at h; cases h
  | true=>
   rw [hj,Ygu] at h
   split at h
   ·rename_i y t1 hy
    split at h
    ·rename_i zs t2' hz
     cases h
     obtain ⟨l1,g1⟩:=YD8 u hu hy
     obtain ⟨l2,m2,g2⟩:=Yce hu l (i+1) hz
     have m1:∀ n,t1.slots n=t0.slots n:=fun n=> by
      have:=g1 t0.slots
      rw [show t0.sl t0.slots=t0 from rfl,hy] at this
      have:=(congrArg Prod.snd (Option.some.inj this))
      have:=congrArg (fun s=> St.slots s n) this
      exact this
     refine ⟨l1.trans l2,fun n=> (m2 n).trans (m1 n),fun s hs hr hb=> ?_⟩
     have hopd:∀ z:Operand,t1.opd E z=t0.opd E z:=fun z=> by cases z <;> first | rfl | exact m1 _
     simp only [Yo2,hj,Ygu]
     rw [hs (j,x) (by simp)]
     have e1:Yh u (t0.opd E x) s=some (y,t1.sl s.slots):=by rw [YS2 hr hb]; exact g1 _
     rw [e1]
     simp only
     have e2:=g2 (t1.sl s.slots) (fun z hz'=> by
      have h1:(t1.sl s.slots).opd E z.2=s.opd E z.2:=by cases z.2 <;> rfl
      rw [h1,hs z (by simp [hz']),hopd]) rfl rfl
     rw [e2]
     rfl
    ·cases h
   ·cases h
theorem YBr {o:Oper} (hq:Yk1 E o.op=true) {t1:St} (h:Yw E t o=some (true,t1)):Made E t o t1:=by
 unfold Yw at h
 cases hop:o.op with
 | alloc ty=>
  simp only [hop] at h
  split at h
  ·rename_i d u hd hu
   cases hf:fits u (Y31 u) with
   | false=> rw [hf] at h; cases h
   | true=>
    rw [hf,Ygu] at h
    cases hn:t.newBox (1024*(d+1)) (.cells u .live (Y31 u)) with
    | none=> rw [hn] at h; cases h
    | some t2=>
     rw [hn] at h
     simp only [Option.map_some,okS] at h
     cases h
     obtain ⟨l1,g1⟩:=Y96 hn
     have hsl:t2.slots=t.slots:=by obtain ⟨_,e⟩:=Yx2 hn; rw [e]; rfl
     refine ⟨.addr (.box (1024*(d+1))) [],t2,by rw [hd]; rfl,fun n=> by rw [hsl],l1,fun s hs hr hb=> ?_⟩
     have e1:=g1 s.slots
     rw [<-YS2 hr hb] at e1
     simp only [Yw,hop,hd,hu,hf,Ygu,e1]
     rfl
  ·cases h
 | box ty x=>
  simp only [hop] at h
  split at h
  ·rename_i d u hd hu
   cases hf:fits u (t.opd E x) with
   | false=> rw [hf] at h; cases h
   | true=>
    rw [hf,Ygu] at h
    cases hn:t.newBox (1024*(d+1)) (.cells u .live (t.opd E x)) with
    | none=> rw [hn] at h; cases h
    | some t2=>
     rw [hn] at h
     simp only [Option.map_some,okS] at h
     cases h
     obtain ⟨l1,g1⟩:=Y96 hn
     have hsl:t2.slots=t.slots:=by obtain ⟨_,e⟩:=Yx2 hn; rw [e]; rfl
     refine ⟨.addr (.box (1024*(d+1))) [],t2,by rw [hd]; rfl,fun n=> by rw [hsl],l1,fun s hs hr hb=> ?_⟩
     have e1:=g1 s.slots
     rw [<-YS2 hr hb] at e1
     simp only [Yw,hop,hd,hu]
     rw [hs x (by rw [hop]; simp [Op.operands])]
     simp only [hf,Ygu,e1]
     rfl
  ·cases h
 | range ty x=>
  simp only [hop] at h
  split at h
  ·rename_i d l hu hd hx
   cases hn:t.newBox (1024*(d+1)) (.iter l 0) with
   | none=> rw [hn] at h; cases h
   | some t2=>
    rw [hn] at h
    simp only [Option.map_some,okS] at h
    cases h
    obtain ⟨l1,g1⟩:=Y96 hn
    have hsl:t2.slots=t.slots:=by obtain ⟨_,e⟩:=Yx2 hn; rw [e]; rfl
    refine ⟨.addr (.box (1024*(d+1))) [],t2,by rw [hd]; rfl,fun n=> by rw [hsl],l1,fun s hs hr hb=> ?_⟩
    have e1:=g1 s.slots
    rw [<-YS2 hr hb] at e1
    simp only [Yw,hop,hd,hu]
    rw [hs x (by rw [hop]; simp [Op.operands]),hx]
    simp only [e1]
    rfl
  ·cases h
 | convert src dst x=>
  simp only [hop] at h
  have put:∀ {d:Nat} {v:PV},o.dst=some d->t1=t.put d v->(∀ s:St,s.opd E x=t.opd E x->s.rows=t.rows->s.boxes=t.boxes->Yw E s o=some (true,s.put d v))->Made E t o t1:=by
   intro d v hd e g
   refine ⟨v,t,by rw [hd]; exact e,fun _=> rfl,MemLe.refl t,fun s hs hr hb=> ?_⟩
   rw [g s (hs x (by rw [hop]; simp [Op.operands])) hr hb,hd,<-YS2 hr hb]
   rfl
  split at h
  ·rename_i d own e hd hs' hd'
   cases hc:Yh4 t d e (t.opd E x) with
   | none=> rw [hc] at h; cases h
   | some t2=>
    rw [hc] at h
    simp only [okS] at h
    cases h
    have hel:∀ (s:St) (a:Ty),s.rows=t.rows->s.boxes=t.boxes->s.elems a (t.opd E x)=t.elems a (t.opd E x):=fun s a hr hb=> by
     rw [YS2 hr hb,Yva]
    unfold Yh4 at hc
    split at hc
    ·split at hc
     ·rename_i xs hxs
      cases hc
      refine put hd rfl fun s h1 hr hb=> ?_
      simp only [Yw,hop,hd,hs',hd',Yh4]
      rw [h1,hel s _ hr hb,hxs]
      rfl
     ·cases hc
    ·split at hc
     ·rename_i xs hxs
      cases hc
      refine put hd rfl fun s h1 hr hb=> ?_
      simp only [Yw,hop,hd,hs',hd',Yh4]
      rw [h1,hel s _ hr hb,hxs]
      rfl
     ·cases hc
    ·cases hc
  ·rename_i d a u hno hd hs' hd'
   have unf:∀ s:St,Yw E s o=okC (YB7 u (s.opd E x)) (YN2 s d u (s.opd E x)):=by
    intro s
    simp only [Yw,hop]
    split
    ·rename_i d2 own e h1 h2 h3
     rw [hd] at h1; cases h1
     rw [hs'] at h2; cases h2
     rw [hd'] at h3; cases h3
     first | exact (hno _ _ _ hd hs' hd').elim | exact (hno _ _ _ rfl rfl rfl).elim | (exfalso; simp_all)
    ·rename_i d2 a2 u2 _ h1 h2 h3
     rw [hd] at h1; cases h1
     rw [hd'] at h3; cases h3
     rfl
    ·rename_i h1
     first | exact (h1 _ _ _ hd hs' hd').elim | (exfalso; simp_all)
   cases hc:YN2 t d u (t.opd E x) with
   | none=> rw [hc] at h; cases h
   | some t2=>
    rw [hc] at h
    obtain ⟨hf,h⟩:=Y0b h
    cases h
    have row:∀ {k:Ty} {xs:List k.den},((t.newRow (1024*(d+1)) k xs).map (·.put d (.row (1024*(d+1)))))=some t1->
      (∀ s:St,s.opd E x=t.opd E x->Yw E s o=okS ((s.newRow (1024*(d+1)) k xs).map (·.put d (.row (1024*(d+1))))))->Made E t o t1:=by
     intro k xs hm g
     cases hn:t.newRow (1024*(d+1)) k xs with
     | none=> rw [hn] at hm; cases hm
     | some t3=>
      rw [hn] at hm
      cases hm
      obtain ⟨l1,g1⟩:=Y68 hn
      have hsl:t3.slots=t.slots:=by obtain ⟨_,e⟩:=YK1 hn; rw [e]; rfl
      refine ⟨.row (1024*(d+1)),t3,by rw [hd]; rfl,fun n=> by rw [hsl],l1,fun s hs hr hb=> ?_⟩
      have e1:=g1 s.slots
      rw [<-YS2 hr hb] at e1
      rw [g s (hs x (by rw [hop]; simp [Op.operands])),e1,hd]
      rfl
    have hc0:=hc
    unfold YN2 at hc
    split at hc
    ·rename_i k z hz
     split at hc
     ·cases hc
      exact put hd rfl fun s h1 hr hb=> by rw [unf,h1,hz]; rfl
     ·cases hc
      exact put hd rfl fun s h1 hr hb=> by rw [unf,h1,hz]; rfl
     ·cases hc
    ·rename_i z hz
     split at hc
     ·cases hc
      exact put hd rfl fun s h1 hr hb=> by rw [unf,h1,hz]; rfl
     ·exact row hc fun s h1=> by rw [unf,h1,hz]; rfl
     ·rw [hz] at hf
      exact row hc fun s h1=> by
       rw [unf,h1,hz,hf]; rfl
     ·cases hc
    ·cases hc
  ·cases h
 | buildSlice ty len parts=>
  simp only [hop] at h
  split at h
  ·rename_i d u hd hu
   have hu':(E.elem ty).bind E.ty=some u:=hu
   have hcalm:u.calm=true:=by
    simp only [hop,Yk1,hu'] at hq
    exact hq
   cases hf:(Nat.beq len parts.size&&Nat.ble (len*u.size) 16777216) with
   | false=> rw [hf] at h; cases h
   | true=>
    rw [hf,Ygu] at h
    split at h
    ·rename_i ys t2 hb2
     cases hn:t2.newRow (1024*(d+1)) u ys with
     | none=> rw [hn] at h; cases h
     | some t3=>
      rw [hn] at h
      simp only [Option.map_some,okS] at h
      cases h
      obtain ⟨l0,m0,g0⟩:=Yce hcalm parts.toList 0 hb2
      obtain ⟨l1,g1⟩:=Y68 hn
      have hsl:t3.slots=t2.slots:=by obtain ⟨_,e⟩:=YK1 hn; rw [e]; rfl
      refine ⟨.row (1024*(d+1)),t3,by rw [hd]; rfl,fun n=> by rw [hsl]; exact m0 n,l0.trans l1,fun s hs hr hb=> ?_⟩
      have e0:=g0 s (fun y hy=> hs y.2 (by rw [hop]; simp only [Op.operands,List.mem_map]; exact ⟨y,hy,rfl⟩)) hr hb
      have e1:=g1 s.slots
      simp only [Yw,hop,hd,hu',hf,Ygu,e0,e1]
      rfl
    ·cases h
  ·cases h
 | _=> simp [hop,Yk1] at hq
theorem Yji (t:Ty):∀ {p:PV} {s s':St} {x:t.den},Yh t p s=some (x,s')->∀ σ,Yh t p (s.sl σ)=some (x,s'.sl σ):=by
 have leaf:∀ {t:Ty} {p:PV} {s s':St} {x:t.den},(∀ s:St,Yh t p s=(Yo t p).map (fun x=> (x,s)))->Yh t p s=some (x,s')->∀ σ,Yh t p (s.sl σ)=some (x,s'.sl σ):=by
  intro t p s s' x h1 h σ
  rw [h1] at h
  cases hc:Yo t p with
  | none=> rw [hc] at h; cases h
  | some y=>
   rw [hc] at h
   cases h
   rw [h1,hc]; rfl
 induction t with
 | pair a b iha ihb=>
  intro p s s' x h σ
  simp only [Yh] at h ⊢
  split at h
  ·rename_i y hy; cases h; rfl
  ·rename_i hy
   split at h
   ·rename_i y s1 h1
    split at h
    ·rename_i z s2 h2
     cases h
     simp only [iha h1 σ,ihb h2 σ]
    ·cases h
   ·cases h
 | st a ih=>
  intro p s s' x h σ
  simp only [Yh] at h ⊢
  split at h
  ·rename_i y hy; cases h; rfl
  ·rename_i hy
   exact ih (p:=p.inn) h σ
 | sl own a ih=>
  intro p s s' x h σ
  cases own with
  | true=>
   cases p with
   | row r=>
    simp only [Yh] at h ⊢
    show (match s.rows r with
     | .mk t .live xs=> match Ty.cast (.sl false t) (.sl false a) xs with
      | some ys=> some (ys,(s.sl σ).setRow r (.mk t .dead xs))
      | none=> none
     | _=> none)=_
    split at h
    ·rename_i u xs hr
     split at h
     ·rename_i ys hy
      cases h
      rw [hr]
      simp only [hy]
      rfl
     ·cases h
    ·cases h
   | part r lo hi=>
    cases lo with
    | succ lo=> exact leaf (fun s=> by simp only [Yh]; cases Yo _ _ <;> rfl) h σ
    | zero=>
     simp only [Yh] at h ⊢
     show (match s.rows r with
      | .mk t .live xs=> bif t.pure then match Ty.cast (.sl false t) (.sl false a) (xs.take hi) with
       | some ys=> some (ys,(s.sl σ).setRow r (.mk t .dead xs))
       | none=> none else none
      | _=> none)=_
     split at h
     ·rename_i u xs hr
      cases hu:u.pure with
      | false=> rw [hu] at h; cases h
      | true=>
       rw [hu,Ygu] at h
       split at h
       ·rename_i ys hy
        cases h
        rw [hr]
        simp only [hu,Ygu,hy]
        rfl
       ·cases h
     ·cases h
   | nils=> simp only [Yh] at h ⊢; cases h; rfl
   | _=> exact leaf (fun s=> by simp only [Yh]; cases Yo _ _ <;> rfl) h σ
  | false=>
   simp only [Yh] at h ⊢
   split at h
   ·rename_i xs hx
    cases h
    rw [Yva,hx,Ycg]
   ·cases h
 | ptr a ih=>
  intro p s s' x h σ
  cases p with
  | addr b path=>
   cases b with
   | box b=>
    cases path with
    | nil=>
     simp only [Yh] at h ⊢
     show (match s.boxes b with
      | .cells T .live c=> bif T.same a then Yh a c ((s.sl σ).setBox b (.cells T .dead c)) else none
      | _=> none)=_
     split at h
     ·rename_i T c hb
      cases hs:T.same a with
      | false=> rw [hs] at h; cases h
      | true=>
       rw [hs,Ygu] at h
       rw [hb]
       simp only [hs,Ygu]
       exact ih h σ
     ·cases h
    | cons _ _=> exact leaf (fun s=> by simp only [Yh]; cases Yo _ _ <;> rfl) h σ
   | _=> exact leaf (fun s=> by simp only [Yh]; cases Yo _ _ <;> rfl) h σ
  | _=> exact leaf (fun s=> by simp only [Yh]; cases Yo _ _ <;> rfl) h σ
 | optr a ih=>
  intro p s s' x h σ
  cases p with
  | nilp=> simp only [Yh] at h ⊢; cases h; rfl
  | addr b path=>
   cases b with
   | box b=>
    cases path with
    | nil=>
     simp only [Yh] at h ⊢
     show (match s.boxes b with
      | .cells T .live c=> bif T.same a then match Yh a c ((s.sl σ).setBox b (.cells T .dead c)) with
       | some (x,s)=> some (some x,s)
       | none=> none else none
      | _=> none)=_
     split at h
     ·rename_i T c hb
      cases hs:T.same a with
      | false=> rw [hs] at h; cases h
      | true=>
       rw [hs,Ygu] at h
       rw [hb]
       simp only [hs,Ygu]
       split at h
       ·rename_i y s1 hy
        cases h
        rw [show (s.sl σ).setBox b (.cells T .dead c)=(s.setBox b (.cells T .dead c)).sl σ from rfl,ih hy σ]
       ·cases h
     ·cases h
    | cons _ _=> exact leaf (fun s=> by simp only [Yh]; cases Yo _ _ <;> rfl) h σ
   | _=> exact leaf (fun s=> by simp only [Yh]; cases Yo _ _ <;> rfl) h σ
  | _=> exact leaf (fun s=> by simp only [Yh]; cases Yo _ _ <;> rfl) h σ
 | rptr a _=> intro p s s' x h σ; exact (YD8 (.rptr a) rfl h).2 σ
 | clo f n a ih=>
  intro p s s' x h σ
  cases p with
  | cl g k q=>
   simp only [Yh] at h ⊢
   split at h
   ·exact ih h σ
   ·cases h
  | _=> exact leaf (fun s=> by simp only [Yh]; cases Yo _ _ <;> rfl) h σ
 | nilp=>
  intro p s s' x h σ
  cases p with
  | nilp=> cases h; rfl
  | _=> exact leaf (fun s=> by simp only [Yh]; cases Yo _ _ <;> rfl) h σ
 | _=> intro p s s' x h σ; exact leaf (fun s=> by simp only [Yh]; cases Yo _ _ <;> rfl) h σ
theorem YKt {t:Ty} {p:PV} {s s':St} {x:t.den} (h:Yh t p s=some (x,s')):s'.slots=s.slots:=by
 have:=Yji t h s.slots
 rw [show s.sl s.slots=s from rfl,h] at this
 have e:=congrArg Prod.snd (Option.some.inj this)
 exact (congrArg St.slots e).trans rfl
def Firm (E:Env) (t:St) (o:Oper) (t1:St):Prop:=∃ (v:PV) (u:St),t1=u.putO o.dst v/\(∀ n,u.slots n=t.slots n)/\
 ∀ s,(∀ x∈o.op.operands.toList,s.opd E x=t.opd E x)->s.rows=t.rows->s.boxes=t.boxes->Yw E s o=some (true,(u.sl s.slots).putO o.dst v)
theorem YBt {s s':St} {a v:PV} (h:YR3 s a v=some s'):s'.slots=s.slots/\∀ σ,YR3 (s.sl σ) a v=some (s'.sl σ):=by
 cases a with
 | addr b path=>
  cases b with
  | box b=>
   simp only [YR3] at h ⊢
   split at h
   ·rename_i T c hb
    cases hf:fits (T.at path) v with
    | false=> rw [hf] at h; cases h
    | true=>
     rw [hf,Ygu] at h
     split at h
     ·rename_i c' hc
      cases h
      refine ⟨rfl,fun σ=> ?_⟩
      show (match s.boxes b with
       | .cells T .live c=> bif fits (T.at path) v then match c.set path v with
        | some c'=> some ((s.sl σ).setBox b (.cells T .live c'))
        | none=> none else none
       | _=> none)=_
      rw [hb]
      simp only [hf,Ygu,hc]
      rfl
     ·cases h
   ·cases h
  | row r i=>
   simp only [YR3] at h ⊢
   split at h
   ·rename_i t xs hr
    cases hf:(t.pure&&fits (t.at path) v) with
    | false=> rw [hf] at h; cases h
    | true=>
     rw [hf,Ygu] at h
     split at h
     ·rename_i q hq
      split at h
      ·rename_i y s1 hy
       split at h
       ·rename_i t2 xs2 hr2
        cases h
        refine ⟨(YKt hy:s1.slots=s.slots),fun σ=> ?_⟩
        show (match s.rows r with
         | .mk t .live xs=> bif t.pure&&fits (t.at path) v then match PV.set (.val t (xs.getD i t.zero)) path v with
          | some q=> match Yh t q (s.sl σ) with
           | some (y,s)=> match s.rows r with
            | .mk _ .live _=> some (s.setRow r (.mk t .live (xs.set i y)))
            | _=> none
           | none=> none
          | none=> none else none
         | _=> none)=_
        rw [hr]
        simp only [hf,Ygu,hq,Yji t hy σ]
        show (match s1.rows r with
         | .mk _ .live _=> some ((s1.sl σ).setRow r (.mk t .live (xs.set i y)))
         | _=> none)=_
        rw [hr2]
        rfl
       ·cases h
      ·cases h
     ·cases h
   ·cases h
  | fbox u x=> cases h
 | _=> cases h
theorem YRb (s:St) (σ:Nat->PV) (t:Ty) (p:PV):(s.sl σ).tail t p=s.tail t p:=by
 cases p with
 | val u x=> cases u <;> rfl
 | _=> rfl
theorem Y0m {s s1:St} {d:Nat} {t:Ty} {p q:PV} (h:YH2 s d t p q=some (true,s1)):∃ u:St,s1=u.put d (.row (1024*(d+1)))/\u.slots=s.slots/\∀ σ,YH2 (s.sl σ) d t p q=some (true,(u.sl σ).put d (.row (1024*(d+1)))):=by
 have fin:∀ {c:Bool} {s2:St} {s0:St} {k:Ty} {zs:List k.den},s0.slots=s.slots->s0.newRow (1024*(d+1)) k zs=some s2->s2.slots=s.slots/\∀ σ,(s0.sl σ).newRow (1024*(d+1)) k zs=some (s2.sl σ):=by
  intro c s2 s0 k zs h0 hn
  refine ⟨?_,(Y68 hn).2⟩
  obtain ⟨_,rfl⟩:=YK1 hn
  exact h0
 cases p with
 | row r=>
  simp only [YH2] at h ⊢
  split at h
  ·rename_i u xs hr
   split at h
   ·rename_i ys zs hy hz
    split at h
    ·rename_i s2 hn
     simp only [Ytu,YJu] at h
     obtain ⟨hc,rfl⟩:=h
     obtain ⟨f1,f2⟩:=fin (c:=true) (s0:=s.setRow r (.mk u .dead xs)) rfl hn
     refine ⟨s2,rfl,f1,fun σ=> ?_⟩
     show (match s.rows r with
      | .mk u .live xs=> match Ty.cast (.sl false u) (.sl false t) xs,(s.sl σ).tail t q with
       | some ys,some zs=> match ((s.setRow r (.mk u .dead xs)).sl σ).newRow (1024*(d+1)) t (ys++zs) with
        | some s=> some (decide (ys.length+zs.length<=lim),s.put d (.row (1024*(d+1))))
        | none=> none
       | _,_=> none
      | _=> none)=_
     rw [hr]
     simp only [hy,YRb,hz,f2 σ,hc]
    ·cases h
   ·cases h
  ·cases h
 | nils=>
  simp only [YH2] at h ⊢
  split at h
  ·rename_i ys hy
   split at h
   ·rename_i s2 hn
    simp only [Ytu,YJu] at h
    obtain ⟨hc,rfl⟩:=h
    obtain ⟨f1,f2⟩:=fin (c:=true) rfl hn
    refine ⟨s2,rfl,f1,fun σ=> ?_⟩
    simp only [YRb,hy,f2 σ,hc]
   ·cases h
  ·cases h
 | part r a b=>
  simp only [YH2] at h ⊢
  cases hab:Nat.beq a 0&&t.pure with
  | false=> rw [hab] at h; cases h
  | true=>
  rw [hab,Ygu] at h
  split at h
  ·rename_i u xs hr
   split at h
   ·rename_i ys zs hy hz
    split at h
    ·rename_i s2 hn
     simp only [Ytu,YJu] at h
     obtain ⟨hc,rfl⟩:=h
     obtain ⟨f1,f2⟩:=fin (c:=true) (s0:=s.setRow r (.mk u .dead xs)) rfl hn
     refine ⟨s2,rfl,f1,fun σ=> ?_⟩
     rw [Ygu]
     show (match s.rows r with
      | .mk u .live xs=> match Ty.cast (.sl false u) (.sl false t) xs,(s.sl σ).tail t q with
       | some ys,some zs=> match ((s.setRow r (.mk u .dead xs)).sl σ).newRow (1024*(d+1)) t (List.take b ys++zs) with
        | some s=> some (decide ((List.take b ys).length+zs.length<=lim),s.put d (.row (1024*(d+1))))
        | none=> none
       | _,_=> none
      | _=> none)=_
     rw [hr]
     simp only [hy,YRb,hz,f2 σ,hc]
    ·cases h
   ·cases h
  ·cases h
 | _=> cases h
theorem Yqq {o:Oper} (hq:Yz1 o.op=true) {t1:St} (h:Yw E t o=some (true,t1)):Firm E t o t1:=by
 unfold Yw at h
 cases hop:o.op with
 | store ty a x=>
  simp only [hop] at h
  split at h
  ·rename_i u hu
   cases hf:fits u (t.opd E x) with
   | false=> rw [hf] at h; cases h
   | true=>
    rw [hf,Ygu] at h
    cases hs:YR3 t (t.opd E a) (t.opd E x) with
    | none=> rw [hs] at h; cases h
    | some t2=>
     rw [hs] at h
     simp only [Option.map_some,okS] at h
     cases h
     obtain ⟨e1,g1⟩:=YBt hs
     refine ⟨.undef,t2,rfl,fun n=> by rw [e1],fun s hsx hr hb=> ?_⟩
     have e2:=g1 s.slots
     rw [<-YS2 hr hb] at e2
     simp only [Yw,hop,hu]
     rw [hsx a (by rw [hop]; simp [Op.operands]),hsx x (by rw [hop]; simp [Op.operands])]
     simp only [hf,Ygu,e2]
     rfl
  ·cases h
 | call c=>
  obtain ⟨cal,cargs,cty⟩:=c
  cases cal with
  | value f=> rw [hop] at hq; simp [Yz1] at hq
  | invoke r m=> rw [hop] at hq; simp [Yz1] at hq
  | builtin b=>
   cases b with
   | append=>
    simp only [hop,YJ2] at h
    split at h
    case h_2 x y hb hargs=>
     split at h
     ·rename_i d k hd hk
      have hmem:∀ q∈[x,y],q∈o.op.operands.toList:=fun q hq=> by
       rw [hop]
       simp only [Op.operands,Call.operands]
       simpa [hargs] using hq
      have go:∀ {ty:Ty},(match ty with | .sl _ _=> true | .str=> true | _=> false)=true->((cty[1]?).bind E.ty)=some ty->YH2 t d k (t.opd E x) (t.opd E y)=some (true,t1)->Firm E t o t1:=by
       intro ty hty ht h
       obtain ⟨u,e1,e2,g1⟩:=Y0m h
       refine ⟨.row (1024*(d+1)),u,by rw [hd]; exact e1,fun n=> by rw [e2],fun s hsx hr hb=> ?_⟩
       have e3:=g1 s.slots
       rw [<-YS2 hr hb] at e3
       simp only [Yw,hop,YJ2,hargs,hd,hk,ht]
       rw [hsx x (hmem x (by simp)),hsx y (hmem y (by simp))]
       cases ty <;> first | exact e3 | cases hty
      split at h
      ·rename_i ht; exact go rfl ht h
      ·rename_i ht; exact go rfl ht h
      ·cases h
     ·cases h
    all_goals first | (rename_i hb _; cases hb) | cases h
   | _=> rw [hop] at hq; simp [Yz1] at hq
 | _=> rw [hop] at hq; simp [Yz1] at hq
end
end Go.Abs
namespace Go.Abs
section
variable {w0:World} {X0:Ent} {a:Act} {w:World} {fz:Nat->Prop} {m:Maps} {s s':St} {E:Env} {o:Oper} {R:Type}
def Yc1 (w0:World) (X0:Ent) (n:Fr) (κ:Ex->St->Option R) (r:R):Exit->Act->World->Prop
 | .normal,a,w=> n.ok a/\a.defers=n.defs/\∃ fz m s,Rel w0 X0 fz m [] s a w/\κ .normal s=some r
 | .exit id,a,w=> n.ok a/\a.defers=n.defs/\∃ fz m s,Rel w0 X0 fz m [] s a w/\κ (.exit id) s=some r
 | .ret,a,w=> n.ok a/\a.defers=n.defs/\∃ fz m s,Rel w0 X0 fz m [] s a w/\κ .ret s=some r
 | .panic chain,a,w=> n.ok a/\a.defers=n.defs/\∃ i t x s s3,YQ8 w0 X0 i t x chain s a w/\s3.rows=s.rows/\s3.boxes=s.boxes/\(∀ k,n.keep k=true->s3.slots k=s.slots k)/\κ (.pan i t x) s3=some r
 | _,_,_=> False
def YV5 (ops:Array Oper) (n:Fr):Prop:=∀ o∈ops.toList,∀ k,o.dst=some k->n.keep k=false/\k < n.size
theorem YK8 {ops:Array Oper} {g d:Nat} (h:Rel w0 X0 fz m [] s a w) (hd:(ops[g]?).bind (·.dst)=some d) (hb:s.slots d=.tnil):yielded ops a.tmps g=none:=by
 have hv:=h.slots d
 rw [hb] at hv
 have hv:a.tmps.getD d undef=.tuple #[]:=hv
 unfold yielded
 rw [hd]
 simp only [Yiu]
 rw [Array.getD_eq_getD_getElem?] at hv
 cases e:a.tmps[d]? with
 | none=> rfl
 | some v=> rw [e] at hv; have hv:v=.tuple #[]:=hv; rw [hv]
theorem Ya8 (hE:EnvOK E) {call:CallT E} (hC:∀ f x y,call f x=some y->YS E f x y) (hX:∀ b∈X0.X,¬X0.fz b) (hz:∀ b,X0.fz b->b < w0.heap.size) (hg0:Glob E w0 X0.fz) {ops:Array Oper} {n:Fr} (hn:YV5 ops n) {κ:Ex->St->Option R} {r:R} {Q:Exit->Act->World->Prop} {L2:List Nat} {l2:List Oper}
  (hQn:∀ a w,Yc1 w0 X0 n κ r .normal a w->wpOps E.P ops Q L2 a w) (hQp:∀ ch a w,Yc1 w0 X0 n κ r (.panic ch) a w->Q (.panic ch) a w):
  ∀ (l:List Oper) (i:Nat) {fz:Nat->Prop} {m:Maps} {s:St} {a:Act} {w:World},ops.toList.drop i=l++l2->n.ok a->a.defers=n.defs->Rel w0 X0 fz m [] s a w->opsC E call ops l s κ=some r->
   wpOps E.P ops Q (List.range' i l.length++L2) a w
 | [],i,fz,m,s,a,w,hl,hsz,hdf,h,hk=> hQn a w ⟨hsz,hdf,fz,m,s,h,hk⟩
 | o::l,i,fz,m,s,a,w,hl,hsz,hdf,h,hk=> by
  have hlt:i < ops.toList.length:=by
   rcases Nat.lt_or_ge i ops.toList.length with h | h
   ·exact h
   ·rw [YPu h] at hl; cases hl
  rw [Yru hlt,List.cons_append] at hl
  injection hl with ho hl
  have hget:ops[i]? =some o:=by rw [<-Y4v,Ywu hlt,ho]
  have hmem:o∈ops.toList:=ho▸ List.getElem_mem hlt
  have hd:∀ k,o.dst=some k->k < a.tmps.size:=fun k hk=> by rw [hsz.1]; exact (hn o hmem k hk).2
  have next:∀ {a':Act} {w':World},YE6 w0 X0 n a (fun s=> opsC E call ops l s κ) r a' w'->wpOps E.P ops Q (List.range' (i+1) l.length++L2) a' w':=by
   rintro a' w' ⟨h1,h2,fz',m',s',h3,h4⟩
   exact Ya8 hE hC hX hz hg0 hn hQn hQp l (i+1) hl (h1 hsz) (h2.trans hdf) h3 h4
  have run:∀ {s1:St},Rel w0 X0 fz m [] s1 a w->opC E call s1 o κ (fun s=> opsC E call ops l s κ)=some r->o.wp E.P a w (wpOps E.P ops Q (List.range' (i+1) l.length++L2)) Q:=by
   intro s1 h1 hk
   refine Oper.wp_mono (fun a' w' h=> next h) (Y78 (fun k hk=> (hn o hmem k hk).1) hE hC h1 (h1.glob hX hz hg0) hd ?_ hk)
   intro chain w' j t x s' hp hk
   exact hQp chain a w' ⟨hsz,hdf,j,t,x,s',s',hp,rfl,rfl,fun _ _=> rfl,hk⟩
  rw [Ynu,List.range'_succ,List.cons_append]
  simp only [wpOps,hget]
  unfold opsC at hk
  split at hk
  ·rename_i hgd
   have hw:Region.wanted o (yielded ops a.tmps)=true:=by simp [Region.wanted,hgd]
   rw [Yku hw]
   exact .inl (run h hk)
  ·rename_i g want hgd
   split at hk
   ·cases hk
   ·rename_i d hgdst
    have hy:∀ b,s.slots d=.val .bool b->yielded ops a.tmps g=some b:=by
     intro b hb
     have hv:=h.slots d
     rw [hb] at hv
     have hv:=hv.bool
     unfold yielded
     rw [hgdst]
     simp only [Yiu]
     have:a.tmps[d]? =some (.bool b):=by
      rw [Array.getD_eq_getD_getElem?] at hv
      cases e:a.tmps[d]? with
      | none=> rw [e] at hv; cases hv
      | some v=> rw [e] at hv; rw [<-hv]; rfl
     rw [this]
    have same:∀ b,s.slots d=.val .bool b->s.put d (.val .bool b)=s:=by
     intro b hb
     have:(fun n=> bif Nat.beq n d then PV.val .bool b else s.slots n)=s.slots:=by
      funext n
      rw [Yc2]
      by_cases e:n=d
      ·subst e; rw [Yku rfl,hb]
      ·rw [Yju e]
     unfold St.put
     rw [this]
    have skip:∀ {s1:St},Rel w0 X0 fz m [] s1 a w->opsC E call ops l (s1.putO o.dst .tnil) κ=some r->wpOps E.P ops Q (List.range' (i+1) l.length++L2) (a.put o.dst undef) w:=by
     intro s1 h1 hk
     obtain ⟨q1,q2⟩:=Yl5 (n:=n) a o.dst undef (fun k hk=> (hn o hmem k hk).1)
     exact Ya8 hE hC hX hz hg0 hn hQn hQp l (i+1) hl (q1 hsz) (q2.trans hdf) (h1.skipO hd) hk
    split at hk
    ·rename_i b hb
     have hyb:=hy b hb
     have hsb:=same b hb
     cases b <;> cases want <;> simp only [hsb] at hk
     ·have hw:Region.wanted o (yielded ops a.tmps)=true:=by simp [Region.wanted,hgd,hyb]
      rw [Yku hw]
      exact .inl (run h hk)
     ·have hw:¬(Region.wanted o (yielded ops a.tmps)=true):=by simp [Region.wanted,hgd,hyb]
      rw [Yju hw]
      exact skip h hk
     ·have hw:¬(Region.wanted o (yielded ops a.tmps)=true):=by simp [Region.wanted,hgd,hyb]
      rw [Yju hw]
      exact skip h hk
     ·have hw:Region.wanted o (yielded ops a.tmps)=true:=by simp [Region.wanted,hgd,hyb]
      rw [Yku hw]
      exact .inl (run h hk)
    ·rename_i hb
     have hyn:=YK8 h hgdst hb
     have hw:¬(Region.wanted o (yielded ops a.tmps)=true):=by simp [Region.wanted,hgd,hyn]
     rw [Yju hw]
     exact skip h hk
    ·cases hk
theorem YXr (hE:EnvOK E) {call:CallT E} (hC:∀ f x y,call f x=some y->YS E f x y) (hX:∀ b∈X0.X,¬X0.fz b) (hz:∀ b,X0.fz b->b < w0.heap.size) (hg0:Glob E w0 X0.fz) {ops:Array Oper} {n:Fr} (hn:YV5 ops n) {κ:Ex->St->Option R} {r:R}:
  ∀ (l:List Oper) (i:Nat) {fz:Nat->Prop} {m:Maps} {s:St} {a:Act} {w:World},ops.toList.drop i=l->n.ok a->a.defers=n.defs->Rel w0 X0 fz m [] s a w->opsC E call ops l s κ=some r->
   wpOps E.P ops (Yc1 w0 X0 n κ r) (List.range' i l.length) a w:=
 by
  intro l i fz m s a w hl h2 h3 h hk
  have:=Ya8 (Q:=Yc1 w0 X0 n κ r) (L2:=[]) (l2:=[]) hE hC hX hz hg0 hn (fun a w h=> h) (fun ch a w h=> h) l i (by rw [YHu]; exact hl) h2 h3 h hk
  rw [YHu] at this
  exact this
end
end Go.Abs
