/- Part K7 of the proof: see the last text of the claim. No condition of its own. -/
import Derived.Scope
import Derived.Test.YtddagflhafkbnaaGreatDoorK6
set_option linter.all false
set_option autoImplicit false
namespace Go.Abs
def LoopWp (P:Program) (c:Code) (Q:Exit->Act->World->Prop) (a:Act) (w:World):Prop:=
 ∀ (b:Frame) (k:List Go.Item) (cs:List Frame),∃ e a' w',Q e a' w'/\Arrives P (lone (b.at a (.code c::.inLoop c::k)) cs w) b k cs e a' w'
theorem LoopWp.wp {P:Program} {c:Code} {Q:Exit->Act->World->Prop} {a:Act} {w:World} (h:LoopWp P c Q a w):(Code.loop c).wp P Q a w:=by
 intro b k cs
 obtain ⟨e,a',w',hq,harr⟩:=h b k cs
 exact ⟨e,a',w',hq,.of_steps (.one step_loop) harr⟩
theorem LoopWp.unroll {P:Program} {c:Code} {Q:Exit->Act->World->Prop} {a:Act} {w:World} (h:c.wp P (Exit.then (LoopWp P c Q) Q) a w):LoopWp P c Q a w:=by
 intro b k cs
 obtain ⟨e,a₁,w₁,hq,harr⟩:=h b (.inLoop c::k) cs
 cases e with
 | normal=>
  obtain ⟨e₂,a₂,w₂,hq₂,harr₂⟩:=hq b k cs
  exact ⟨e₂,a₂,w₂,hq₂,.of_steps (Steps.trans harr (.one step_inLoop)) harr₂⟩
 | exit id=> exact ⟨_,a₁,w₁,hq,.pass (x:=.inLoop c) rfl (fun _ _=> .inl (by simp)) harr⟩
 | goto l=> exact ⟨_,a₁,w₁,hq,.pass (x:=.inLoop c) rfl (fun _ _=> .inl (by simp)) harr⟩
 | ret=> exact ⟨_,a₁,w₁,hq,.pass (x:=.inLoop c) rfl (fun _ _=> .inl (by simp)) harr⟩
 | panic ch=> exact ⟨_,a₁,w₁,hq,.pass (x:=.inLoop c) rfl (fun _ _=> .inl (by simp)) harr⟩
 | outgrown=> exact ⟨_,a₁,w₁,hq,.pass (x:=.inLoop c) rfl (fun _ _=> .inl (by simp)) harr⟩
def YR (P:Program) (Q:Exit->Act->World->Prop):List Item->Exit->Act->World->Prop
 | [],e,a,w=> Q e a w
 | .code c::r,e,a,w=> match e with
  | .normal=> c.wp P (YR P Q r) a w
  | e=> YR P Q r e a w
 | .inBlock id::r,e,a,w=> match e with
  | .exit i=> if i=id then YR P Q r .normal a w else YR P Q r (.exit i) a w
  | e=> YR P Q r e a w
 | .inScope::r,e,a,w=> match e with
  | .goto _=> False
  | e=> YR P Q r e a w
 | .inLoop c::r,e,a,w=> match e with
  | .normal=> LoopWp P c (YR P Q r) a w
  | e=> YR P Q r e a w
 | .join _::r,e,a,w=> YR P Q r e a w
 | .branch c x y::r,e,a,w=> match e with
  | .normal=> (Code.cond c x y).wp P (YR P Q r) a w
  | e=> YR P Q r e a w
def Ym1 (ord:Nat->Array Oper->Bool) (n:Fr):Code->Prop
 | .region id ops draw=> YV5 ops n/\(draw=true->ord id ops=true)
 | .seq a b=> Ym1 ord n a/\Ym1 ord n b
 | .cond _ x y=> Ym1 ord n x/\Ym1 ord n y
 | .block _ b=> Ym1 ord n b
 | .scope b=> Ym1 ord n b
 | .loop b=> Ym1 ord n b
 | _=> True
section
variable {w0:World} {X0:Ent} {E:Env} {R:Type} {jump:JumpT R} {call:CallT E} {N:FuncId} {n:Fr} {y:R} {Q0:Exit->Act->World->Prop}
def Here (w0:World) (X0:Ent) (n:Fr) (s:St) (a:Act) (w:World):Prop:=n.ok a/\a.defers=n.defs/\∃ fz m,Rel w0 X0 fz m [] s a w
def Yo1 (ord:Nat->Array Oper->Bool) (n:Fr):List Item->Prop
 | []=> True
 | .code c::r=> Ym1 ord n c/\Yo1 ord n r
 | .inLoop c::r=> Ym1 ord n c/\Yo1 ord n r
 | .branch _ x z::r=> Ym1 ord n x/\Ym1 ord n z/\Yo1 ord n r
 | _::r=> Yo1 ord n r
theorem Yd5 (hN:∀ (live:Live) (s s':St) (a:Act) (w:World),norm live s=some s'->Here w0 X0 n s a w->Here w0 X0 n s' a w) {live:Live} {s:St} {a:Act} {w:World} {r:List Item}
  (hJ:∀ r s a w,Yo1 (Ya1 E N) n r->Here w0 X0 n s a w->jump r s=some y->YR E.P Q0 r .normal a w) (hi:Yo1 (Ya1 E N) n r) (h:Here w0 X0 n s a w) (hk:(match norm live s with
   | some s=> jump r s
   | none=> none)=some y):YR E.P Q0 r .normal a w:=by
 split at hk
 ·rename_i s' hn
  exact hJ r s' a w hi (hN live s s' a w hn h) hk
 ·cases hk
theorem Y05 (hE:EnvOK E) (hC:∀ f x y,call f x=some y->YS E f x y) (hX:∀ b∈X0.X,¬X0.fz b) (hz:∀ b,X0.fz b->b < w0.heap.size) (hg0:Glob E w0 X0.fz)
  (hN:∀ (live:Live) (s s':St) (a:Act) (w:World),norm live s=some s'->Here w0 X0 n s a w->Here w0 X0 n s' a w)
  (hJ:∀ r s a w,Yo1 (Ya1 E N) n r->Here w0 X0 n s a w->jump r s=some y->YR E.P Q0 r .normal a w):
  ∀ (c:Code),Ym1 (Ya1 E N) n c->∀ (s:St) (κ:Ex->St->Option R) (r:List Item) (a:Act) (w:World),Yo1 (Ya1 E N) n r->Here w0 X0 n s a w->(∀ e a w,Yc1 w0 X0 n κ y e a w->YR E.P Q0 r e a w)->
   execC E jump call N c s κ r=some y->c.wp E.P (YR E.P Q0 r) a w:=by
 intro c
 induction c with
 | skip=>
  intro _ s κ r a w hi ⟨h1,h2,fz,m,h3⟩ hκ hk
  exact wp_skip (hκ .normal a w ⟨h1,h2,fz,m,s,h3,hk⟩)
 | exit id=>
  intro _ s κ r a w hi ⟨h1,h2,fz,m,h3⟩ hκ hk
  exact wp_exit (hκ (.exit id) a w ⟨h1,h2,fz,m,s,h3,hk⟩)
 | ret=>
  intro _ s κ r a w hi ⟨h1,h2,fz,m,h3⟩ hκ hk
  exact wp_ret (hκ .ret a w ⟨h1,h2,fz,m,s,h3,hk⟩)
 | region id ops draw=>
  intro ⟨hd,hdr⟩ s κ r a w hi ⟨h1,h2,fz,m,h3⟩ hκ hk
  cases draw with
  | true=>
   have hok:=hdr rfl
   unfold Ya1 at hok
   simp only [execC] at hk
   split at hok
   ·rename_i l hl
    rw [hl] at hk
    exact wp_mono (YHs (id:=id) hE hC hX hz hg0 hd (OrdOk.of hok) h1 h2 h3 hk) hκ
   ·cases hok
  | false=>
   have:=YXr hE hC hX hz hg0 hd ops.toList 0 rfl h1 h2 h3 (κ:=κ) (r:=y) hk
   refine wp_mono (wp_region (Q:=Yc1 w0 X0 n κ y) ?_) hκ
   rw [List.range_eq_range',<-YYu]
   exact this
 | seq x z ihx ihz=>
  intro ⟨hx,hz'⟩ s κ r a w hi h hκ hk
  refine wp_seq (wp_mono (ihx hx s _ (.code z::r) a w ⟨hz',hi⟩ h ?_ hk) ?_)
  ·intro e a w he
   cases e with
   | normal=> obtain ⟨h1,h2,fz,m,s,h3,hk⟩:=he; exact ihz hz' s κ r a w hi ⟨h1,h2,fz,m,h3⟩ hκ hk
   | exit id=> exact hκ _ a w he
   | ret=> exact hκ _ a w he
   | panic ch=> exact hκ _ a w he
   | goto l=> cases he
   | outgrown=> cases he
  ·intro e a w he
   cases e <;> exact he
 | block id b ih=>
  intro hb s κ r a w hi h hκ hk
  refine wp_block (wp_mono (ih hb s _ (.inBlock id::r) a w hi h ?_ hk) ?_)
  ·intro e a w he
   cases e with
   | normal=> obtain ⟨h1,h2,fz,m,s,h3,hk⟩:=he; exact hκ .normal a w ⟨h1,h2,fz,m,s,h3,hk⟩
   | exit i=>
    obtain ⟨h1,h2,fz,m,s,h3,hk⟩:=he
    show if i=id then YR E.P Q0 r .normal a w else YR E.P Q0 r (.exit i) a w
    simp only [Yc2] at hk
    by_cases e:i=id
    ·rw [Yku e] at hk ⊢; exact hκ .normal a w ⟨h1,h2,fz,m,s,h3,hk⟩
    ·rw [Yju e] at hk ⊢; exact hκ (.exit i) a w ⟨h1,h2,fz,m,s,h3,hk⟩
   | ret=> exact hκ _ a w he
   | panic ch=> exact hκ _ a w he
   | goto l=> cases he
   | outgrown=> cases he
  ·intro e a w he
   cases e <;> exact he
 | scope b ih=>
  intro hb s κ r a w hi h hκ hk
  refine wp_scope_straight (wp_mono (ih hb s κ (.inScope::r) a w hi h ?_ hk) ?_)
  ·intro e a w he
   cases e with
   | normal=> exact hκ _ a w he
   | exit id=> exact hκ _ a w he
   | ret=> exact hκ _ a w he
   | panic ch=> exact hκ _ a w he
   | goto l=> cases he
   | outgrown=> cases he
  ·intro e a w he
   cases e <;> exact he
 | loop b ih=>
  intro hb s κ r a w hi h hκ hk
  simp only [execC] at hk
  split at hk
  ·exact LoopWp.wp (Yd5 hN hJ (r:=.inLoop b::r) ⟨hb,hi⟩ h hk)
  ·cases hk
 | cond c x z ihx ihz=>
  intro ⟨hx,hz'⟩ s κ r a w hi h hκ hk
  simp only [execC] at hk
  have branch:∀ (κ':Ex->St->Option R) (r':List Item),Yo1 (Ya1 E N) n r'->(∀ e a w,Yc1 w0 X0 n κ' y e a w->YR E.P Q0 r' e a w)->
    execC.branchC (R:=R) s (s.opd E c) (fun s κ r=> execC E jump call N x s κ r) (fun s κ r=> execC E jump call N z s κ r) κ' r'=some y->(Code.cond c x z).wp E.P (YR E.P Q0 r') a w:=by
   intro κ' r' hi' hκ' hk
   obtain ⟨h1,h2,fz,m,h3⟩:=id h
   have hcv:=h3.opd (h3.glob hX hz hg0) c
   unfold execC.branchC at hk
   split at hk
   ·rename_i b hb
    rw [hb] at hcv
    have hcv:=hcv.bool
    split at hk
    ·exact wp_cond_true hcv (ihx hx s κ' r' a w hi' h hκ' hk)
    ·exact wp_cond_false hcv (ihz hz' s κ' r' a w hi' h hκ' hk)
   ·cases hk
  split at hk
  ·exact Yd5 hN hJ (r:=.branch c x z::r) ⟨hx,hz',hi⟩ h hk
  ·split at hk
   ·rename_i l hl
    refine wp_mono (branch _ (.join l::r) hi ?_ hk) (fun e a w he=> he)
    intro e a w he
    cases e with
    | normal=> obtain ⟨h1,h2,fz,m,s,h3,hk⟩:=he; exact Yd5 (r:=r) hN hJ hi ⟨h1,h2,fz,m,h3⟩ hk
    | exit id=> exact hκ _ a w he
    | ret=> exact hκ _ a w he
    | panic ch=> exact hκ _ a w he
    | goto l=> cases he
    | outgrown=> cases he
   ·exact branch κ r hi hκ hk
 | _=> intro _ s κ r a w hi h hκ hk; simp [execC] at hk
theorem YO3 (hE:EnvOK E) (hC:∀ f x y,call f x=some y->YS E f x y) (hX:∀ b∈X0.X,¬X0.fz b) (hz:∀ b,X0.fz b->b < w0.heap.size) (hg0:Glob E w0 X0.fz)
  (hN:∀ (live:Live) (s s':St) (a:Act) (w:World),norm live s=some s'->Here w0 X0 n s a w->Here w0 X0 n s' a w)
  (hJ:∀ r s a w,Yo1 (Ya1 E N) n r->Here w0 X0 n s a w->jump r s=some y->YR E.P Q0 r .normal a w)
  {fin:Ex->St->Option R} (hF:∀ e a w,Yc1 w0 X0 n fin y e a w->Q0 e a w):
  ∀ (r:List Item),Yo1 (Ya1 E N) n r->∀ e a w,Yc1 w0 X0 n (Y91 E jump call N fin r) y e a w->YR E.P Q0 r e a w
 | [],_,e,a,w,h=> hF e a w h
 | .code c::r,hi,e,a,w,h=> by
  have ih:=YO3 hE hC hX hz hg0 hN hJ hF r hi.2
  cases e with
  | normal=> obtain ⟨h1,h2,fz,m,s,h3,hk⟩:=h; exact Y05 hE hC hX hz hg0 hN hJ c hi.1 s _ r a w hi.2 ⟨h1,h2,fz,m,h3⟩ ih hk
  | exit id=> exact ih _ a w h
  | ret=> exact ih _ a w h
  | panic ch=> exact ih _ a w h
  | goto l=> cases h
  | outgrown=> cases h
 | .inBlock id::r,hi,e,a,w,h=> by
  have ih:=YO3 hE hC hX hz hg0 hN hJ hF r hi
  cases e with
  | normal=> exact ih _ a w h
  | exit i=>
   obtain ⟨h1,h2,fz,m,s,h3,hk⟩:=h
   show if i=id then YR E.P Q0 r .normal a w else YR E.P Q0 r (.exit i) a w
   simp only [Y91,Yc2] at hk
   by_cases e:i=id
   ·rw [Yku e] at hk ⊢; exact ih .normal a w ⟨h1,h2,fz,m,s,h3,hk⟩
   ·rw [Yju e] at hk ⊢; exact ih (.exit i) a w ⟨h1,h2,fz,m,s,h3,hk⟩
  | ret=> exact ih _ a w h
  | panic ch=> exact ih _ a w h
  | goto l=> cases h
  | outgrown=> cases h
 | .inScope::r,hi,e,a,w,h=> by
  have ih:=YO3 hE hC hX hz hg0 hN hJ hF r hi
  cases e with
  | normal=> exact ih _ a w h
  | exit i=> exact ih _ a w h
  | ret=> exact ih _ a w h
  | panic ch=> exact ih _ a w h
  | goto l=> cases h
  | outgrown=> cases h
 | .inLoop b::r,hi,e,a,w,h=> by
  have ih:=YO3 hE hC hX hz hg0 hN hJ hF r hi.2
  cases e with
  | normal=>
   obtain ⟨h1,h2,fz,m,s,h3,hk⟩:=h
   simp only [Y91] at hk
   split at hk
   ·exact Yd5 hN hJ (r:=.inLoop b::r) hi ⟨h1,h2,fz,m,h3⟩ hk
   ·cases hk
  | exit id=> exact ih _ a w h
  | ret=> exact ih _ a w h
  | panic ch=> exact ih _ a w h
  | goto l=> cases h
  | outgrown=> cases h
 | .join l::r,hi,e,a,w,h=> by
  have ih:=YO3 hE hC hX hz hg0 hN hJ hF r hi
  cases e with
  | normal=>
   obtain ⟨h1,h2,fz,m,s,h3,hk⟩:=h
   exact Yd5 (r:=r) hN hJ hi ⟨h1,h2,fz,m,h3⟩ hk
  | exit id=> exact ih _ a w h
  | ret=> exact ih _ a w h
  | panic ch=> exact ih _ a w h
  | goto l=> cases h
  | outgrown=> cases h
 | .branch c x z::r,hi,e,a,w,h=> by
  cases e with
  | normal=> obtain ⟨h1,h2,fz,m,s,h3,hk⟩:=h; cases hk
  | exit id=> obtain ⟨h1,h2,fz,m,s,h3,hk⟩:=h; cases hk
  | ret=> obtain ⟨h1,h2,fz,m,s,h3,hk⟩:=h; cases hk
  | panic ch=> obtain ⟨h0,h1,i,t,x,s,s3,h3,e1,e2,e3,hk⟩:=h; cases hk
  | goto l=> cases h
  | outgrown=> cases h
end
end Go.Abs
namespace Go.Abs
section
variable {w0:World} {X0:Ent} {E:Env} {R:Type} {jump:JumpT R} {call:CallT E} {N:FuncId} {n:Fr} {y:R} {Q0:Exit->Act->World->Prop}
theorem YKp (hE:EnvOK E) (hC:∀ f x y,call f x=some y->YS E f x y) (hX:∀ b∈X0.X,¬X0.fz b) (hz:∀ b,X0.fz b->b < w0.heap.size) (hg0:Glob E w0 X0.fz)
  (hN:∀ (live:Live) (s s':St) (a:Act) (w:World),norm live s=some s'->Here w0 X0 n s a w->Here w0 X0 n s' a w)
  (hJ:∀ r s a w,Yo1 (Ya1 E N) n r->Here w0 X0 n s a w->jump r s=some y->YR E.P Q0 r .normal a w)
  {c:Operand} {x z:Code} (hx:Ym1 (Ya1 E N) n x) (hzc:Ym1 (Ya1 E N) n z) {s:St} {κ:Ex->St->Option R} {r:List Item} {a:Act} {w:World} (hi:Yo1 (Ya1 E N) n r) (h:Here w0 X0 n s a w)
  (hκ:∀ e a w,Yc1 w0 X0 n κ y e a w->YR E.P Q0 r e a w) (hk:YS4 E jump call N c x z s κ r=some y):(Code.cond c x z).wp E.P (YR E.P Q0 r) a w:=by
 obtain ⟨h1,h2,fz,m,h3⟩:=id h
 have hcv:=h3.opd (h3.glob hX hz hg0) c
 have joinK:∀ l,∀ e a w,Yc1 w0 X0 n (fun e s=> match e with
    | .normal=> match norm l s with
     | some s=> jump r s
     | none=> none
    | e=> κ e s) y e a w->YR E.P Q0 (.join l::r) e a w:=by
  intro l e a w he
  cases e with
  | normal=> obtain ⟨h1,h2,fz,m,s,h3,hk⟩:=he; exact Yd5 (r:=r) hN hJ hi ⟨h1,h2,fz,m,h3⟩ hk
  | exit id=> exact hκ _ a w he
  | ret=> exact hκ _ a w he
  | panic ch=> exact hκ _ a w he
  | goto l=> cases he
  | outgrown=> cases he
 unfold YS4 at hk
 split at hk
 ·rename_i l hl
  split at hk
  ·rename_i b hb
   rw [hb] at hcv
   have hcv:=hcv.bool
   split at hk
   ·exact wp_cond_true hcv (wp_mono (Y05 hE hC hX hz hg0 hN hJ x hx s _ (.join l::r) a w hi h (joinK l) hk) (fun e a w he=> he))
   ·exact wp_cond_false hcv (wp_mono (Y05 hE hC hX hz hg0 hN hJ z hzc s _ (.join l::r) a w hi h (joinK l) hk) (fun e a w he=> he))
  ·cases hk
 ·split at hk
  ·rename_i b hb
   rw [hb] at hcv
   have hcv:=hcv.bool
   split at hk
   ·exact wp_cond_true hcv (Y05 hE hC hX hz hg0 hN hJ x hx s κ r a w hi h hκ hk)
   ·exact wp_cond_false hcv (Y05 hE hC hX hz hg0 hN hJ z hzc s κ r a w hi h hκ hk)
  ·cases hk
theorem YOt (hE:EnvOK E) (hC:∀ f x y,call f x=some y->YS E f x y) (hX:∀ b∈X0.X,¬X0.fz b) (hz:∀ b,X0.fz b->b < w0.heap.size) (hg0:Glob E w0 X0.fz)
  (hN:∀ (live:Live) (s s':St) (a:Act) (w:World),norm live s=some s'->Here w0 X0 n s a w->Here w0 X0 n s' a w)
  (hJ:∀ r s a w,Yo1 (Ya1 E N) n r->Here w0 X0 n s a w->jump r s=some y->YR E.P Q0 r .normal a w)
  {fin:Ex->St->Option R} (hF:∀ e a w,Yc1 w0 X0 n fin y e a w->Q0 e a w) {r:List Item} {s:St} {a:Act} {w:World} (hi:Yo1 (Ya1 E N) n r) (h:Here w0 X0 n s a w)
  (hk:topF E jump call N fin r s=some y):YR E.P Q0 r .normal a w:=by
 have other:∀ r,Yo1 (Ya1 E N) n r->Y91 E jump call N fin r .normal s=some y->YR E.P Q0 r .normal a w:=fun r hi hk=> by
  obtain ⟨h1,h2,fz,m,h3⟩:=id h
  exact YO3 hE hC hX hz hg0 hN hJ hF r hi .normal a w ⟨h1,h2,fz,m,s,h3,hk⟩
 unfold topF at hk
 split at hk
 ·rename_i b r
  have:=Y05 hE hC hX hz hg0 hN hJ b hi.1 s _ (.inLoop b::r) a w hi h (YO3 hE hC hX hz hg0 hN hJ hF (.inLoop b::r) hi) hk
  refine LoopWp.unroll (wp_mono this ?_)
  intro e a w he
  cases e <;> exact he
 ·rename_i c x z r
  exact YKp hE hC hX hz hg0 hN hJ hi.1 hi.2.1 hi.2.2 h (YO3 hE hC hX hz hg0 hN hJ hF r hi.2.2) hk
 ·exact other r hi hk
end
end Go.Abs
namespace Go.Abs
section
variable {w0:World} {X0:Ent} {a:Act} {w:World} {fz:Nat->Prop} {m:Maps} {s s':St}
theorem Rel.slot {Y:List Nat} (h:Rel w0 X0 fz m Y s a w) {t:Nat} {p:PV} (hv:RepS w fz m s p (a.tmps.getD t undef)):Rel w0 X0 fz m Y (s.put t p) a w:=by
 have hs:StLe s (s.put t p):=StLe.of_eq rfl rfl
 refine ⟨fun k=> ?_,h.rows,h.rowsF,fun b T o c hb ho=> ?_,h.iters,h.hand,h.own,h.fzs,h.keep,h.fz0s⟩
 ·rw [Y71]
  by_cases e:k=t
  ·subst e
   rw [Yku rfl]
   exact RepS.le hs (MapsLe.refl _ _) (fun _ _=> rfl) (fun _ h=> h) hv
  ·rw [Yju e]
   exact RepS.le hs (MapsLe.refl _ _) (fun _ _=> rfl) (fun _ h=> h) (h.slots k)
 ·obtain ⟨cs,el,fr,h1,h2,h3,h4,h5,h6⟩:=h.boxes b T o c hb ho
  exact ⟨cs,el,fr,h1,RepP.le hs (MapsLe.refl _ _) (fun _ _=> rfl) (fun _ h=> h) h2,h3,h4,h5,h6⟩
theorem YNp (h:Rel w0 X0 fz m [] s a w) {t:Nat} {c:Conv} (hc:Yka s t c=some s'):∃ fz' m',Rel w0 X0 fz' m' [] s' a w:=by
 have hv:=h.slots t
 unfold Yka at hc
 split at hc
 ·cases hc; exact ⟨fz,m,h⟩
 ·-- as it is,for good
  split at hc
  ·cases hc; exact ⟨fz,m,h⟩
  ·rename_i r hs
   rw [hs] at hv
   obtain ⟨cs,⟨rfl,hp2,hp3⟩,hve⟩:=hv
   split at hc
   ·cases hc
   ·rename_i u o xs hno hr
    cases hu:u.pure with
    | false=> rw [hu] at hc; cases hc
    | true=>
     rw [hu,Ygu] at hc
     cases hc
     have ho:o≠.dead:=by rintro rfl; first | exact hno _ _ hr | exact hno _ hr | exact hno hr | exact hno _ _ rfl | exact hno _ rfl | exact hno rfl
     cases o with
     | dead=> exact absurd rfl ho
     | live=>
      obtain ⟨g1,_⟩:=h.freezeRow hr hu
      have e1:s.freezeRow r=s.setRow r (.mk u .frz xs):=by simp only [St.freezeRow,hr]
      rw [e1]
      refine ⟨_,_,g1.slot ⟨[m.ρ r],⟨by simp [Ty.pure,hu],(Rep.freeze hu (h.rows r u xs hr).1)⟩,hve⟩⟩
     | frz=>
      have e1:s.freezeRow r=s:=by simp only [St.freezeRow,hr]
      rw [e1]
      exact ⟨fz,m,h.slot ⟨[m.ρ r],⟨by simp [Ty.pure,hu],(h.rowsF r u xs hr).2⟩,hve⟩⟩
   ·cases hc
  ·rename_i r lo hi hs
   rw [hs] at hv
   obtain ⟨cs,⟨u1,o1,xs1,hr1,hlo,hhi,hpart⟩,hve⟩:=hv
   rw [hr1] at hc
   cases hu:u1.pure with
   | false=> cases o1 <;> simp [hu] at hc
   | true=>
    cases o1 with
    | dead=> cases hc
    | live=>
     simp only [hu,Ygu] at hc
     cases hc
     obtain ⟨g1,_⟩:=h.freezeRow hr1 hu
     have e1:s.freezeRow r=s.setRow r (.mk u1 .frz xs1):=by simp only [St.freezeRow,hr1]
     rw [e1]
     exact ⟨_,_,g1.slot ⟨cs,⟨by simp [Ty.pure,hu],Rep.part hu (Rep.freeze hu (h.rows r u1 xs1 hr1).1) hlo hhi hpart⟩,hve⟩⟩
    | frz=>
     simp only [hu,Ygu] at hc
     cases hc
     have e1:s.freezeRow r=s:=by simp only [St.freezeRow,hr1]
     rw [e1]
     exact ⟨fz,m,h.slot ⟨cs,⟨by simp [Ty.pure,hu],Rep.part hu (h.rowsF r u1 xs1 hr1).2 hlo hhi hpart⟩,hve⟩⟩
  ·cases hc
 ·-- a row of its own
  rename_i u
  split at hc
  ·cases hc; exact ⟨fz,m,h⟩
  ·rename_i hs
   rw [hs] at hv
   obtain ⟨s1,h1,rfl⟩:=YKu.1 hc
   obtain ⟨hid,rfl⟩:=YK1 h1
   obtain ⟨m',g1,g2⟩:=YM7 (v:=.slice none 0 0) (t:=u) (xs:=[]) h hid (.inl ⟨rfl,rfl,rfl⟩)
   have hve:=hv.nils
   exact ⟨fz,m',g1.slot (YAb (Yz8 _ _ _) (g2.trans hve.symm) (by rw [hve]; trivial))⟩
  ·rename_i r hi hs
   rw [hs] at hv
   obtain ⟨cs,⟨u1,o1,xs1,hr1,hlo,hhi,hpart⟩,hve⟩:=hv
   rw [hr1] at hc
   cases o1 with
   | dead=> cases hc
   | frz=> cases hc
   | live=>
    cases hu:u1.pure with
    | false=> simp [hu] at hc
    | true=>
     simp only [hu,Ygu] at hc
     obtain ⟨s1,h1,rfl⟩:=YKu.1 hc
     obtain ⟨hid,rfl⟩:=YK1 h1
     obtain ⟨k1,k2⟩:=h.takeRow hr1
     rw [YHu] at k1
     have hR:∀ x cs X,Rep w fz u1 x cs X->cs.length=u1.size/\X=[]:=fun x cs X h=> ⟨Rep.length u1 h,Rep.pure u1 hu h⟩
     obtain ⟨v',rfl⟩:∃ v',cs=[v']:=by
      rcases hpart with ⟨_,rfl,_⟩ | ⟨_,_,rfl,_⟩ | ⟨_,_,_,_,_,_,_,rfl,_⟩ <;> exact ⟨_,rfl⟩
     have hve:a.tmps.getD t undef=v':=hve
     have hrep:Rep w fz (.sl true u1) (xs1.take hi) [v'] (m.φ r):=Rep.partOwn hu hhi (h.rows r u1 xs1 hr1).1 hpart
     obtain ⟨m',g1,g2⟩:=YM7 k1 hid hrep
     have hc':YZ v':=Rep.cells _ hrep v' (by simp)
     exact ⟨fz,m',g1.slot (YAb (Yz8 _ _ _) (g2.trans hve.symm) (by rw [hve]; exact hc'))⟩
  ·cases hc
end
end Go.Abs
namespace Go.Abs
theorem Yf6 {n k:Nat}:∀ {l:List Nat},place n l=some k->l[k]? =some n
 | [],h=> by cases h
 | m::l,h=> by
  simp only [place,Yc2] at h
  by_cases e:n=m
  ·rw [Yku e] at h; cases h; simp [e]
  ·rw [Yju e] at h
   split at h
   ·rename_i j hj; cases h; simpa using Yf6 hj
   ·cases h
theorem Yl8:∀ {l:List Nat} {k n:Nat},Yz3 l=true->l[k]? =some n->place n l=some k
 | [],k,n,_,h=> by simp at h
 | m::l,0,n,_,h=> by
  simp only [List.getElem?_cons_zero,Ytu] at h
  simp [place,h]
 | m::l,k+1,n,hd,h=> by
  simp only [List.getElem?_cons_succ] at h
  simp only [Yz3,Ylu,YXu] at hd
  have hne:n≠m:=by
   rintro rfl
   exact Y89 hd.1 (List.mem_of_getElem? h)
  simp only [place,Yc2,Yju hne,Yl8 hd.2 h]
theorem YZg:∀ (l:List RowE) (k:Nat),Yd l k=(l[k]?).getD .none
 | [],k=> by simp [Yd]
 | e::l,0=> by simp [Yd]
 | e::l,k+1=> by simp [Yd,YZg l k]
theorem Y58:∀ (l:List BoxE) (k:Nat),Yc l k=(l[k]?).getD .none
 | [],k=> by simp [Yc]
 | e::l,0=> by simp [Yc]
 | e::l,k+1=> by simp [Yc,Y58 l k]
theorem YJh {mt:Met} {s:St}:∀ {l:Live} {sl:List (Nat×PV)},Yp8 mt s l=some sl->∀ t,Y7 sl t=.undef\/YC mt (s.slots t)=some (Y7 sl t)
 | [],_,h,t=> by cases h; exact .inl rfl
 | (u,c)::l,sl,h,t=> by
  simp only [Yp8] at h
  split at h
  ·rename_i v vs hv hvs
   cases h
   simp only [Y7,Yc2]
   by_cases e:t=u
   ·subst e; rw [Yku rfl]; exact .inr hv
   ·rw [Yju e]; exact YJh hvs t
  ·cases h
theorem Yn5 {mt:Met} {s:St}:∀ {l:List Nat} {bx:List BoxE},Ym5 mt s l=some bx->∀ {k b:Nat},l[k]? =some b->
  (∃ T o c c',s.boxes b=.cells T o c/\bx[k]? =some (.cells T o c')/\YC mt c=some c')\/(∃ x n,s.boxes b=.iter x n/\bx[k]? =some (.iter x n))
 | [],_,_,k,b,hk=> by simp at hk
 | b0::l,bx,h,k,b,hk=> by
  simp only [Ym5] at h
  split at h
  ·rename_i T v c es hb hes
   split at h
   ·rename_i c' hc
    cases h
    cases k with
    | zero=> simp only [List.getElem?_cons_zero,Ytu] at hk; subst hk; exact .inl ⟨T,v,c,c',hb,rfl,hc⟩
    | succ k=> simp only [List.getElem?_cons_succ] at hk ⊢; exact Yn5 hes hk
   ·cases h
  ·rename_i x n es hb hes
   cases h
   cases k with
   | zero=> simp only [List.getElem?_cons_zero,Ytu] at hk; subst hk; exact .inr ⟨x,n,hb,rfl⟩
   | succ k=> simp only [List.getElem?_cons_succ] at hk ⊢; exact Yn5 hes hk
  ·cases h
theorem Yvb {mt:Met} {s:St}:∀ {l:List Nat} {bx:List BoxE},Ym5 mt s l=some bx->bx.length=l.length
 | [],_,h=> by cases h; rfl
 | b0::l,bx,h=> by
  simp only [Ym5] at h
  split at h
  ·rename_i T v c es hb hes
   split at h
   ·cases h; simp [Yvb hes]
   ·cases h
  ·rename_i x n es hb hes
   cases h; simp [Yvb hes]
  ·cases h
theorem YIs {mt:Met}:∀ {T:Ty} {p p':PV},YC mt p=some p'->fits T p=fits T p':=by
 intro T p
 induction p generalizing T with
 | pair a b iha ihb=>
  intro p' h
  simp only [YC] at h
  split at h
  ·rename_i x z hx hz
   cases h
   cases T <;> first | rfl | (simp only [fits]; rw [iha hx,ihb hz])
  ·cases h
 | st a ih=>
  intro p' h
  simp only [YC] at h
  split at h
  ·rename_i x hx
   cases h
   cases T <;> first | rfl | (simp only [fits]; rw [ih hx])
  ·cases h
 | tcons a b _ _=>
  intro p' h
  simp only [YC] at h
  split at h
  ·cases h; cases T <;> rfl
  ·cases h
 | cl f n a _=>
  intro p' h
  simp only [YC] at h
  split at h
  ·cases h; cases T <;> rfl
  ·cases h
 | ifc t a _=>
  intro p' h
  simp only [YC] at h
  split at h
  ·cases h; cases T <;> rfl
  ·cases h
 | row r=>
  intro p' h
  simp only [YC] at h
  split at h
  ·cases h; cases T <;> rfl
  ·cases h
 | part r lo hi=>
  intro p' h
  simp only [YC] at h
  split at h
  ·cases h; cases T <;> rfl
  ·cases h
 | addr b path=>
  intro p' h
  simp only [YC] at h
  split at h
  ·cases h; cases T <;> rfl
  ·cases h
 | bpart b path lo hi=>
  intro p' h
  simp only [YC] at h
  split at h
  ·cases h; cases T <;> rfl
  ·cases h
 | _=> intro p' h; cases h; rfl
theorem Ywb {mt:Met} {p p':PV} (h:YC mt p=some p'):p.isAgg=p'.isAgg:=by
 cases p <;> simp only [YC] at h <;> (try split at h) <;> first | (cases h; rfl) | cases h
section
variable {w0:World} {X0:Ent} {a:Act} {w:World} {fz:Nat->Prop} {m:Maps} {s s':St}
structure Ren (mt:Met) (m m':Maps) (s s':St):Prop where
 row:∀ r k,place r mt.rows=some k->s'.rows k=s.rows r/\m'.ρ k=m.ρ r
 box:∀ b k,place b mt.boxes=some k->m'.γ k=m.γ b
 cells:∀ b k T o c,place b mt.boxes=some k->s.boxes b=.cells T o c->∃ c',s'.boxes k=.cells T o c'
 iter:∀ b k l n,place b mt.boxes=some k->s.boxes b=.iter l n->s'.boxes k=.iter l n
theorem RepP.ren {mt:Met} {m':Maps} (hr:Ren mt m m' s s'):∀ {p p':PV},YC mt p=some p'->∀ {cs:List Value},RepP w fz m s p cs->RepP w fz m' s' p' cs:=by
 intro p
 induction p with
 | pair a b iha ihb=>
  intro p' h cs hp
  simp only [YC] at h
  split at h
  ·rename_i x z hx hz
   cases h
   obtain ⟨c1,c2,e,h1,h2⟩:=hp
   exact ⟨c1,c2,e,iha hx h1,ihb hz h2⟩
  ·cases h
 | st a ih=>
  intro p' h cs hp
  simp only [YC] at h
  split at h
  ·rename_i x hx
   cases h
   exact ih hx (cs:=cs) hp
  ·cases h
 | tcons a b _ _=> intro p' h cs hp; cases hp
 | tnil=> intro p' h cs hp; cases hp
 | undef=> intro p' h cs hp; cases hp
 | cl f n a ih=>
  intro p' h cs hp
  simp only [YC] at h
  split at h
  ·rename_i x hx
   cases h
   obtain ⟨vs,h1,h2,h3⟩:=hp
   exact ⟨vs,h1,h2,ih hx h3⟩
  ·cases h
 | ifc t a ih=>
  intro p' h cs hp
  simp only [YC] at h
  split at h
  ·rename_i x hx
   cases h
   obtain ⟨vs,h1,h2⟩:=hp
   refine ⟨vs,?_,ih hx h2⟩
   rw [<-Ywb hx]; exact h1
  ·cases h
 | row r=>
  intro p' h cs hp
  simp only [YC] at h
  split at h
  ·rename_i k hk
   cases h
   obtain ⟨h1,h2⟩:=hr.row r k hk
   obtain ⟨e1,e2,e3⟩:=hp
   exact ⟨by rw [h2]; exact e1,by rw [h2]; exact e2,by rw [h1]; exact e3⟩
  ·cases h
 | part r lo hi=>
  intro p' h cs hp
  simp only [YC] at h
  split at h
  ·rename_i k hk
   cases h
   obtain ⟨h1,h2⟩:=hr.row r k hk
   obtain ⟨t,o,xs,e1,e2,e3,e4⟩:=hp
   exact ⟨t,o,xs,by rw [h1]; exact e1,e2,e3,by rw [h2]; exact e4⟩
  ·cases h
 | bpart b path lo hi=>
  intro p' h cs hp
  simp only [YC] at h
  split at h
  ·rename_i k hk
   cases h
   obtain ⟨T,o,c,n,u,e1,e2,e3,e4,e5,off',cap',e6,e7⟩:=hp
   obtain ⟨c',hc'⟩:=hr.cells b k T o c hk e1
   exact ⟨T,o,c',n,u,hc',e2,e3,e4,e5,off',cap',by rw [hr.box b k hk]; exact e6,e7⟩
  ·cases h
 | addr b path=>
  intro p' h cs hp
  simp only [YC] at h
  split at h
  ·rename_i b' hb'
   cases h
   cases b with
   | box b=>
    simp only [Yn8] at hb'
    split at hb'
    ·rename_i k hk
     cases hb'
     rcases hp with ⟨T,o,c,e1,e2,e3⟩ | ⟨l,n,e1,e2,e3⟩
     ·obtain ⟨c',hc'⟩:=hr.cells b k T o c hk e1
      exact .inl ⟨T,o,c',hc',e2,by rw [hr.box b k hk]; exact e3⟩
     ·exact .inr ⟨l,n,hr.iter b k l n hk e1,e2,by rw [hr.box b k hk]; exact e3⟩
    ·cases hb'
   | row r i=>
    simp only [Yn8] at hb'
    split at hb'
    ·rename_i k hk
     cases hb'
     obtain ⟨h1,h2⟩:=hr.row r k hk
     obtain ⟨t,o,xs,b,off,len,cap,e1,e2,e3,e4,e5⟩:=hp
     exact ⟨t,o,xs,b,off,len,cap,by rw [h1]; exact e1,by rw [h2]; exact e2,e3,e4,e5⟩
    ·cases hb'
   | fbox t x=>
    simp only [Yn8] at hb'
    cases hb'
    exact hp
  ·cases h
 | val t x=> intro p' h cs hp; cases h; exact hp
 | nils=> intro p' h cs hp; cases h; exact hp
 | nilp=> intro p' h cs hp; cases h; exact hp
theorem RepT.ren {mt:Met} {m':Maps} (hr:Ren mt m m' s s'):∀ {p p':PV},YC mt p=some p'->∀ {vs:List Value},RepT w fz m s p vs->RepT w fz m' s' p' vs:=by
 intro p
 induction p with
 | tcons a b _ ihb=>
  intro p' h vs hp
  simp only [YC] at h
  split at h
  ·rename_i x z hx hz
   cases h
   obtain ⟨cs,us,e,h1,h2⟩:=hp
   exact ⟨cs,us,by rw [<-Ywb hx]; exact e,h1.ren hr hx,ihb hz h2⟩
  ·cases h
 | tnil=> intro p' h vs hp; cases h; exact hp
 | _=> intro p' h vs hp; exact hp.elim
theorem RepS.ren {mt:Met} {m':Maps} (hr:Ren mt m m' s s') {p p':PV} (h:YC mt p=some p') {v:Value} (hv:RepS w fz m s p v):RepS w fz m' s' p' v:=by
 have main:(∃ cs,RepP w fz m s p cs/\v=mkV p.isAgg cs)->RepS w fz m' s' p' v:=by
  rintro ⟨cs,h1,rfl⟩
  rw [Ywb h]
  exact RepS.of (h1.ren hr h)
 cases p with
 | undef=> cases h; trivial
 | tnil=> cases h; exact hv
 | tcons a b=>
  obtain ⟨vs,h1,h2⟩:=hv
  have:=h2.ren hr h
  simp only [YC] at h
  split at h
  ·cases h; exact ⟨vs,h1,this⟩
  ·cases h
 | _=> exact main hv
theorem YBf {n:Fr}:∀ (l:Live) {s s':St},YA7 l s=some s'->Here w0 X0 n s a w->Here w0 X0 n s' a w
 | [],s,s',h,g=> by cases h; exact g
 | (t,c)::l,s,s',h,⟨h1,h2,fz,m,g⟩=> by
  simp only [YA7] at h
  split at h
  ·rename_i s1 hs
   obtain ⟨fz',m',g'⟩:=YNp g hs
   exact YBf l h ⟨h1,h2,fz',m',g'⟩
  ·cases h
def Yo5 (mt:Met):Key->Option Key
 | .row r=> (place r mt.rows).map .row
 | .box b=> (place b mt.boxes).map .box
 | .hand=> some .hand
def Yo8 (mt:Met) (m:Maps):Maps where
 ρ:=fun k=> m.ρ (mt.rows.getD k 0)
 φ:=fun k=> m.φ (mt.rows.getD k 0)
 γ:=fun k=> m.γ (mt.boxes.getD k 0)
 ω:=fun b=> (m.ω b).bind (Yo5 mt)
theorem YJr {n:Fr} (live:Live) (s s':St) (a:Act) (w:World) (h:norm live s=some s') (g:Here w0 X0 n s a w):Here w0 X0 n s' a w:=by
 unfold norm at h
 split at h
 ·cases h
 ·rename_i s1 hs1
  obtain ⟨h1,h2,fz,m,g⟩:=YBf live hs1 g
  revert h
  generalize live.foldl (fun m x=> Yw2 s1 16 (s1.slots x.1) m) ⟨[],[]⟩=mt
  intro h
  dsimp only at h
  split at h
  ·rename_i sl bx hd hsl hbx
   cases h
   simp only [Ylu] at hd
   obtain ⟨hd1,hd2⟩:=hd
   have hrow:∀ k,(Yd (mt.rows.map s1.rows) k=.none/\mt.rows[k]? =none)\/∃ r,mt.rows[k]? =some r/\Yd (mt.rows.map s1.rows) k=s1.rows r:=by
    intro k
    rw [YZg,List.getElem?_map]
    cases e:mt.rows[k]? with
    | none=> exact .inl ⟨rfl,rfl⟩
    | some r=> exact .inr ⟨r,rfl,rfl⟩
   have hgr:∀ {k r},mt.rows[k]? =some r->mt.rows.getD k 0=r:=fun h=> by rw [Yvu,h]; rfl
   have hgb:∀ {k r},mt.boxes[k]? =some r->mt.boxes.getD k 0=r:=fun h=> by rw [Yvu,h]; rfl
   have hbox:∀ {k:Nat} {e:BoxE},Yc bx k=e->e≠.none->∃ b,mt.boxes[k]? =some b/\bx[k]? =some e:=by
    intro k e he hne
    rw [Y58] at he
    cases e1:bx[k]? with
    | none=> rw [e1] at he; exact absurd he.symm hne
    | some x=>
     rw [e1] at he
     simp only [Option.getD_some] at he
     subst he
     have:k < mt.boxes.length:=by rw [<-Yvb hbx]; exact (List.getElem?_eq_some_iff.1 e1).1
     exact ⟨mt.boxes[k],Ywu this,rfl⟩
   have hren:Ren mt m (Yo8 mt m) s1 ⟨Y7 sl,Yc bx,Yd (mt.rows.map s1.rows)⟩:=by
    refine ⟨fun r k hk=> ?_,fun b k hk=> ?_,fun b k T o c hk hb=> ?_,fun b k l n hk hb=> ?_⟩
    ·have hk:=Yf6 hk
     refine ⟨?_,by show m.ρ _=_; rw [hgr hk]⟩
     show Yd _ k=_
     rcases hrow k with ⟨_,e⟩ | ⟨r',e1,e2⟩
     ·rw [e] at hk; cases hk
     ·rw [e1] at hk; cases hk; exact e2
    ·show m.γ _=_
     rw [hgb (Yf6 hk)]
    ·rcases Yn5 hbx (Yf6 hk) with ⟨T',o',c1,c',e1,e2,e3⟩ | ⟨x,j,e1,e2⟩
     ·rw [hb] at e1; cases e1
      exact ⟨c',by show Yc bx k=_; rw [Y58,e2]; rfl⟩
     ·rw [hb] at e1; cases e1
    ·rcases Yn5 hbx (Yf6 hk) with ⟨T',o',c1,c',e1,e2,e3⟩ | ⟨x,j,e1,e2⟩
     ·rw [hb] at e1; cases e1
     ·rw [hb] at e1; cases e1
      show Yc bx k=_
      rw [Y58,e2]; rfl
   refine ⟨h1,h2,fz,Yo8 mt m,?_⟩
   refine ⟨fun t=> ?_,fun k t xs hk=> ?_,fun k t xs hk=> ?_,fun k T o c hk ho=> ?_,fun k l n hk=> ?_,⟨List.nodup_nil,fun b hb=> by cases hb⟩,fun b k hk=> ?_,g.fzs,g.keep,g.fz0s⟩
   ·show RepS _ _ _ _ (Y7 sl t) _
    rcases YJh hsl t with e | e
    ·rw [e]; trivial
    ·exact (g.slots t).ren hren e
   ·have hk:Yd (mt.rows.map s1.rows) k=_:=hk
    rcases hrow k with ⟨e,_⟩ | ⟨r,e1,e2⟩
    ·rw [e] at hk; cases hk
    ·rw [e2] at hk
     obtain ⟨q1,q2,q3⟩:=g.rows r t xs hk
     show Rep _ _ _ _ [m.ρ (mt.rows.getD k 0)] (m.φ (mt.rows.getD k 0))/\(m.φ (mt.rows.getD k 0)).Nodup/\∀ b∈m.φ (mt.rows.getD k 0),(m.ω b).bind (Yo5 mt)=_
     rw [hgr e1]
     refine ⟨q1,q2,fun b hb=> ?_⟩
     rw [q3 b hb]
     simp [Yo5,Yl8 hd1 e1]
   ·have hk:Yd (mt.rows.map s1.rows) k=_:=hk
    rcases hrow k with ⟨e,_⟩ | ⟨r,e1,e2⟩
    ·rw [e] at hk; cases hk
    ·rw [e2] at hk
     show _/\Rep _ _ _ _ [m.ρ (mt.rows.getD k 0)] []
     rw [hgr e1]
     exact g.rowsF r t xs hk
   ·have hk:Yc bx k=_:=hk
    obtain ⟨b,e1,e2⟩:=hbox hk (by simp)
    rcases Yn5 hbx e1 with ⟨T',o',c1,c',f1,f2,f3⟩ | ⟨x,j,f1,f2⟩
    ·rw [e2] at f2; cases f2
     obtain ⟨cs,el,fr,q1,q2,q3,q4,q5,q6⟩:=g.boxes b T o c1 f1 ho
     have hγ:(Yo8 mt m).γ k=m.γ b:=by show m.γ _=_; rw [hgb e1]
     refine ⟨cs,el,fr,by rw [hγ]; exact q1,q2.ren hren f3,by rw [<-YIs f3]; exact q3,q4,fun e=> ?_,fun e=> by rw [hγ]; exact q6 e⟩
     rw [hγ]
     show (m.ω _).bind _=_
     rw [q5 e]
     simp [Yo5,Yl8 hd2 e1]
    ·rw [e2] at f2; cases f2
   ·have hk:Yc bx k=_:=hk
    obtain ⟨b,e1,e2⟩:=hbox hk (by simp)
    rcases Yn5 hbx e1 with ⟨T',o',c1,c',f1,f2,f3⟩ | ⟨x,j,f1,f2⟩
    ·rw [e2] at f2; cases f2
    ·rw [e2] at f2; cases f2
     obtain ⟨q1,q2⟩:=g.iters b l n f1
     have hγ:(Yo8 mt m).γ k=m.γ b:=by show m.γ _=_; rw [hgb e1]
     refine ⟨by rw [hγ]; exact q1,?_⟩
     rw [hγ]
     show (m.ω _).bind _=_
     rw [q2]
     simp [Yo5,Yl8 hd2 e1]
   ·have hk:(m.ω b).bind (Yo5 mt)=some k:=hk
    cases e:m.ω b with
    | none=> rw [e] at hk; cases hk
    | some k'=> exact g.own b k' e
  ·cases h
end
end Go.Abs
namespace Go.Abs
theorem Yas {g:Sig} {i:TypeId} {t:Ty} {x:t.den} {y:g.Out} {p:(i:TypeId)->(t:Ty)->t.den->Prop} {k:g.good.den->Prop} (h:Y8b g i t x=some y) (hp:p i t x):YX1 g y p k:=by
 obtain ⟨args,res,pan⟩:=g
 cases pan with
 | none=> cases h
 | some q=>
  obtain ⟨j,u⟩:=q
  simp only [Y8b] at h
  split at h
  ·rename_i hj z _ hz
   cases h
   obtain ⟨e⟩:=hj
   subst e
   unfold Ty.cast at hz
   split at hz
   ·rename_i e _
    subst e
    cases hz
    exact hp
   ·cases hz
  ·cases h
theorem Y9s {g:Sig} {z:g.good.den} {p:(i:TypeId)->(t:Ty)->t.den->Prop} {k:g.good.den->Prop} (hk:k z):YX1 g (Y9h g z) p k:=by
 obtain ⟨args,res,pan⟩:=g
 cases pan <;> exact hk
theorem Y33 {ord:Nat->Array Oper->Bool} {lo:List Ty} {hi:Nat} {n:Fr} (hl:n.keep=YU1 lo) (hh:n.size=hi):∀ {c:Code},Ye1 ord lo hi c=true->Ym1 ord n c
 | .region _ ops draw,h=> by
  simp only [Ye1,Ylu,Y3v] at h
  refine ⟨fun o ho k hk=> ?_,fun e=> by subst e; exact h.2⟩
  have:=h.1 o ho
  simp only [Yta,hk,Ylu,Nat.ble_eq,YXu] at this
  exact ⟨by rw [hl]; exact this.1,by rw [hh]; exact this.2⟩
 | .seq a b,h=> by
  simp only [Ye1,Ylu] at h
  exact ⟨Y33 hl hh h.1,Y33 hl hh h.2⟩
 | .cond _ x y,h=> by
  simp only [Ye1,Ylu] at h
  exact ⟨Y33 hl hh h.1,Y33 hl hh h.2⟩
 | .block _ b,h=> Y33 (c:=b) hl hh h
 | .scope b,h=> Y33 (c:=b) hl hh h
 | .loop b,h=> Y33 (c:=b) hl hh h
 | .skip,_=> trivial
 | .exit _,_=> trivial
 | .ret,_=> trivial
 | .rangeFunc ..,_=> trivial
 | .goto _,_=> trivial
 | .label _,_=> trivial
 | .refuse _,_=> trivial
theorem Yx3 {ord:Nat->Array Oper->Bool} {lo:List Ty} {hi:Nat} {n:Fr} {cs:List Nat} (hl:∀ k,n.keep k=(YU1 lo k||cs.any (Nat.beq k))) (hh:n.size=hi):∀ {c:Code},Ye1 ord lo hi c=true->YQ1 (YU5 cs) c=true->Ym1 ord n c
 | .region _ ops draw,h,g=> by
  simp only [Ye1,Ylu,Y3v] at h
  simp only [YQ1,Y3v] at g
  refine ⟨fun o ho k hk=> ?_,fun e=> by subst e; exact h.2⟩
  have h1:=h.1 o ho
  have h2:=g o ho
  simp only [Yta,hk,Ylu,Nat.ble_eq,YXu] at h1
  simp only [YU5,hk,YXu] at h2
  exact ⟨by rw [hl,h1.1,h2]; rfl,by rw [hh]; exact h1.2⟩
 | .seq a b,h,g=> by
  simp only [Ye1,Ylu] at h
  simp only [YQ1,Ylu] at g
  exact ⟨Yx3 hl hh h.1 g.1,Yx3 hl hh h.2 g.2⟩
 | .cond _ x y,h,g=> by
  simp only [Ye1,Ylu] at h
  simp only [YQ1,Ylu] at g
  exact ⟨Yx3 hl hh h.1 g.1,Yx3 hl hh h.2 g.2⟩
 | .block _ b,h,g=> Yx3 (c:=b) hl hh h g
 | .scope b,h,g=> Yx3 (c:=b) hl hh h g
 | .loop b,h,g=> Yx3 (c:=b) hl hh h g
 | .skip,_,_=> trivial
 | .exit _,_,_=> trivial
 | .ret,_,_=> trivial
 | .rangeFunc ..,_,_=> trivial
 | .goto _,_,_=> trivial
 | .label _,_,_=> trivial
 | .refuse _,_,_=> trivial
section
variable {w0:World} {X0:Ent} {a:Act} {w:World} {fz:Nat->Prop} {m:Maps} {s s':St} {E:Env} {R:Type}
theorem Yng:∀ (ts:List Ty) {m:Maps} {s:St} {i:Nat} {x:(tup ts).den} {vs:List Value} {X Y:List Nat} {k:St->Option R} {r:R},
  Rel w0 X0 fz m (X++Y) s a w->RepArgs w fz ts x vs X->(∀ j,j < vs.length->a.tmps.getD (i+j) undef=vs.getD j undef)->Yl4 ts i x s k=some r->
  ∃ m' s',Rel w0 X0 fz m' Y s' a w/\k s'=some r
 | [],m,s,i,x,vs,X,Y,k,r,h,hx,hv,hk=> by
  obtain ⟨_,rfl⟩:=hx
  exact ⟨m,s,h,hk⟩
 | [t],m,s,i,x,vs,X,Y,k,r,h,hx,hv,hk=> by
  obtain ⟨cs,rfl,hr⟩:=hx
  obtain ⟨m',p,s',hin,hk⟩:=Y55 t h hr hk
  refine ⟨m',s'.put i p,hin.rel.slot (hin.rep.toS ?_),hk⟩
  have:=hv 0 (by simp)
  rw [Nat.add_zero] at this
  rw [this]
  show mkV t.isAgg cs=_
  rw [(YW hin.fits).1]
 | t::u::ts,m,s,i,x,vs,X,Y,k,r,h,hx,hv,hk=> by
  obtain ⟨cs,us,X1,X2,rfl,rfl,hr,hrs⟩:=hx
  rw [Ypu] at h
  obtain ⟨m',p,s',hin,hk⟩:=Y55 t h hr hk
  have h1:Rel w0 X0 fz m' (X2++Y) (s'.put i p) a w:=hin.rel.slot (hin.rep.toS (by
   have:=hv 0 (by simp)
   rw [Nat.add_zero] at this
   rw [this]
   show mkV t.isAgg cs=_
   rw [(YW hin.fits).1]))
  refine Yng (u::ts) h1 hrs (fun j hj=> ?_) hk
  have:=hv (j+1) (by simpa using hj)
  rw [show i+1+j=i+(j+1) by omega,this]
  rfl
theorem YZd:∀ (ts:List Ty) {i:Nat} {vs:List Value},ts.length=vs.length->(∀ t,RepS w fz m s (s.slots t) (a.tmps.getD t undef))->(∀ j,YU1 ts j=true->a.tmps.getD (i+j) undef=vs.getD j undef)->
  RepSs w fz m s (YK6 ts i s) (YI2 ts vs)
 | [],i,vs,hl,hs,hv=> by
  have:vs=[]:=YRu hl.symm
  subst this
  rfl
 | t::ts,i,[],hl,hs,hv=> by cases hl
 | t::ts,i,v::vs,hl,hs,hv=> by
  have ih:=YZd ts (i:=i+1) (vs:=vs) (by simpa using hl) hs (fun j hj=> by
   have:=hv (j+1) (by cases t <;> exact hj)
   rw [show i+1+j=i+(j+1) by omega,this]; rfl)
  cases t with
  | ptr b=>
   have h0:=hv 0 rfl
   rw [Nat.add_zero] at h0
   have h0:a.tmps.getD i undef=v:=h0
   exact ⟨v,_,rfl,h0▸ hs i,ih⟩
  | _=> exact ih
theorem Y7b:∀ (bs:List Ty) {fz:Nat->Prop} {m:Maps} {Y:List Nat} {s:St} {ps:List PV} {vs:List Value} {x:(tup bs).den},
  Rel w0 X0 fz m Y s a w->RepSs w fz m s ps vs->Yh5 bs ps s=some x->∃ fz' m' s' X,Rel w0 X0 fz' m' (X++Y) s' a w/\(∀ b,fz b->fz' b)/\RepBacks w fz' bs x vs X
 | [],fz,m,Y,s,ps,vs,x,h,hp,he=> by
  cases ps with
  | nil=> exact ⟨fz,m,s,[],h,fun _ h=> h,hp,rfl⟩
  | cons _ _=> cases he
 | [b],fz,m,Y,s,ps,vs,x,h,hp,he=> by
  cases ps with
  | nil=> cases he
  | cons p ps=>
   cases ps with
   | cons _ _=> cases he
   | nil=>
    simp only [Yh5] at he
    split at he
    ·rename_i y s1 hy
     cases he
     obtain ⟨v,us,rfl,h1,rfl⟩:=hp
     obtain ⟨cs,h2,rfl⟩:=h1.ofDen hy
     obtain ⟨fz',ω',ωK',sK',X,A,r⟩:=Yi3 (.ptr b) (m:=m) (ω:=m.ω) (ωK:=m.ω) h h (Par.refl s) (fun _ h=> h) h2 hy
     have hagg:p.isAgg=false:=by rw [YU3 hy]; rfl
     have hcs:cs.length=1:=Rep.length _ r
     obtain ⟨c,rfl⟩:=List.length_eq_one_iff.1 hcs
     exact ⟨fz',_,s1,X,A.rel,A.fzs,c,by rw [hagg]; rfl,r⟩
    ·cases he
 | b::c::bs,fz,m,Y,s,ps,vs,x,h,hp,he=> by
  cases ps with
  | nil=> cases he
  | cons p ps=>
   simp only [Yh5] at he
   split at he
   ·rename_i y s1 hy
    split at he
    ·rename_i z hz
     cases he
     obtain ⟨v,us,rfl,h1,hps⟩:=hp
     obtain ⟨cs,h2,rfl⟩:=h1.ofDen hy
     obtain ⟨fz',ω',ωK',sK',X,A,r⟩:=Yi3 (.ptr b) (m:=m) (ω:=m.ω) (ωK:=m.ω) h h (Par.refl s) (fun _ h=> h) h2 hy
     have hagg:p.isAgg=false:=by rw [YU3 hy]; rfl
     have hcs:cs.length=1:=Rep.length _ r
     obtain ⟨d,rfl⟩:=List.length_eq_one_iff.1 hcs
     have hps':RepSs w fz' { m with ω:=ω' } s1 ps us:=RepSs.le (m:=m) (m':={ m with ω:=ω' }) A.le ⟨fun _ _=> rfl,fun _ _=> rfl⟩ (fun _ _=> rfl) A.fzs hps
     obtain ⟨fz2,m2,s2,X2,q1,q2,q3⟩:=Y7b (c::bs) A.rel hps' hz
     exact ⟨fz2,m2,s2,X++X2,q1.perm (by rw [<-Ypu]; exact List.Perm.append_right _ List.perm_append_comm),fun b hb=> q2 b (A.fzs b hb),d,us,X,X2,by rw [hagg]; rfl,rfl,Rep.frame (fun _ _=> rfl) q2 _ (fun _ _=> rfl) r,q3⟩
    ·cases he
   ·cases he
theorem Y8h:∀ (res bs:List Ty) {fz:Nat->Prop} {m:Maps} {Y:List Nat} {s:St} {ps qs:List PV} {vs us:List Value} {x:(tup (res++bs)).den},
  Rel w0 X0 fz m Y s a w->RepSs w fz m s ps vs->RepSs w fz m s qs us->YY1 res bs ps qs s=some x->∃ fz' m' s' X,Rel w0 X0 fz' m' (X++Y) s' a w/\(∀ b,fz b->fz' b)/\RepOuts w fz' res bs x vs us X
 | [],bs,fz,m,Y,s,ps,qs,vs,us,x,h,hp,hq,he=> by
  cases ps with
  | cons _ _=> simp [YY1] at he
  | nil=>
   simp only [YY1] at he
   obtain ⟨fz',m',s',X,q1,q2,q3⟩:=Y7b bs h hq he
   exact ⟨fz',m',s',X,q1,q2,hp,q3⟩
 | [t],[],fz,m,Y,s,ps,qs,vs,us,x,h,hp,hq,he=> by
  cases ps with
  | nil=> simp [YY1] at he
  | cons p ps=>
   cases ps with
   | cons _ _=> simp [YY1] at he
   | nil=>
    cases qs with
    | cons _ _=> simp [YY1] at he
    | nil=>
     simp only [YY1] at he
     split at he
     ·rename_i y s1 hy
      cases he
      obtain ⟨v,vs',rfl,h1,rfl⟩:=hp
      obtain ⟨cs,h2,rfl⟩:=h1.ofDen hy
      obtain ⟨fz',ω',ωK',sK',X,A,r⟩:=Yi3 t (m:=m) (ω:=m.ω) (ωK:=m.ω) h h (Par.refl s) (fun _ h=> h) h2 hy
      exact ⟨fz',_,s1,X,A.rel,A.fzs,hq,cs,by rw [YU3 hy],r⟩
     ·cases he
 | [t],b::bs,fz,m,Y,s,ps,qs,vs,us,x,h,hp,hq,he=> by
  cases ps with
  | nil=> simp [YY1] at he
  | cons p ps=>
   cases ps with
   | cons _ _=> simp [YY1] at he
   | nil=>
    simp only [YY1] at he
    split at he
    ·rename_i y s1 hy
     split at he
     ·rename_i z hz
      cases he
      obtain ⟨v,vs',rfl,h1,rfl⟩:=hp
      obtain ⟨cs,h2,rfl⟩:=h1.ofDen hy
      obtain ⟨fz',ω',ωK',sK',X,A,r⟩:=Yi3 t (m:=m) (ω:=m.ω) (ωK:=m.ω) h h (Par.refl s) (fun _ h=> h) h2 hy
      have hqs':RepSs w fz' { m with ω:=ω' } s1 qs us:=RepSs.le (m:=m) (m':={ m with ω:=ω' }) A.le ⟨fun _ _=> rfl,fun _ _=> rfl⟩ (fun _ _=> rfl) A.fzs hq
      obtain ⟨fz2,m2,s2,X2,q1,q2,q3⟩:=Y7b (b::bs) A.rel hqs' hz
      exact ⟨fz2,m2,s2,X++X2,q1.perm (by rw [<-Ypu]; exact List.Perm.append_right _ List.perm_append_comm),fun b hb=> q2 b (A.fzs b hb),cs,X,X2,by rw [YU3 hy],rfl,Rep.frame (fun _ _=> rfl) q2 _ (fun _ _=> rfl) r,q3⟩
     ·cases he
    ·cases he
 | t::u::res,bs,fz,m,Y,s,ps,qs,vs,us,x,h,hp,hq,he=> by
  cases ps with
  | nil=> simp [YY1] at he
  | cons p ps=>
   simp only [YY1] at he
   split at he
   ·rename_i y s1 hy
    split at he
    ·rename_i z hz
     cases he
     obtain ⟨v,vs',rfl,h1,hps⟩:=hp
     obtain ⟨cs,h2,rfl⟩:=h1.ofDen hy
     obtain ⟨fz',ω',ωK',sK',X,A,r⟩:=Yi3 t (m:=m) (ω:=m.ω) (ωK:=m.ω) h h (Par.refl s) (fun _ h=> h) h2 hy
     have hps':RepSs w fz' { m with ω:=ω' } s1 ps vs':=RepSs.le (m:=m) (m':={ m with ω:=ω' }) A.le ⟨fun _ _=> rfl,fun _ _=> rfl⟩ (fun _ _=> rfl) A.fzs hps
     have hqs':RepSs w fz' { m with ω:=ω' } s1 qs us:=RepSs.le (m:=m) (m':={ m with ω:=ω' }) A.le ⟨fun _ _=> rfl,fun _ _=> rfl⟩ (fun _ _=> rfl) A.fzs hq
     obtain ⟨fz2,m2,s2,X2,q1,q2,q3⟩:=Y8h (u::res) bs A.rel hps' hqs' hz
     exact ⟨fz2,m2,s2,X++X2,q1.perm (by rw [<-Ypu]; exact List.Perm.append_right _ List.perm_append_comm),fun b hb=> q2 b (A.fzs b hb),cs,vs',X,X2,by rw [YU3 hy],rfl,Rep.frame (fun _ _=> rfl) q2 _ (fun _ _=> rfl) r,q3⟩
    ·cases he
   ·cases he
theorem Yxb (hE:EnvOK E) (h:Rel w0 X0 fz m [] s a w):∀ {rs:List ResultVar} {ps:List PV},Yp5 E s rs=some ps->∃ vs,RepSs w fz m s ps vs/\
  (rs.mapM fun | .tmp t=> pure (a.tmps.getD t undef) | .cell c t=> do loadVar t (<-asAddr (a.tmps.getD c undef)):Sem (List Value)).run E.P w=.ok vs w
 | [],ps,hr=> by
  cases hr
  exact ⟨[],rfl,rfl⟩
 | .tmp t::l,ps,hr=> by
  simp only [Yp5] at hr
  split at hr
  ·rename_i qs hqs
   cases hr
   obtain ⟨vs,h1,h2⟩:=Yxb hE h hqs
   refine ⟨a.tmps.getD t undef::vs,⟨_,_,rfl,h.slots t,h1⟩,?_⟩
   rw [List.mapM_cons]
   simp only [pure_bind,Sem.run_bind,h2,Result.andThen_ok,Sem.run_pure]
  ·cases hr
 | .cell c t::l,ps,hr=> by
  simp only [Yp5] at hr
  split at hr
  ·rename_i p u qs hp hu hqs
   cases hf:fits u p with
   | false=> rw [hf] at hr; cases hr
   | true=>
    rw [hf] at hr
    cases hr
    obtain ⟨vs,h1,h2⟩:=Yxb hE h hqs
    obtain ⟨z,hz,hzr⟩:=YRg hE h hu (h.slots c) hp hf
    refine ⟨z::vs,⟨_,_,rfl,hzr,h1⟩,?_⟩
    have hz':(do loadVar t (<-asAddr (a.tmps.getD c undef)):Sem Value).run E.P w=.ok z w:=by
     have hs:RepS w fz m s (s.slots c) (a.tmps.getD c undef):=h.slots c
     cases e:s.slots c with
     | addr b path=>
      rw [e] at hs
      obtain ⟨x,hx,_⟩:=hs.pointer
      rw [hx] at hz ⊢
      simpa [Instr.loadAt,Instr.sureAddr,asAddr] using hz
     | _=> rw [e] at hp; simp [St.load] at hp
    rw [List.mapM_cons]
    simp only [Sem.run_bind] at hz' ⊢
    simp only [hz',h2,Result.andThen_ok,Sem.run_pure]
  ·cases hr
end
end Go.Abs
namespace Go.Abs
section
variable {w0:World} {X0:Ent} {a:Act} {w:World} {fz:Nat->Prop} {m:Maps} {s s':St} {E:Env} {R:Type}
theorem Y0q {ops:List Oper} {pre:List Oper} {k:Nat} (h:Yoa ops=some (pre,k)):
  ∃ o c,ops=pre++[o]/\o.guard=none/\o.dst=none/\o.op=.defer c/\c.callee=.value (.tmp k)/\c.args=#[]:=by
 unfold Yoa at h
 cases e:ops.reverse with
 | nil=> rw [e] at h; cases h
 | cons o l=>
  rw [e] at h
  simp only at h
  split at h
  ·rename_i c h1 h2 h3
   split at h
   ·rename_i x hx
    split at h
    ·rename_i k'
     cases ha:c.args.isEmpty with
     | false=> rw [ha] at h; cases h
     | true=>
      rw [ha] at h
      obtain ⟨rfl,rfl⟩:=Prod.mk.inj (Option.some.inj h)
      refine ⟨o,c,?_,h1,h2,h3,hx,by simpa using ha⟩
      have:=congrArg List.reverse e
      rw [List.reverse_reverse,List.reverse_cons] at this
      exact this
    ·cases h
   ·cases h
  ·cases h
theorem Yvf:∀ {ks:List Nat} {l:List PV} {vs:List Value},YQ4 s ks l=true->RepSs w fz m s l vs->(∀ t,RepS w fz m s (s.slots t) (a.tmps.getD t undef))->vs=ks.map fun k=> a.tmps.getD k undef
 | [],[],vs,_,h,_=> h
 | k::ks,.addr (.box b) []::l,vs,hm,h,hs=> by
  simp only [YQ4,Ylu] at hm
  obtain ⟨hm1,hm2⟩:=hm
  obtain ⟨v,us,rfl,h1,h2⟩:=h
  have ih:=Yvf hm2 h2 hs
  have hk:=hs k
  split at hm1
  ·rename_i c hc
   have hbc:=YOu hm1
   subst hbc
   rw [hc] at hk
   rw [YBu,<-ih]
   congr 1
   have one:∀ {v:Value},RepS w fz m s (.addr (.box b) []) v->v=.pointer (some ⟨m.γ b,0,none⟩):=by
    rintro v ⟨cs,h,rfl⟩
    rcases h with ⟨T,o,c,_,_,rfl⟩ | ⟨l,n,_,_,rfl⟩
    ·show Value.pointer (some ⟨m.γ b,Ty.off T [],none⟩)=_
     rw [Ty.off_nil]
    ·rfl
   rw [one h1,one hk]
  ·cases hm1
theorem Y9u {P:Program} {ops:Array Oper} {Q:Exit->Act->World->Prop} {i:Nat} {o:Oper} {c:Go.Call} {k g:Nat} {vs:List Value} (hi:ops[i]? =some o) (h1:o.guard=none) (h2:o.dst=none) (h3:o.op=.defer c) (h4:c.callee=.value (.tmp k)) (h5:c.args=#[])
  (hv:a.tmps.getD k undef=.func (.func g) #[] vs.toArray) (h:Q .normal { a with defers:={ target:=.fn (.func g) vs.toArray,args:=#[] }::a.defers } w):wpOps P ops Q [i] a w:=by
 simp only [wpOps,hi]
 have hw:Region.wanted o (yielded ops a.tmps)=true:=by simp [Region.wanted,h1]
 rw [Yku hw]
 refine .inl ?_
 unfold Oper.wp
 have hev:a.eval (.tmp k)=.func (.func g) #[] vs.toArray:=hv
 have hrun:(execOp a.eval o).run P w=.ok (.defer { target:=.fn (.func g) vs.toArray,args:=#[] }) w:=by
  simp only [execOp,h3,resolve,h4,hev,Deferred.ofValue,h5,pure_bind,Array.map_empty,Array.append_empty]
  rfl
 rw [hrun,Oper.upon_defer,h2]
 exact h
end
end Go.Abs
namespace Go.Abs
section
variable {E:Env}
def Yw5 (E:Env) (f:FuncId) (y:(E.sig f).Out) (w:World) (fz:Nat->Prop) (vs:List Value) (X:List Nat) (e:Ending) (w':World):Prop:=
 Keep w X w'/\∃ fz',FzOk w X fz fz' w'/\
   YX1 (E.sig f) y (fun i t z=> ∃ cs,e=.panicked [{ v:=.iface i (mkV t.isAgg cs),recovered:=false }]/\t.pure=true/\Rep w' fz' t z cs [])
    (fun z=> ∃ rs X',e=.returned (retV rs)/\RepOuts w' fz' (E.sig f).res (E.sig f).backs z rs (YI2 (E.sig f).args vs) X'/\X'.Nodup/\∀ b∈X',b < w'.heap.size/\¬fz' b/\(b∈X\/w.heap.size<=b))
theorem YJs {P:Program} {fn:Func} {tmps:Array Value} {vs:List Value} {w:World}
  (h:(fn.results.toList.mapM fun | .tmp t=> pure (tmps.getD t undef) | .cell c t=> do loadVar t (<-asAddr (tmps.getD c undef)):Sem (List Value)).run P w=.ok vs w):(results fn tmps).run P w=.ok (retV vs) w:=by
 unfold results
 rw [Array.mapM_eq_mapM_toList]
 have h2:((List.toArray <$> (fn.results.toList.mapM fun | .tmp t=> pure (tmps.getD t undef) | .cell c t=> do loadVar t (<-asAddr (tmps.getD c undef)):Sem (List Value)))).run P w=.ok vs.toArray w:=by
  simp only [map_eq_pure_bind,Sem.run_bind,h,Result.andThen_ok,Sem.run_pure]
 rw [Sem.run_bind]
 refine (congrArg (fun r=> Result.andThen r _) h2).trans ?_
 simp only [Result.andThen_ok,Sem.run_pure]
 match vs with
 | []=> rfl
 | [v]=> rfl
 | v::u::l=> simp [retV]
def FrOf (E:Env) (N:FuncId) (n:Fr) (vs:List Value):Prop:=
 (∀ j,YU1 (E.sig N).args j=true->n.keep j=true/\n.vs.getD j undef=vs.getD j undef)/\
 match E.grd N with
 | none=> n.defs=[]
 | some G=> (∀ k∈G.caps,n.keep k=true)/\n.defs=[{ target:=.fn (.func G.clo) (G.caps.map fun k=> n.vs.getD k undef).toArray,args:=#[] }]
theorem Rel.only {w0:World} {X0:Ent} {fz:Nat->Prop} {m:Maps} {Y:List Nat} {s:St} {a:Act} {w:World} (h:Rel w0 X0 fz m Y s a w) (ks:List Nat):Rel w0 X0 fz m Y (s.only ks) a w:=by
 have hs:StLe s (s.only ks):=StLe.of_eq rfl rfl
 refine ⟨fun k=> ?_,h.rows,h.rowsF,fun b T o c hb ho=> ?_,h.iters,h.hand,h.own,h.fzs,h.keep,h.fz0s⟩
 ·show RepS w fz m (s.only ks) (bif ks.any (Nat.beq k) then s.slots k else .undef) _
  cases ks.any (Nat.beq k) with
  | true=> exact RepS.le hs (MapsLe.refl _ _) (fun _ _=> rfl) (fun _ h=> h) (h.slots k)
  | false=> trivial
 ·obtain ⟨cs,el,fr,h1,h2,h3,h4,h5,h6⟩:=h.boxes b T o c hb ho
  exact ⟨cs,el,fr,h1,RepP.le hs (MapsLe.refl _ _) (fun _ _=> rfl) (fun _ h=> h) h2,h3,h4,h5,h6⟩
theorem YSr {s s3:St} {ks:List Nat} (h1:s3.rows=s.rows) (h2:s3.boxes=s.boxes) (h3:∀ k∈ks,s3.slots k=s.slots k):s3.only ks=s.only ks:=by
 unfold St.only
 rw [St.mk.injEq]
 refine ⟨funext fun k=> ?_,h2,h1⟩
 show (bif ks.any (Nat.beq k) then s3.slots k else .undef)=(bif ks.any (Nat.beq k) then s.slots k else .undef)
 cases e:ks.any (Nat.beq k) with
 | false=> rfl
 | true=>
  obtain ⟨j,hj,hb⟩:=List.any_eq_true.1 e
  have:=YOu hb
  subst this
  exact h3 k hj
theorem Ypq (hE:EnvOK E) {N:FuncId} {fn:Func} (hf:E.P.funcs[E.code N]? =some fn) {w0:World} {fz0:Nat->Prop} {X:List Nat} {n:Fr} {vs:List Value} {y:(E.sig N).Out} (hl:(E.sig N).args.length=vs.length) (hfr:FrOf E N n vs):
  ∀ e a w,Yc1 w0 ⟨X,fz0⟩ n (Yk4 E N (YR2 E N)) y e a w->bodyPostD E.P fn (Yw5 E N y w0 fz0 vs X) e a w:=by
 have hrs:YR2 E N=fn.results.toList:=by unfold YR2; rw [hf]
 have good:∀ {a w fz m s},n.ok a->Rel w0 ⟨X,fz0⟩ fz m [] s a w->YX5 E N (YR2 E N) s=some y->∃ v,(results fn a.tmps).run E.P w=.ok v w/\Yw5 E N y w0 fz0 vs X (.returned v) w:=by
  intro a w fz m s hn h hk
  unfold YX5 at hk
  split at hk
  ·rename_i ps hps
   split at hk
   ·rename_i z hz
    cases hk
    rw [hrs] at hps
    obtain ⟨us,h1,h2⟩:=Yxb hE h hps
    have hb:=YZd (w:=w) (fz:=fz) (m:=m) (s:=s) (a:=a) (E.sig N).args (i:=0) (vs:=vs) hl h.slots (fun j hj=> by rw [Y2v,hn.2 j (hfr.1 j hj).1]; exact (hfr.1 j hj).2)
    obtain ⟨fz',m',s',X',q1,q2,q3⟩:=Y8h (E.sig N).res (E.sig N).backs h h1 hb hz
    rw [YHu] at q1
    refine ⟨_,YJs h2,q1.keep,fz',q1.fzOk,?_⟩
    exact Y9s ⟨us,X',rfl,q3,q1.hand.1,fun b hb=> q1.own b _ (q1.hand.2 b hb)⟩
   ·cases hk
  ·cases hk
 have caps:∀ {a:Act} {G:Guard},n.ok a->(∀ k∈G.caps,n.keep k=true)->(G.caps.map fun k=> n.vs.getD k undef)=G.caps.map fun k=> a.tmps.getD k undef:=
  fun hn hk=> List.map_congr_left fun k h=> (hn.2 k (hk k h)).symm
 have enters:∀ {G:Guard} {cs:List Value} {w:World},GuardOK E G->(invoke (.fn (.func G.clo) cs.toArray) #[]).run E.P w=.ok (.enter G.clo cs.toArray) w:=by
  intro G cs w hG
  obtain ⟨⟨f,h1,h2,h3⟩,_⟩:=hE.goes G.clo hG.go
  show (callFunc G.clo (#[]++cs.toArray)).run E.P w=_
  rw [Array.empty_append]
  exact YNh h1 h2 h3
 have ret:∀ {a w fz m s},n.ok a->a.defers=n.defs->Rel w0 ⟨X,fz0⟩ fz m [] s a w->YX5 E N (YR2 E N) s=some y->Leaves E.P fn a.tmps (Yw5 E N y w0 fz0 vs X) a.defers .returning w:=by
  intro a w fz m s hn hd h hk
  have hfr2:=hfr.2
  rw [hd]
  split at hfr2
  ·rw [hfr2]; exact good hn h hk
  ·rename_i G hG
   have hGo:=hE.grds N G hG
   rw [hfr2.2]
   refine leaves_cons (by simp) (enters hGo) ((hGo.idle _ w).mono ?_)
   rintro e u' w' ⟨⟨v,rfl⟩,rfl,rfl⟩
   exact good hn h hk
 intro e a w he
 cases e with
 | normal=> obtain ⟨h1,h2,fz,m,s,h3,hk⟩:=he; exact ret h1 h2 h3 hk
 | ret=> obtain ⟨h1,h2,fz,m,s,h3,hk⟩:=he; exact ret h1 h2 h3 hk
 | exit id=> obtain ⟨h1,h2,fz,m,s,h3,hk⟩:=he; cases hk
 | panic ch=>
  obtain ⟨h0,h1,i,t,x,s,s3,⟨fz,m,cs,h2,h3,h4,h5⟩,e1,e2,e3,hk⟩:=he
  show Leaves E.P fn a.tmps _ a.defers (.panicking ch) w
  have hfr2:=hfr.2
  simp only [Yk4] at hk
  rw [h1]
  split at hfr2
  ·rename_i hG
   rw [hG] at hk
   rw [hfr2]
   exact ⟨h5.keep,fz,h5.fzOk,Yas hk ⟨cs,by rw [h2],h3,h4⟩⟩
  ·rename_i G hG
   rw [hG] at hk
   simp only at hk
   split at hk
   ·rename_i s' hs'
    have hGo:=hE.grds N G hG
    rw [YSr e1 e2 fun k hk=> e3 k (hfr2.1 k hk)] at hs'
    rw [hfr2.2,h2,caps h0 hfr2.1]
    refine leaves_cons (by simp) (enters hGo) ((hGo.pan (h5.only G.caps) h3 h4 hs').mono ?_)
    rintro e u' w' ⟨⟨v,rfl⟩,hu,fz',m',h6⟩
    show Leaves E.P fn a.tmps _ [] (settle u') w'
    rw [hu]
    exact good h0 h6 hk
   ·cases hk
 | goto l=> cases he
 | outgrown=> cases he
def YU8 (E:Env) (N:FuncId) (r:List Item) (s:St) (y:(E.sig N).Out):Prop:=
 ∀ (w0:World) (fz0:Nat->Prop) (X:List Nat) (n:Fr) (vs:List Value) (fn:Func) (a:Act) (w:World),E.P.funcs[E.code N]? =some fn->(E.sig N).args.length=vs.length->FrOf E N n vs->(∀ b∈X,¬fz0 b)->(∀ b,fz0 b->b < w0.heap.size)->Glob E w0 fz0->
  Yo1 (Ya1 E N) n r->Here w0 ⟨X,fz0⟩ n s a w->YR E.P (bodyPostD E.P fn (Yw5 E N y w0 fz0 vs X)) r .normal a w
theorem RepArgs.length {w:World} {fz:Nat->Prop}:∀ {ts:List Ty} {x:(tup ts).den} {vs:List Value} {X:List Nat},RepArgs w fz ts x vs X->ts.length=vs.length
 | [],_,_,_,h=> by obtain ⟨rfl,_⟩:=h; rfl
 | [t],_,_,_,h=> by obtain ⟨cs,rfl,_⟩:=h; rfl
 | t::u::ts,_,_,_,h=> by
  obtain ⟨cs,us,X1,X2,rfl,rfl,_,h⟩:=h
  simpa using h.length
theorem YAt (hE:EnvOK E) {f:FuncId} {fn:Func} {c:Code} {jump:JumpT (E.sig f).Out} {y:(E.sig f).Out} (hJ:∀ r s,jump r s=some y->YU8 E f r s y) {vs:List Value} {w0:World} {fz0:Nat->Prop} {X:List Nat}
  (hf:E.P.funcs[E.code f]? =some fn) (hl:(E.sig f).args.length=vs.length) (hX:∀ b∈X,¬fz0 b) (hz:∀ b,fz0 b->b < w0.heap.size) (hg:Glob E w0 fz0) {a:Act} {w:World} {s:St} {fz:Nat->Prop} {m:Maps} {hi:Nat}
  (hok:Ye1 (Ya1 E f) (E.sig f).args hi c=true) (hsz:a.tmps.size=hi) (hargs:∀ j,YU1 (E.sig f).args j=true->a.tmps.getD j undef=vs.getD j undef) (hd:a.defers=[]) (h:Rel w0 ⟨X,fz0⟩ fz m [] s a w)
  (hk:Yv5 E jump c s (E.grd f)=some y):c.wp E.P (bodyPostD E.P fn (Yw5 E f y w0 fz0 vs X)) a w:=by
 have hn0:(⟨hi,vs,YU1 (E.sig f).args,[]⟩:Fr).ok a:=⟨hsz,hargs⟩
 unfold Yv5 at hk
 split at hk
 ·rename_i hG
  exact hJ _ _ hk w0 fz0 X ⟨hi,vs,YU1 (E.sig f).args,[]⟩ vs fn a w hf hl ⟨fun j hj=> ⟨hj,rfl⟩,by rw [hG]⟩ hX hz hg ⟨Y33 rfl rfl hok,trivial⟩ ⟨hn0,hd,fz,m,h⟩
 ·rename_i G hG
  split at hk
  ·rename_i x rest
   split at hk
   ·rename_i id ops draw
    cases hc:(!draw&&YQ1 (YU5 G.caps) rest) with
    | false=> rw [hc] at hk; cases hk
    | true=>
     rw [hc,Ygu] at hk
     rw [Ylu,YXu] at hc
     obtain ⟨rfl,hoff⟩:=hc
     simp only [Ye1,Ylu] at hok
     obtain ⟨hok1,hok2⟩:=hok
     split at hk
     ·rename_i pre k hds
      obtain ⟨o,c,hops,o1,o2,o3,o4,o5⟩:=Y0q hds
      have hlen:ops.size=pre.length+1:=by rw [<-YYu,hops]; simp
      refine wp_seq (wp_region ?_)
      rw [List.range_eq_range',hlen,List.range'_append_1.symm]
      have hcodeR:Ym1 (Ya1 E f) ⟨hi,vs,YU1 (E.sig f).args,[]⟩ (.region id ops false):=Y33 rfl rfl (by simp only [Ye1,Ylu]; exact hok1)
      refine Ya8 (X0:=⟨X,fz0⟩) (n:=⟨hi,vs,YU1 (E.sig f).args,[]⟩) (l2:=[o]) hE (call:=fun _ _=> none) (fun f x y h=> by cases h) hX hz hg hcodeR.1 ?_ ?_ pre 0 (by rw [YZu,hops]) hn0 hd h hk
      ·rintro a1 w1 ⟨q1,q2,fz1,m1,s1,q3,q4⟩
       simp only at q4
       split at q4
       ·rename_i g n p hsl
        split at q4
        ·rename_i l hl'
         cases hm:(Nat.beq g G.clo&&YQ4 s1 G.caps l) with
         | false=> rw [hm] at q4; cases q4
         | true=>
          rw [hm,Ygu] at q4
          rw [Ylu] at hm
          have hg':=YOu hm.1
          subst hg'
          have hv:=q3.slots k
          rw [hsl] at hv
          obtain ⟨cs,⟨us,rfl,hus,hp⟩,hv⟩:=hv
          have hus2:us=G.caps.map fun k=> a1.tmps.getD k undef:=Yvf hm.2 (YWb hp hus hl') q3.slots
          rw [Y2v]
          refine Y9u (o:=o) (c:=c) (k:=k) (g:=G.clo) (vs:=us) ?_ o1 o2 o3 o4 o5 hv ?_
          ·rw [<-Y4v,hops,Ycv (Nat.le_refl _),Nat.sub_self]; rfl
          ·show rest.wp E.P _ _ _
           let n':Fr:=⟨hi,a1.tmps.toList,fun j=> YU1 (E.sig f).args j||G.caps.any (Nat.beq j),[{ target:=.fn (.func G.clo) us.toArray,args:=#[] }]⟩
           have hsame:∀ j,n'.vs.getD j undef=a1.tmps.getD j undef:=fun j=> by
            show a1.tmps.toList.getD j undef=_
            rw [Yvu,Y4v,Array.getD_eq_getD_getElem?]
           refine hJ _ _ q4 w0 fz0 X n' vs fn _ w1 hf hl ⟨fun j hj=> ⟨?_,?_⟩,?_⟩ hX hz hg ⟨Yx3 (fun _=> rfl) rfl hok2 hoff,trivial⟩ ⟨⟨q1.1,fun j _=> (hsame j).symm⟩,?_,fz1,m1,?_⟩
           ·show (YU1 (E.sig f).args j||_)=true
            rw [hj]; rfl
           ·rw [hsame]; exact q1.2 j hj
           ·rw [hG]
            refine ⟨fun j hj=> ?_,?_⟩
            ·show (YU1 (E.sig f).args j||G.caps.any (Nat.beq j))=true
             rw [Bool.or_eq_true]
             exact .inr (List.any_eq_true.2 ⟨j,hj,Nat.beq_refl j⟩)
            ·show [_]=[_]
             rw [hus2,List.map_congr_left fun j _=> hsame j]
           ·show _::a1.defers=[_]
            rw [q2]
           ·exact ⟨q3.slots,q3.rows,q3.rowsF,q3.boxes,q3.iters,q3.hand,q3.own,q3.fzs,q3.keep,q3.fz0s⟩
        ·cases q4
       ·cases q4
      ·rintro ch a1 w1 ⟨_,_,i,t,x,s1,s3,_,_,_,_,q4⟩
       cases q4
     ·cases hk
   ·cases hk
  ·cases hk
theorem YXf (hE:EnvOK E) (hP:∀ f g x y,E.prim f=some g->g x=some y->YS E f x y) {J:(N:FuncId)->JumpT (E.sig N).Out} (hJ:∀ N r s y,J N r s=some y->YU8 E N r s y) {f:FuncId} {x:(E.sig f).arg.den} {y:(E.sig f).Out}
  (h:Yr2 E J f x=some y):YS E f x y:=by
 unfold Yr2 at h
 split at h
 ·rename_i g hg; exact hP f g x y hg h
 ·split at h
  ·rename_i fn hf
   split at h
   ·rename_i c hc
    split at h
    ·rename_i hok
     intro w fz vs X hr hn hX hz hg
     have hlen:=RepArgs.length hr
     refine calls_of_wp_defers hf hc ?_
     have hXz:∀ b∈X,¬fz b:=fun b hb=> (hX b hb).2
     let a:Act:={ tmps:=vs.toArray++Array.replicate (fn.ntmps - vs.toArray.size) undef,defers:=[] }
     have hget:∀ j,j < vs.length->a.tmps.getD j undef=vs.getD j undef:=by
      intro j hj
      simp only [a,Array.getD_eq_getD_getElem?,Yvu]
      rw [Array.getElem?_append_left (by simpa using hj)]
      simp
     have hkl:∀ (ts:List Ty) (j:Nat),YU1 ts j=true->j < ts.length:=by
      intro ts
      induction ts with
      | nil=> intro j h; cases h
      | cons t ts ih=>
       intro j h
       cases j with
       | zero=> simp
       | succ j=> have:=ih j (by cases t <;> exact h); simp only [Ynu]; omega
     let m0:Maps:=⟨fun _=> undef,fun _=> [],fun _=> 0,fun b=> if b∈X then some .hand else none⟩
     have h0:Rel w ⟨X,fz⟩ fz m0 X St.empty a w:=by
      refine ⟨fun t=> trivial,fun r t xs hr=> (by cases hr),fun r t xs hr=> (by cases hr),fun b T o c hb=> (by cases hb),fun b l n hb=> (by cases hb),⟨hn,fun b hb=> Yku hb⟩,fun b k hk=> ?_,fun b hb=> ⟨hz b hb,.inl hb⟩,Keep.refl w X,fun _ h=> h⟩
      have hk:(if b∈X then some Key.hand else none)=some k:=hk
      by_cases hb:b∈X
      ·exact ⟨(hX b hb).1,(hX b hb).2,.inl hb⟩
      ·rw [Yju hb] at hk; cases hk
     obtain ⟨m',s',h1,h2⟩:=Yng (X:=X) (Y:=[]) (E.sig f).args (i:=0) (by rw [YHu]; exact h0) hr (fun j hj=> by rw [Y2v]; exact hget j hj) h
     exact YAt hE (fun r s hj=> hJ f r s y hj) hf hlen hXz hz hg hok (by simp [a,hlen]) (fun j hj=> hget j (by rw [<-hlen]; exact hkl _ j hj)) rfl h1 h2
    ·cases h
   ·cases h
  ·cases h
theorem YTh (hE:EnvOK E) (hP:∀ f g x y,E.prim f=some g->g x=some y->YS E f x y):∀ (k:Nat) (N:FuncId) (r:List Item) (s:St) (y:(E.sig N).Out),run E k N r s=some y->YU8 E N r s y
 | 0,N,r,s,y,h=> by cases h
 | k+1,N,r,s,y,h=> by
  intro w0 fz0 X n vs fn a w hf hl hkp hX hz hg hi hh
  have ih:=YTh hE hP k
  exact YOt (X0:=⟨X,fz0⟩) hE (fun f x y hc=> YXf hE hP ih hc) hX hz hg (fun live s s' a w=> YJr live s s' a w)
   (fun r s a w hi hh hj=> ih N r s y hj w0 fz0 X n vs fn a w hf hl hkp hX hz hg hi hh) (Ypq hE hf hl hkp) hi hh h
theorem Y7c (hE:EnvOK E) (hP:∀ f g x y,E.prim f=some g->g x=some y->YS E f x y) {f:FuncId} {x:(E.sig f).arg.den} {y:(E.sig f).Out} (h:Call E f x=some y):YS E f x y:=
 YXf hE hP (fun N r s y h=> let ⟨k,hk⟩:=YYa E h; YTh hE hP k N r s y hk) h
end
end Go.Abs
