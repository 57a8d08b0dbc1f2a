/- Part K2 of the proof: see the last text of the claim. No condition of its own. -/
import Derived.Test.YtddagflhafkbnaaGreatDoorK1
set_option linter.all false
set_option autoImplicit false
namespace Go.Abs
def upd {α:Type} (f:Nat->α) (n:Nat) (x:α):Nat->α:=fun k=> if k=n then x else f k
def updL (f:Nat->Option Key) (X:List Nat) (k:Option Key):Nat->Option Key:=fun b=> if b∈X then k else f b
theorem YF1 {α:Type} (f:Nat->α) (n:Nat) (x:α):upd f n x n=x:=by simp [upd]
theorem YA {α:Type} (f:Nat->α) {n k:Nat} (x:α) (h:k≠n):upd f n x k=f k:=by simp [upd,h]
theorem YF8 (f:Nat->Option Key) {X:List Nat} (k:Option Key) {b:Nat} (h:b∈X):updL f X k b=k:=by simp [updL,h]
theorem Yg1 (f:Nat->Option Key) {X:List Nat} (k:Option Key) {b:Nat} (h:b∉X):updL f X k b=f b:=by simp [updL,h]
theorem Yc2 {α:Type} (n k:Nat) (x y:α):(bif Nat.beq n k then x else y)=if n=k then x else y:=by
 by_cases h:n=k
 ·subst h; simp
 ·have:Nat.beq n k=false:=by
   cases e:Nat.beq n k with
   | false=> rfl
   | true=> exact absurd (YOu e) h
  simp [h,this]
theorem Y71 (s:St) (d:Nat) (p:PV) (t:Nat):(s.put d p).slots t=if t=d then p else s.slots t:=Yc2 _ _ _ _
theorem Ys1 (s:St) (r:Nat) (e:RowE) (n:Nat):(s.setRow r e).rows n=if n=r then e else s.rows n:=Yc2 _ _ _ _
theorem YY (s:St) (b:Nat) (e:BoxE) (n:Nat):(s.setBox b e).boxes n=if n=b then e else s.boxes n:=Yc2 _ _ _ _
theorem StLe.of_eq {s s':St} (hr:s'.rows=s.rows) (hb:s'.boxes=s.boxes):StLe s s':=
 ⟨fun r t o xs h=> ⟨o,xs,by rw [hr]; exact h,rfl⟩,fun b T o c h=> ⟨o,c,by rw [hb]; exact h⟩,fun b l n h=> ⟨n,by rw [hb]; exact h⟩⟩
theorem StLe.newRow {s:St} {r:Nat} (hr:s.rows r=.none) (e:RowE):StLe s (s.setRow r e):=
 ⟨fun n t o xs h=> ⟨o,xs,by rw [Ys1,Yju (fun e=> by subst e; rw [hr] at h; cases h)]; exact h,rfl⟩,fun b T o c h=> ⟨o,c,h⟩,fun b l n h=> ⟨n,h⟩⟩
theorem StLe.newBox {s:St} {b:Nat} (hb:s.boxes b=.none) (e:BoxE):StLe s (s.setBox b e):=
 ⟨fun r t o xs h=> ⟨o,xs,h,rfl⟩,fun n T o c h=> ⟨o,c,by rw [YY,Yju (fun e=> by subst e; rw [hb] at h; cases h)]; exact h⟩,
  fun n l k h=> ⟨k,by rw [YY,Yju (fun e=> by subst e; rw [hb] at h; cases h)]; exact h⟩⟩
theorem StLe.setRow {s:St} {r:Nat} {t:Ty} {o:Own} {xs:List t.den} (hr:s.rows r=.mk t o xs) (o':Own) (ys:List t.den) (hl:ys.length=xs.length):StLe s (s.setRow r (.mk t o' ys)):=by
 refine ⟨fun n u p zs h=> ?_,fun b T o c h=> ⟨o,c,h⟩,fun b l n h=> ⟨n,h⟩⟩
 rw [Ys1]
 by_cases e:n=r
 ·subst e
  rw [hr] at h
  cases h
  exact ⟨o',ys,by simp,hl⟩
 ·rw [Yju e]; exact ⟨p,zs,h,rfl⟩
theorem StLe.setBox {s:St} {b:Nat} {T:Ty} {o:Own} {c:PV} (hb:s.boxes b=.cells T o c) (o':Own) (c':PV):StLe s (s.setBox b (.cells T o' c')):=by
 refine ⟨fun r t o xs h=> ⟨o,xs,h,rfl⟩,fun n U p d h=> ?_,fun n l k h=> ?_⟩
 ·rw [YY]
  by_cases e:n=b
  ·subst e; rw [hb] at h; cases h; exact ⟨o',c',by simp⟩
  ·rw [Yju e]; exact ⟨p,d,h⟩
 ·rw [YY]
  by_cases e:n=b
  ·subst e; rw [hb] at h; cases h
  ·rw [Yju e]; exact ⟨k,h⟩
section
variable {w0:World} {X0:Ent} {fz:Nat->Prop} {m:Maps} {Y:List Nat} {s:St} {a:Act} {w:World}
theorem Rel.put (h:Rel w0 X0 fz m Y s a w) {d:Nat} {p:PV} {v:Value} (hd:d < a.tmps.size) (hv:RepS w fz m s p v):Rel w0 X0 fz m Y (s.put d p) (a.put (some d) v) w:=by
 have hs:StLe s (s.put d p):=StLe.of_eq rfl rfl
 refine ⟨fun t=> ?_,h.rows,h.rowsF,fun b T o c hb ho=> ?_,h.iters,h.hand,h.own,h.fzs,h.keep,h.fz0s⟩
 ·rw [Y71]
  by_cases e:t=d
  ·subst e
   rw [Yku rfl]
   have:(a.put (some t) v).tmps.getD t undef=v:=by simp [Act.put,hd]
   rw [this]
   exact RepS.le hs (MapsLe.refl _ _) (fun _ _=> rfl) (fun _ h=> h) hv
  ·rw [Yju e]
   have:(a.put (some d) v).tmps.getD t undef=a.tmps.getD t undef:=by
    simp [Act.put,Array.getElem?_setIfInBounds_ne (Ne.symm e)]
   rw [this]
   exact RepS.le hs (MapsLe.refl _ _) (fun _ _=> rfl) (fun _ h=> h) (h.slots t)
 ·obtain ⟨cs,el,fr,h1,h2,h3⟩:=h.boxes b T o c hb ho
  exact ⟨cs,el,fr,h1,RepP.le hs (MapsLe.refl _ _) (fun _ _=> rfl) (fun _ h=> h) h2,h3⟩
theorem Rel.putUndef (h:Rel w0 X0 fz m Y s a w) (d:Nat) (v:Value):Rel w0 X0 fz m Y (s.put d .undef) (a.put (some d) v) w:=by
 have hs:StLe s (s.put d .undef):=StLe.of_eq rfl rfl
 refine ⟨fun t=> ?_,h.rows,h.rowsF,fun b T o c hb ho=> ?_,h.iters,h.hand,h.own,h.fzs,h.keep,h.fz0s⟩
 ·rw [Y71]
  by_cases e:t=d
  ·subst e; rw [Yku rfl]; trivial
  ·rw [Yju e]
   have:(a.put (some d) v).tmps.getD t undef=a.tmps.getD t undef:=by
    simp [Act.put,Array.getElem?_setIfInBounds_ne (Ne.symm e)]
   rw [this]
   exact RepS.le hs (MapsLe.refl _ _) (fun _ _=> rfl) (fun _ h=> h) (h.slots t)
 ·obtain ⟨cs,el,fr,h1,h2,h3⟩:=h.boxes b T o c hb ho
  exact ⟨cs,el,fr,h1,RepP.le hs (MapsLe.refl _ _) (fun _ _=> rfl) (fun _ h=> h) h2,h3⟩
theorem Rel.fz_hand (h:Rel w0 X0 fz m Y s a w) {b:Nat} (hb:fz b):b∉Y:=fun hy=> (h.own b _ (h.hand.2 b hy)).2.1 hb
theorem Rel.step (h:Rel w0 X0 fz m Y s a w) {w':World} (hk:Keep w Y w'):Rel w0 X0 fz m Y s a w':=by
 have hf:∀ b,fz b->w'.heap[b]? =w.heap[b]? :=fun b hb=> hk.block b (h.fzs b hb).1 (h.fz_hand hb)
 have ho:∀ b k,m.ω b=some k->k≠.hand->w'.heap[b]? =w.heap[b]? :=fun b k hb hk'=> hk.block b (h.own b k hb).1 fun hy=> hk' (by
  have:=h.hand.2 b hy; rw [hb] at this; cases this; rfl)
 refine ⟨fun t=> RepS.le (StLe.refl _) (MapsLe.refl _ _) hf (fun _ h=> h) (h.slots t),fun r t xs hr=> ?_,fun r t xs hr=> ?_,fun b T o c hb ho'=> ?_,fun b l n hb=> ?_,h.hand,fun b k hb=> ?_,fun b hb=> ?_,?_,h.fz0s⟩
 ·obtain ⟨h1,h2,h3⟩:=h.rows r t xs hr
  exact ⟨Rep.frame hf (fun _ h=> h) _ (fun b hb=> ho b _ (h3 b hb) (by simp)) h1,h2,h3⟩
 ·exact ⟨(h.rowsF r t xs hr).1,Rep.frame hf (fun _ h=> h) _ (fun b hb=> by cases hb) (h.rowsF r t xs hr).2⟩
 ·obtain ⟨cs,el,fr,h1,h2,h3,h4,h5,h6⟩:=h.boxes b T o c hb ho'
  refine ⟨cs,el,fr,?_,RepP.le (StLe.refl _) (MapsLe.refl _ _) hf (fun _ h=> h) h2,h3,h4,h5,h6⟩
  cases o with
  | live=> rw [ho _ _ (h5 rfl) (by simp)]; exact h1
  | frz=> rw [hf _ (h6 rfl)]; exact h1
  | dead=> exact absurd rfl ho'
 ·obtain ⟨h1,h2⟩:=h.iters b l n hb
  exact ⟨by rw [ho _ _ h2 (by simp)]; exact h1,h2⟩
 ·obtain ⟨h1,h2,h3⟩:=h.own b k hb
  exact ⟨Nat.lt_of_lt_of_le h1 hk.size,h2,h3⟩
 ·exact ⟨Nat.lt_of_lt_of_le (h.fzs b hb).1 hk.size,(h.fzs b hb).2⟩
 ·exact h.keep.trans hk fun b hb=> (h.own b _ (h.hand.2 b hb)).2.2
theorem Rel.gain (h:Rel w0 X0 fz m Y s a w) {b:Nat} (hb:b < w.heap.size) (hn:m.ω b=none) (hf:¬fz b) (hx:b∈X0\/w0.heap.size<=b):
  Rel w0 X0 fz { m with ω:=upd m.ω b (some .hand) } (b::Y) s a w:=by
 have ne:∀ {c k},m.ω c=some k->c≠b:=fun h e=> by subst e; rw [hn] at h; cases h
 have hm:MapsLe s m { m with ω:=upd m.ω b (some .hand) }:=⟨fun _ _=> rfl,fun _ _=> rfl⟩
 refine ⟨fun t=> RepS.le (StLe.refl _) hm (fun _ _=> rfl) (fun _ h=> h) (h.slots t),fun r t xs hr=> ?_,h.rowsF,fun c T o d hb ho'=> ?_,fun c l n hb=> ?_,⟨?_,?_⟩,fun c k hc=> ?_,h.fzs,h.keep,h.fz0s⟩
 ·obtain ⟨h1,h2,h3⟩:=h.rows r t xs hr
  exact ⟨h1,h2,fun c hc=> by show upd _ _ _ _=_; rw [YA _ _ (ne (h3 c hc))]; exact h3 c hc⟩
 ·obtain ⟨cs,el,fr,h1,h2,h3,h4,h5,h6⟩:=h.boxes c T o d hb ho'
  exact ⟨cs,el,fr,h1,RepP.le (StLe.refl _) hm (fun _ _=> rfl) (fun _ h=> h) h2,h3,h4,fun e=> by show upd _ _ _ _=_; rw [YA _ _ (ne (h5 e))]; exact h5 e,h6⟩
 ·obtain ⟨h1,h2⟩:=h.iters c l n hb
  exact ⟨h1,by show upd _ _ _ _=_; rw [YA _ _ (ne h2)]; exact h2⟩
 ·exact Yfv.2 ⟨fun hy=> ne (h.hand.2 b hy) rfl,h.hand.1⟩
 ·intro c hc
  rcases Yuu.1 hc with rfl | hc
  ·exact YF1 _ _ _
  ·show upd _ _ _ _=_
   rw [YA _ _ (ne (h.hand.2 c hc))]; exact h.hand.2 c hc
 ·by_cases e:c=b
  ·subst e; exact ⟨hb,hf,hx⟩
  ·have hc':upd m.ω b (some .hand) c=some k:=hc
   rw [YA _ _ e] at hc'; exact h.own c k hc'
theorem Rel.fresh (h:Rel w0 X0 fz m Y s a w) {b:Nat} (hb:w.heap.size<=b):m.ω b=none/\¬fz b:=by
 refine ⟨?_,fun hf=> by have:=(h.fzs b hf).1; omega⟩
 cases e:m.ω b with
 | none=> rfl
 | some k=> have:=(h.own b k e).1; omega
theorem Rel.alloc (h:Rel w0 X0 fz m Y s a w) {w':World} (hk:Keep w Y w') {b:Nat} (hb:w.heap.size<=b) (hb':b < w'.heap.size):
  Rel w0 X0 fz { m with ω:=upd m.ω b (some .hand) } (b::Y) s a w':=
 (h.step hk).gain hb' (h.fresh hb).1 (h.fresh hb).2 (.inr (by have:=h.keep.size; omega))
theorem Rel.less (h:Rel w0 X0 fz m Y s a w) {Z:List Nat} (hn:Z.Nodup) (hz:∀ b∈Z,b∈Y):Rel w0 X0 fz m Z s a w:=
 ⟨h.slots,h.rows,h.rowsF,h.boxes,h.iters,⟨hn,fun b hb=> h.hand.2 b (hz b hb)⟩,h.own,h.fzs,h.keep,h.fz0s⟩
theorem Rel.perm (h:Rel w0 X0 fz m Y s a w) {Z:List Nat} (hp:Z.Perm Y):Rel w0 X0 fz m Z s a w:=
 h.less (hp.nodup_iff.2 h.hand.1) fun b hb=> hp.mem_iff.1 hb
theorem Rel.giveRow {X:List Nat} (h:Rel w0 X0 fz m (X++Y) s a w) {r:Nat} {t:Ty} {xs:List t.den} {v:Value} (hr:s.rows r=.none) (hx:Rep w fz (.sl true t) xs [v] X):
  Rel w0 X0 fz { m with ρ:=upd m.ρ r v,φ:=upd m.φ r X,ω:=updL m.ω X (some (.row r)) } Y (s.setRow r (.mk t .live xs)) a w/\
  MapsLe s m { m with ρ:=upd m.ρ r v,φ:=upd m.φ r X,ω:=updL m.ω X (some (.row r)) }/\StLe s (s.setRow r (.mk t .live xs)):=by
 have hm:MapsLe s m { m with ρ:=upd m.ρ r v,φ:=upd m.φ r X,ω:=updL m.ω X (some (.row r)) }:=⟨fun n hn=> YA _ _ (fun e=> by subst e; exact hn hr),fun _ _=> rfl⟩
 have hs:StLe s (s.setRow r (.mk t .live xs)):=StLe.newRow hr _
 have nX:∀ {c k},m.ω c=some k->k≠.hand->c∉X:=fun hc hk hX=> hk (by
  have:=h.hand.2 _ (YAu.2 (.inl hX)); rw [hc] at this; cases this; rfl)
 obtain ⟨hn1,hn2,hn3⟩:=List.nodup_append.1 h.hand.1
 refine ⟨⟨fun t=> RepS.le hs hm (fun _ _=> rfl) (fun _ h=> h) (h.slots t),fun n u ys hn=> ?_,fun n u ys hn=> ?_,fun b T o c hb ho=> ?_,fun b l n hb=> ?_,⟨hn2,fun b hb=> ?_⟩,fun b k hb=> ?_,h.fzs,h.keep,h.fz0s⟩,hm,hs⟩
 ·rw [Ys1] at hn
  by_cases e:n=r
  ·subst e
   rw [Yku rfl] at hn
   cases hn
   simp only [YF1]
   exact ⟨hx,hn1,fun b hb=> YF8 _ _ hb⟩
  ·rw [Yju e] at hn
   simp only [YA _ _ e]
   obtain ⟨h1,h2,h3⟩:=h.rows n u ys hn
   exact ⟨h1,h2,fun b hb=> by rw [Yg1 _ _ (nX (h3 b hb) (by simp))]; exact h3 b hb⟩
 ·rw [Ys1] at hn
  by_cases e:n=r
  ·subst e; rw [Yku rfl] at hn; cases hn
  ·rw [Yju e] at hn; simp only [YA _ _ e]; exact h.rowsF n u ys hn
 ·obtain ⟨cs,el,fr,h1,h2,h3,h4,h5,h6⟩:=h.boxes b T o c hb ho
  exact ⟨cs,el,fr,h1,RepP.le hs hm (fun _ _=> rfl) (fun _ h=> h) h2,h3,h4,fun e=> by show updL _ _ _ _=_; rw [Yg1 _ _ (nX (h5 e) (by simp))]; exact h5 e,h6⟩
 ·obtain ⟨h1,h2⟩:=h.iters b l n hb
  exact ⟨h1,by show updL _ _ _ _=_; rw [Yg1 _ _ (nX h2 (by simp))]; exact h2⟩
 ·show updL _ _ _ _=_
  rw [Yg1 _ _ (fun hX=> hn3 b hX b hb rfl)]; exact h.hand.2 b (YAu.2 (.inr hb))
 ·by_cases e:b∈X
  ·exact h.own b _ (h.hand.2 b (YAu.2 (.inl e)))
  ·have:updL m.ω X (some (.row r)) b=some k:=hb
   rw [Yg1 _ _ e] at this; exact h.own b k this
theorem Rel.giveBox {b':Nat} (h:Rel w0 X0 fz m (b'::Y) s a w) {b:Nat} {T:Ty} {c:PV} {cs:Array Value} {el:TypeId} {fr:Nat×Nat} (hb:s.boxes b=.none) (hw:w.heap[b']? =some (.cells cs el fr))
  (hc:RepP w fz m s c cs.toList) (hT:fits T c=true) (hF:FrOK fr cs.size):
  Rel w0 X0 fz { m with γ:=upd m.γ b b',ω:=upd m.ω b' (some (.box b)) } Y (s.setBox b (.cells T .live c)) a w/\
  MapsLe s m { m with γ:=upd m.γ b b',ω:=upd m.ω b' (some (.box b)) }/\StLe s (s.setBox b (.cells T .live c)):=by
 have hm:MapsLe s m { m with γ:=upd m.γ b b',ω:=upd m.ω b' (some (.box b)) }:=⟨fun _ _=> rfl,fun n hn=> YA _ _ (fun e=> by subst e; exact hn hb)⟩
 have hs:StLe s (s.setBox b (.cells T .live c)):=StLe.newBox hb _
 have hh:=h.hand.2 b' (by simp)
 have ne:∀ {c k},m.ω c=some k->k≠.hand->c≠b':=fun hc hk e=> hk (by subst e; rw [hh] at hc; cases hc; rfl)
 obtain ⟨hn1,hn2⟩:=Yfv.1 h.hand.1
 refine ⟨⟨fun t=> RepS.le hs hm (fun _ _=> rfl) (fun _ h=> h) (h.slots t),fun n u ys hn=> ?_,h.rowsF,fun n U o d hn ho=> ?_,fun n l k hn=> ?_,⟨hn2,fun c hc=> ?_⟩,fun c k hc'=> ?_,h.fzs,h.keep,h.fz0s⟩,hm,hs⟩
 ·obtain ⟨h1,h2,h3⟩:=h.rows n u ys hn
  exact ⟨h1,h2,fun c hc=> by show upd _ _ _ _=_; rw [YA _ _ (ne (h3 c hc) (by simp))]; exact h3 c hc⟩
 ·rw [YY] at hn
  by_cases e:n=b
  ·subst e
   rw [Yku rfl] at hn
   cases hn
   simp only [YF1]
   exact ⟨cs,el,fr,hw,RepP.le hs hm (fun _ _=> rfl) (fun _ h=> h) hc,hT,hF,fun _=> trivial,fun e=> by cases e⟩
  ·rw [Yju e] at hn
   simp only [YA _ _ e]
   obtain ⟨cs,el,fr,h1,h2,h3,h4,h5,h6⟩:=h.boxes n U o d hn ho
   exact ⟨cs,el,fr,h1,RepP.le hs hm (fun _ _=> rfl) (fun _ h=> h) h2,h3,h4,fun e=> by rw [YA _ _ (ne (h5 e) (by simp))]; exact h5 e,h6⟩
 ·rw [YY] at hn
  by_cases e:n=b
  ·subst e; rw [Yku rfl] at hn; cases hn
  ·rw [Yju e] at hn
   simp only [YA _ _ e]
   obtain ⟨h1,h2⟩:=h.iters n l k hn
   exact ⟨h1,by rw [YA _ _ (ne h2 (by simp))]; exact h2⟩
 ·show upd _ _ _ _=_
  rw [YA _ _ (fun e=> hn1 (by subst e; exact hc))]; exact h.hand.2 c (Y0v _ hc)
 ·by_cases e:c=b'
  ·subst e; exact h.own c _ hh
  ·have:upd m.ω b' (some (.box b)) c=some k:=hc'
   rw [YA _ _ e] at this; exact h.own c k this
theorem Rel.giveIter {b':Nat} (h:Rel w0 X0 fz m (b'::Y) s a w) {b:Nat} {l:List UInt8} {n:Nat} (hb:s.boxes b=.none) (hw:w.heap[b']? =some (.stringIter ⟨l.toArray⟩ n)):
  Rel w0 X0 fz { m with γ:=upd m.γ b b',ω:=upd m.ω b' (some (.box b)) } Y (s.setBox b (.iter l n)) a w/\
  MapsLe s m { m with γ:=upd m.γ b b',ω:=upd m.ω b' (some (.box b)) }/\StLe s (s.setBox b (.iter l n)):=by
 have hm:MapsLe s m { m with γ:=upd m.γ b b',ω:=upd m.ω b' (some (.box b)) }:=⟨fun _ _=> rfl,fun n hn=> YA _ _ (fun e=> by subst e; exact hn hb)⟩
 have hs:StLe s (s.setBox b (.iter l n)):=StLe.newBox hb _
 have hh:=h.hand.2 b' (by simp)
 have ne:∀ {c k},m.ω c=some k->k≠.hand->c≠b':=fun hc hk e=> hk (by subst e; rw [hh] at hc; cases hc; rfl)
 obtain ⟨hn1,hn2⟩:=Yfv.1 h.hand.1
 refine ⟨⟨fun t=> RepS.le hs hm (fun _ _=> rfl) (fun _ h=> h) (h.slots t),fun n u ys hn=> ?_,h.rowsF,fun n U o d hn ho=> ?_,fun n' l' k hn=> ?_,⟨hn2,fun c hc=> ?_⟩,fun c k hc'=> ?_,h.fzs,h.keep,h.fz0s⟩,hm,hs⟩
 ·obtain ⟨h1,h2,h3⟩:=h.rows n u ys hn
  exact ⟨h1,h2,fun c hc=> by show upd _ _ _ _=_; rw [YA _ _ (ne (h3 c hc) (by simp))]; exact h3 c hc⟩
 ·rw [YY] at hn
  by_cases e:n=b
  ·subst e; rw [Yku rfl] at hn; cases hn
  ·rw [Yju e] at hn
   simp only [YA _ _ e]
   obtain ⟨cs,el,fr,h1,h2,h3,h4,h5,h6⟩:=h.boxes n U o d hn ho
   exact ⟨cs,el,fr,h1,RepP.le hs hm (fun _ _=> rfl) (fun _ h=> h) h2,h3,h4,fun e=> by rw [YA _ _ (ne (h5 e) (by simp))]; exact h5 e,h6⟩
 ·rw [YY] at hn
  by_cases e:n'=b
  ·subst e
   rw [Yku rfl] at hn
   cases hn
   simp only [YF1]
   exact ⟨hw,trivial⟩
  ·rw [Yju e] at hn
   simp only [YA _ _ e]
   obtain ⟨h1,h2⟩:=h.iters n' l' k hn
   exact ⟨h1,by rw [YA _ _ (ne h2 (by simp))]; exact h2⟩
 ·show upd _ _ _ _=_
  rw [YA _ _ (fun e=> hn1 (by subst e; exact hc))]; exact h.hand.2 c (Y0v _ hc)
 ·by_cases e:c=b'
  ·subst e; exact h.own c _ hh
  ·have:upd m.ω b' (some (.box b)) c=some k:=hc'
   rw [YA _ _ e] at this; exact h.own c k this
theorem Rel.takeRow (h:Rel w0 X0 fz m Y s a w) {r:Nat} {t:Ty} {xs:List t.den} (hr:s.rows r=.mk t .live xs):
  Rel w0 X0 fz { m with ω:=updL m.ω (m.φ r) (some .hand) } (m.φ r++Y) (s.setRow r (.mk t .dead xs)) a w/\StLe s (s.setRow r (.mk t .dead xs)):=by
 have hm:MapsLe s m { m with ω:=updL m.ω (m.φ r) (some .hand) }:=⟨fun _ _=> rfl,fun _ _=> rfl⟩
 have hs:StLe s (s.setRow r (.mk t .dead xs)):=StLe.setRow hr _ _ rfl
 obtain ⟨g1,g2,g3⟩:=h.rows r t xs hr
 have nX:∀ {c k},m.ω c=some k->k≠.row r->c∉m.φ r:=fun hc hk hX=> hk (by rw [g3 _ hX] at hc; cases hc; rfl)
 refine ⟨⟨fun t=> RepS.le hs hm (fun _ _=> rfl) (fun _ h=> h) (h.slots t),fun n u ys hn=> ?_,fun n u ys hn=> ?_,fun b T o c hb ho=> ?_,fun b l n hb=> ?_,⟨?_,fun b hb=> ?_⟩,fun b k hb=> ?_,h.fzs,h.keep,h.fz0s⟩,hs⟩
 ·rw [Ys1] at hn
  by_cases e:n=r
  ·subst e; rw [Yku rfl] at hn; cases hn
  ·rw [Yju e] at hn
   obtain ⟨h1,h2,h3⟩:=h.rows n u ys hn
   exact ⟨h1,h2,fun b hb=> by show updL _ _ _ _=_; rw [Yg1 _ _ (nX (h3 b hb) (by simp [e]))]; exact h3 b hb⟩
 ·rw [Ys1] at hn
  by_cases e:n=r
  ·subst e; rw [Yku rfl] at hn; cases hn
  ·rw [Yju e] at hn; exact h.rowsF n u ys hn
 ·obtain ⟨cs,el,fr,h1,h2,h3,h4,h5,h6⟩:=h.boxes b T o c hb ho
  exact ⟨cs,el,fr,h1,RepP.le hs hm (fun _ _=> rfl) (fun _ h=> h) h2,h3,h4,fun e=> by show updL _ _ _ _=_; rw [Yg1 _ _ (nX (h5 e) (by simp))]; exact h5 e,h6⟩
 ·obtain ⟨h1,h2⟩:=h.iters b l n hb
  exact ⟨h1,by show updL _ _ _ _=_; rw [Yg1 _ _ (nX h2 (by simp))]; exact h2⟩
 ·refine List.nodup_append.2 ⟨g2,h.hand.1,fun x hx y hy e=> ?_⟩
  subst e
  exact nX (h.hand.2 x hy) (by simp) hx
 ·show updL _ _ _ _=_
  by_cases e:b∈m.φ r
  ·exact YF8 _ _ e
  ·rw [Yg1 _ _ e]; exact h.hand.2 b ((YAu.1 hb).resolve_left e)
 ·by_cases e:b∈m.φ r
  ·exact h.own b _ (g3 b e)
  ·have:updL m.ω (m.φ r) (some .hand) b=some k:=hb
   rw [Yg1 _ _ e] at this; exact h.own b k this
theorem Rel.backRow {X:List Nat} (h:Rel w0 X0 fz m (X++Y) s a w) {r:Nat} {t:Ty} {xs ys:List t.den} (hr:s.rows r=.mk t .dead xs) (hl:ys.length=xs.length) (hx:Rep w fz (.sl true t) ys [m.ρ r] X):
  Rel w0 X0 fz { m with φ:=upd m.φ r X,ω:=updL m.ω X (some (.row r)) } Y (s.setRow r (.mk t .live ys)) a w/\StLe s (s.setRow r (.mk t .live ys)):=by
 have hm:MapsLe s m { m with φ:=upd m.φ r X,ω:=updL m.ω X (some (.row r)) }:=⟨fun _ _=> rfl,fun _ _=> rfl⟩
 have hs:StLe s (s.setRow r (.mk t .live ys)):=StLe.setRow hr _ _ hl
 have nX:∀ {c k},m.ω c=some k->k≠.hand->c∉X:=fun hc hk hX=> hk (by
  have:=h.hand.2 _ (YAu.2 (.inl hX)); rw [hc] at this; cases this; rfl)
 obtain ⟨hn1,hn2,hn3⟩:=List.nodup_append.1 h.hand.1
 refine ⟨⟨fun t=> RepS.le hs hm (fun _ _=> rfl) (fun _ h=> h) (h.slots t),fun n u zs hn=> ?_,fun n u zs hn=> ?_,fun b T o c hb ho=> ?_,fun b l n hb=> ?_,⟨hn2,fun b hb=> ?_⟩,fun b k hb=> ?_,h.fzs,h.keep,h.fz0s⟩,hs⟩
 ·rw [Ys1] at hn
  by_cases e:n=r
  ·subst e
   rw [Yku rfl] at hn
   cases hn
   simp only [YF1]
   exact ⟨hx,hn1,fun b hb=> YF8 _ _ hb⟩
  ·rw [Yju e] at hn
   simp only [YA _ _ e]
   obtain ⟨h1,h2,h3⟩:=h.rows n u zs hn
   exact ⟨h1,h2,fun b hb=> by rw [Yg1 _ _ (nX (h3 b hb) (by simp))]; exact h3 b hb⟩
 ·rw [Ys1] at hn
  by_cases e:n=r
  ·subst e; rw [Yku rfl] at hn; cases hn
  ·rw [Yju e] at hn; exact h.rowsF n u zs hn
 ·obtain ⟨cs,el,fr,h1,h2,h3,h4,h5,h6⟩:=h.boxes b T o c hb ho
  exact ⟨cs,el,fr,h1,RepP.le hs hm (fun _ _=> rfl) (fun _ h=> h) h2,h3,h4,fun e=> by show updL _ _ _ _=_; rw [Yg1 _ _ (nX (h5 e) (by simp))]; exact h5 e,h6⟩
 ·obtain ⟨h1,h2⟩:=h.iters b l n hb
  exact ⟨h1,by show updL _ _ _ _=_; rw [Yg1 _ _ (nX h2 (by simp))]; exact h2⟩
 ·show updL _ _ _ _=_
  rw [Yg1 _ _ (fun hX=> hn3 b hX b hb rfl)]; exact h.hand.2 b (YAu.2 (.inr hb))
 ·by_cases e:b∈X
  ·exact h.own b _ (h.hand.2 b (YAu.2 (.inl e)))
  ·have:updL m.ω X (some (.row r)) b=some k:=hb
   rw [Yg1 _ _ e] at this; exact h.own b k this
theorem Rel.takeBox (h:Rel w0 X0 fz m Y s a w) {b:Nat} {T:Ty} {c:PV} (hb:s.boxes b=.cells T .live c):
  Rel w0 X0 fz { m with ω:=upd m.ω (m.γ b) (some .hand) } (m.γ b::Y) (s.setBox b (.cells T .dead c)) a w/\StLe s (s.setBox b (.cells T .dead c)):=by
 have hm:MapsLe s m { m with ω:=upd m.ω (m.γ b) (some .hand) }:=⟨fun _ _=> rfl,fun _ _=> rfl⟩
 have hs:StLe s (s.setBox b (.cells T .dead c)):=StLe.setBox hb _ _
 obtain ⟨cs0,el0,fr0,g1,g2,g3,g4,g5,g6⟩:=h.boxes b T _ c hb (by simp)
 have g5:=g5 rfl
 have nX:∀ {c k},m.ω c=some k->k≠.box b->c≠m.γ b:=fun hc hk e=> hk (by subst e; rw [g5] at hc; cases hc; rfl)
 refine ⟨⟨fun t=> RepS.le hs hm (fun _ _=> rfl) (fun _ h=> h) (h.slots t),fun n u ys hn=> ?_,h.rowsF,fun n U o d hn ho=> ?_,fun n l k hn=> ?_,⟨?_,fun c hc=> ?_⟩,fun c k hc=> ?_,h.fzs,h.keep,h.fz0s⟩,hs⟩
 ·obtain ⟨h1,h2,h3⟩:=h.rows n u ys hn
  exact ⟨h1,h2,fun c hc=> by show upd _ _ _ _=_; rw [YA _ _ (nX (h3 c hc) (by simp))]; exact h3 c hc⟩
 ·rw [YY] at hn
  by_cases e:n=b
  ·subst e; rw [Yku rfl] at hn; cases hn; exact absurd rfl ho
  ·rw [Yju e] at hn
   obtain ⟨cs,el,fr,h1,h2,h3,h4,h5,h6⟩:=h.boxes n U o d hn ho
   exact ⟨cs,el,fr,h1,RepP.le hs hm (fun _ _=> rfl) (fun _ h=> h) h2,h3,h4,fun e'=> by show upd _ _ _ _=_; rw [YA _ _ (nX (h5 e') (by simp [e]))]; exact h5 e',h6⟩
 ·rw [YY] at hn
  by_cases e:n=b
  ·subst e; rw [Yku rfl] at hn; cases hn
  ·rw [Yju e] at hn
   obtain ⟨h1,h2⟩:=h.iters n l k hn
   exact ⟨h1,by show upd _ _ _ _=_; rw [YA _ _ (nX h2 (by simp [e]))]; exact h2⟩
 ·exact Yfv.2 ⟨fun hy=> nX (h.hand.2 _ hy) (by simp) rfl,h.hand.1⟩
 ·show upd _ _ _ _=_
  by_cases e:c=m.γ b
  ·subst e; exact YF1 _ _ _
  ·rw [YA _ _ e]; exact h.hand.2 c ((Yuu.1 hc).resolve_left e)
 ·by_cases e:c=m.γ b
  ·subst e; exact h.own _ _ g5
  ·have:upd m.ω (m.γ b) (some .hand) c=some k:=hc
   rw [YA _ _ e] at this; exact h.own c k this
theorem Rel.backBox {b:Nat} (h:Rel w0 X0 fz m (m.γ b::Y) s a w) {T:Ty} {c0 c:PV} {cs:Array Value} {el:TypeId} {fr:Nat×Nat} (hb:s.boxes b=.cells T .dead c0) (hw:w.heap[m.γ b]? =some (.cells cs el fr))
  (hc:RepP w fz m s c cs.toList) (hT:fits T c=true) (hF:FrOK fr cs.size):
  Rel w0 X0 fz { m with ω:=upd m.ω (m.γ b) (some (.box b)) } Y (s.setBox b (.cells T .live c)) a w/\StLe s (s.setBox b (.cells T .live c)):=by
 have hm:MapsLe s m { m with ω:=upd m.ω (m.γ b) (some (.box b)) }:=⟨fun _ _=> rfl,fun _ _=> rfl⟩
 have hs:StLe s (s.setBox b (.cells T .live c)):=StLe.setBox hb _ _
 have hh:=h.hand.2 (m.γ b) (by simp)
 have ne:∀ {c k},m.ω c=some k->k≠.hand->c≠m.γ b:=fun hc hk e=> hk (by subst e; rw [hh] at hc; cases hc; rfl)
 obtain ⟨hn1,hn2⟩:=Yfv.1 h.hand.1
 refine ⟨⟨fun t=> RepS.le hs hm (fun _ _=> rfl) (fun _ h=> h) (h.slots t),fun n u ys hn=> ?_,h.rowsF,fun n U o d hn ho=> ?_,fun n l k hn=> ?_,⟨hn2,fun c hc=> ?_⟩,fun c k hc'=> ?_,h.fzs,h.keep,h.fz0s⟩,hs⟩
 ·obtain ⟨h1,h2,h3⟩:=h.rows n u ys hn
  exact ⟨h1,h2,fun c hc=> by show upd _ _ _ _=_; rw [YA _ _ (ne (h3 c hc) (by simp))]; exact h3 c hc⟩
 ·rw [YY] at hn
  by_cases e:n=b
  ·subst e
   rw [Yku rfl] at hn
   cases hn
   simp only [YF1]
   exact ⟨cs,el,fr,hw,RepP.le hs hm (fun _ _=> rfl) (fun _ h=> h) hc,hT,hF,fun _=> trivial,fun e=> by cases e⟩
  ·rw [Yju e] at hn
   obtain ⟨cs,el,fr,h1,h2,h3,h4,h5,h6⟩:=h.boxes n U o d hn ho
   exact ⟨cs,el,fr,h1,RepP.le hs hm (fun _ _=> rfl) (fun _ h=> h) h2,h3,h4,fun e=> by show upd _ _ _ _=_; rw [YA _ _ (ne (h5 e) (by simp))]; exact h5 e,h6⟩
 ·rw [YY] at hn
  by_cases e:n=b
  ·subst e; rw [Yku rfl] at hn; cases hn
  ·rw [Yju e] at hn
   obtain ⟨h1,h2⟩:=h.iters n l k hn
   exact ⟨h1,by show upd _ _ _ _=_; rw [YA _ _ (ne h2 (by simp))]; exact h2⟩
 ·show upd _ _ _ _=_
  rw [YA _ _ (fun e=> hn1 (by subst e; exact hc))]; exact h.hand.2 c (Y0v _ hc)
 ·by_cases e:c=m.γ b
  ·subst e; exact h.own _ _ hh
  ·have:upd m.ω (m.γ b) (some (.box b)) c=some k:=hc'
   rw [YA _ _ e] at this; exact h.own c k this
theorem Rel.freezeRow (h:Rel w0 X0 fz m Y s a w) {r:Nat} {t:Ty} {xs:List t.den} (hr:s.rows r=.mk t .live xs) (ht:t.pure=true):
  Rel w0 X0 (fun b=> fz b\/b∈m.φ r) { m with ω:=updL m.ω (m.φ r) none } Y (s.setRow r (.mk t .frz xs)) a w/\StLe s (s.setRow r (.mk t .frz xs)):=by
 have hm:MapsLe s m { m with ω:=updL m.ω (m.φ r) none }:=⟨fun _ _=> rfl,fun _ _=> rfl⟩
 have hs:StLe s (s.setRow r (.mk t .frz xs)):=StLe.setRow hr _ _ rfl
 obtain ⟨g1,g2,g3⟩:=h.rows r t xs hr
 have hff:∀ b,fz b->fz b\/b∈m.φ r:=fun b hb=> .inl hb
 have nX:∀ {c k},m.ω c=some k->k≠.row r->c∉m.φ r:=fun hc hk hX=> hk (by rw [g3 _ hX] at hc; cases hc; rfl)
 refine ⟨⟨fun t=> RepS.le hs hm (fun _ _=> rfl) hff (h.slots t),fun n u ys hn=> ?_,fun n u ys hn=> ?_,fun b T o c hb ho=> ?_,fun b l n hb=> ?_,⟨h.hand.1,fun b hb=> ?_⟩,fun b k hb=> ?_,fun b hb=> ?_,h.keep,fun b hb=> .inl (h.fz0s b hb)⟩,hs⟩
 ·rw [Ys1] at hn
  by_cases e:n=r
  ·subst e; rw [Yku rfl] at hn; cases hn
  ·rw [Yju e] at hn
   obtain ⟨h1,h2,h3⟩:=h.rows n u ys hn
   exact ⟨Rep.frame (fun _ _=> rfl) hff _ (fun _ _=> rfl) h1,h2,fun b hb=> by show updL _ _ _ _=_; rw [Yg1 _ _ (nX (h3 b hb) (by simp [e]))]; exact h3 b hb⟩
 ·rw [Ys1] at hn
  by_cases e:n=r
  ·subst e
   rw [Yku rfl] at hn
   cases hn
   exact ⟨ht,Rep.freeze ht g1⟩
  ·rw [Yju e] at hn
   exact ⟨(h.rowsF n u ys hn).1,Rep.frame (fun _ _=> rfl) hff _ (fun _ _=> rfl) (h.rowsF n u ys hn).2⟩
 ·obtain ⟨cs,el,fr,h1,h2,h3,h4,h5,h6⟩:=h.boxes b T o c hb ho
  exact ⟨cs,el,fr,h1,RepP.le hs hm (fun _ _=> rfl) hff h2,h3,h4,fun e=> by show updL _ _ _ _=_; rw [Yg1 _ _ (nX (h5 e) (by simp))]; exact h5 e,fun e=> .inl (h6 e)⟩
 ·obtain ⟨h1,h2⟩:=h.iters b l n hb
  exact ⟨h1,by show updL _ _ _ _=_; rw [Yg1 _ _ (nX h2 (by simp))]; exact h2⟩
 ·show updL _ _ _ _=_
  rw [Yg1 _ _ (nX (h.hand.2 b hb) (by simp))]; exact h.hand.2 b hb
 ·have hb':updL m.ω (m.φ r) none b=some k:=hb
  by_cases e:b∈m.φ r
  ·rw [YF8 _ _ e] at hb'; cases hb'
  ·rw [Yg1 _ _ e] at hb'
   obtain ⟨h1,h2,h3⟩:=h.own b k hb'
   exact ⟨h1,fun h=> h.elim h2 e,h3⟩
 ·exact hb.elim (h.fzs b) fun hb=> ⟨(h.own b _ (g3 b hb)).1,.inr (h.own b _ (g3 b hb)).2.2⟩
theorem Rel.freezeBox (h:Rel w0 X0 fz m Y s a w) {b:Nat} {T:Ty} {c:PV} (hb:s.boxes b=.cells T .live c):
  Rel w0 X0 (fun k=> fz k\/k=m.γ b) { m with ω:=upd m.ω (m.γ b) none } Y (s.setBox b (.cells T .frz c)) a w/\StLe s (s.setBox b (.cells T .frz c)):=by
 have hm:MapsLe s m { m with ω:=upd m.ω (m.γ b) none }:=⟨fun _ _=> rfl,fun _ _=> rfl⟩
 have hs:StLe s (s.setBox b (.cells T .frz c)):=StLe.setBox hb _ _
 obtain ⟨cs0,el0,fr0,g1,g2,g3,g4,g5,g6⟩:=h.boxes b T _ c hb (by simp)
 have g5:=g5 rfl
 have hff:∀ k,fz k->fz k\/k=m.γ b:=fun b hb=> .inl hb
 have nX:∀ {c k},m.ω c=some k->k≠.box b->c≠m.γ b:=fun hc hk e=> hk (by subst e; rw [g5] at hc; cases hc; rfl)
 refine ⟨⟨fun t=> RepS.le hs hm (fun _ _=> rfl) hff (h.slots t),fun n u ys hn=> ?_,fun n u ys hn=> ?_,fun n U o d hn ho=> ?_,fun n l k hn=> ?_,⟨h.hand.1,fun c hc=> ?_⟩,fun c k hc=> ?_,fun c hc=> ?_,h.keep,fun c hc=> .inl (h.fz0s c hc)⟩,hs⟩
 ·obtain ⟨h1,h2,h3⟩:=h.rows n u ys hn
  exact ⟨Rep.frame (fun _ _=> rfl) hff _ (fun _ _=> rfl) h1,h2,fun c hc=> by show upd _ _ _ _=_; rw [YA _ _ (nX (h3 c hc) (by simp))]; exact h3 c hc⟩
 ·exact ⟨(h.rowsF n u ys hn).1,Rep.frame (fun _ _=> rfl) hff _ (fun _ _=> rfl) (h.rowsF n u ys hn).2⟩
 ·rw [YY] at hn
  by_cases e:n=b
  ·subst e
   rw [Yku rfl] at hn
   cases hn
   exact ⟨cs0,el0,fr0,g1,RepP.le hs hm (fun _ _=> rfl) hff g2,g3,g4,fun e=> (by cases e),fun _=> .inr rfl⟩
  ·rw [Yju e] at hn
   obtain ⟨cs,el,fr,h1,h2,h3,h4,h5,h6⟩:=h.boxes n U o d hn ho
   exact ⟨cs,el,fr,h1,RepP.le hs hm (fun _ _=> rfl) hff h2,h3,h4,fun e'=> by show upd _ _ _ _=_; rw [YA _ _ (nX (h5 e') (by simp [e]))]; exact h5 e',fun e=> .inl (h6 e)⟩
 ·rw [YY] at hn
  by_cases e:n=b
  ·subst e; rw [Yku rfl] at hn; cases hn
  ·rw [Yju e] at hn
   obtain ⟨h1,h2⟩:=h.iters n l k hn
   exact ⟨h1,by show upd _ _ _ _=_; rw [YA _ _ (nX h2 (by simp [e]))]; exact h2⟩
 ·show upd _ _ _ _=_
  rw [YA _ _ (nX (h.hand.2 c hc) (by simp))]; exact h.hand.2 c hc
 ·have hc':upd m.ω (m.γ b) none c=some k:=hc
  by_cases e:c=m.γ b
  ·subst e; rw [YF1] at hc'; cases hc'
  ·rw [YA _ _ e] at hc'
   obtain ⟨h1,h2,h3⟩:=h.own c k hc'
   exact ⟨h1,fun h=> h.elim h2 e,h3⟩
 ·exact hc.elim (h.fzs c) fun e=> by subst e; exact ⟨(h.own _ _ g5).1,.inr (h.own _ _ g5).2.2⟩
end
end Go.Abs
namespace Go.Abs
theorem RepL.drop {α:Type} {R:α->List Value->List Nat->Prop} {n:Nat} (hR:∀ x cs X,R x cs X->cs.length=n/\X=[]):
  ∀ {xs:List α} {cs:List Value} (k:Nat),RepL R xs cs []->RepL R (xs.drop k) (cs.drop (k*n)) []
 | xs,cs,0,h=> by simpa using h
 | [],cs,k+1,h=> by rw [h.1]; simp [RepL]
 | x::xs,cs,k+1,h=> by
  obtain ⟨c1,c2,X1,X2,rfl,h0,h1,h2⟩:=h
  have e1:=hR _ _ _ h1
  have:X2=[]:=RepL.pure (fun x cs X h=> (hR x cs X h).2) h2
  subst this
  rw [List.drop_succ_cons,show (k+1)*n=c1.length+k*n by rw [Nat.succ_mul,e1.1]; omega,List.drop_append,YPu (as:=c1) (by omega),YIu,Nat.add_sub_cancel_left]
  exact RepL.drop hR k h2
theorem RepL.take {α:Type} {R:α->List Value->List Nat->Prop} {n:Nat} (hR:∀ x cs X,R x cs X->cs.length=n/\X=[]):
  ∀ {xs:List α} {cs:List Value} (k:Nat),RepL R xs cs []->RepL R (xs.take k) (cs.take (k*n)) []
 | xs,cs,0,h=> by simp [RepL]
 | [],cs,k+1,h=> by rw [h.1]; simp [RepL]
 | x::xs,cs,k+1,h=> by
  obtain ⟨c1,c2,X1,X2,rfl,h0,h1,h2⟩:=h
  have e1:=hR _ _ _ h1
  have:X2=[]:=RepL.pure (fun x cs X h=> (hR x cs X h).2) h2
  subst this
  have:=RepL.take hR k h2
  rw [List.take_succ_cons,show (k+1)*n=c1.length+k*n by rw [Nat.succ_mul,e1.1]; omega,List.take_append,YWu (by omega:c1.length<=c1.length+k*n),Nat.add_sub_cancel_left]
  exact ⟨c1,_,[],[],rfl,rfl,by rw [e1.2] at h1; exact h1,this⟩
theorem YH8 {c:Array Value} {off n k:Nat} (l:Nat) (h:k+l<=n):((Yl c off n).drop k).take l=Yl c (off+k) l:=YR5 _ _ _ _ _ h
theorem Rep.part {w:World} {fz:Nat->Prop} {t:Ty} (ht:t.pure=true) {xs:List t.den} {v:Value} {lo hi:Nat} {cs:List Value} (h:Rep w fz (.sl false t) xs [v] []) (h1:lo<=hi) (h2:hi<=xs.length) (hp:Yq3 v t.size lo hi cs):
  Rep w fz (.sl false t) ((xs.take hi).drop lo) cs []:=by
 have hR:∀ x cs X,Rep w fz t x cs X->cs.length=t.size/\X=[]:=fun x cs X h=> ⟨Rep.length t h,Rep.pure t ht h⟩
 rcases hp with ⟨rfl,rfl,rfl,rfl⟩ | ⟨a,rfl,rfl,rfl,rfl⟩ | ⟨b,off,len,cap,off',cap',rfl,rfl,h3,h4,h5,h6'⟩
 ·exact .inl ⟨rfl,by simp,rfl⟩
 ·exact .inr (.inr ⟨rfl,a,rfl,by simp,rfl⟩)
 ·rcases h with ⟨h,_⟩ | ⟨b',off1,cap1,c,el,fr,X',e1,e2,e3,e4,e5,e6,rfl,_⟩ | ⟨_,b',e1,rfl,_⟩
  ·simp at h
  rotate_left
  ·simp only [List.cons.injEq,Value.slice.injEq,and_true] at e1
   obtain ⟨_,rfl,rfl⟩:=e1
   have:lo=0:=by have:=h2; simp at this; omega
   have:hi=0:=by simpa using h2
   subst this
   obtain rfl:cap'=0:=by omega
   exact .inr (.inr ⟨rfl,⟨b,off',none⟩,by rw [Nat.zero_sub],by simp,rfl⟩)
  ·simp only [List.cons.injEq,Value.slice.injEq,Ytu,Addr.mk.injEq,and_true] at e1
   obtain ⟨⟨rfl,rfl⟩,rfl,rfl⟩:=e1
   refine .inr (.inl ⟨b,off',cap',c,el,fr,[],?_,e2,?_,by omega,?_,e6,rfl,rfl⟩)
   ·simp only [Yzu,Yyu,Nat.min_eq_left h2]
   ·simp only [Yzu,Yyu,Nat.min_eq_left h2]; exact h5
   ·by_cases hlt:lo < hi
    ·have:=RepL.drop hR lo (RepL.take hR hi e5)
     rw [h3 hlt]
     have el:((xs.take hi).drop lo).length*t.size=(hi - lo)*t.size:=by simp [Nat.min_eq_left h2]
     rw [el]
     have e7:hi*t.size=lo*t.size+(hi - lo)*t.size:=by rw [<-Nat.add_mul]; congr 1; omega
     have e8:hi*t.size<=xs.length*t.size:=YTu _ h2
     have e9:((Yl c off (xs.length*t.size)).take (hi*t.size)).drop (lo*t.size)=Yl c (off+lo*t.size) ((hi - lo)*t.size):=by
      rw [List.drop_take,show hi*t.size - lo*t.size=(hi - lo)*t.size by omega]
      exact YH8 _ (by omega)
     rw [<-e9]; exact this
    ·have:(xs.take hi).drop lo=[]:=YPu (by simp; omega)
     rw [this]
     simp [RepL,Yl]
theorem Yj3 (t:Ty):∀ s,Yh t .undef s=none:=by
 induction t with
 | pair a b iha ihb=> intro s; simp [Yh,Yo,PV.fst,iha]
 | st a ih=> intro s; simp [Yh,Yo,PV.inn,ih]
 | sl own a _=> intro s; cases own <;> simp [Yh,St.elems,Yo]
 | _=> intro s; simp [Yh,Yo]
structure Par (s0 s sK:St):Prop where
 slots:s.slots=s0.slots/\sK.slots=s0.slots
 rows:∀ r,(s.rows r=s0.rows r/\sK.rows r=s0.rows r)\/(∃ t xs,s0.rows r=.mk t .live xs/\((s.rows r=.mk t .frz xs/\sK.rows r=.mk t .live xs)\/(s.rows r=.mk t .dead xs/\sK.rows r=.mk t .dead xs)))
 boxes:∀ b,(s.boxes b=s0.boxes b/\sK.boxes b=s0.boxes b)\/(∃ T c,s0.boxes b=.cells T .live c/\((s.boxes b=.cells T .frz c/\sK.boxes b=.cells T .live c)\/(s.boxes b=.cells T .dead c/\sK.boxes b=.cells T .dead c)))
theorem Par.refl (s:St):Par s s s:=⟨⟨rfl,rfl⟩,fun _=> .inl ⟨rfl,rfl⟩,fun _=> .inl ⟨rfl,rfl⟩⟩
theorem Par.thaw {s0 s sK:St} (h:Par s0 s sK):s0.thaw s=sK:=by
 have h1:(fun n=> YC8 (s0.rows n) (s.rows n))=sK.rows:=by
  funext r
  rcases h.rows r with ⟨e1,e2⟩ | ⟨t,xs,e0,⟨e1,e2⟩ | ⟨e1,e2⟩⟩
  ·rw [e1,e2]
   cases s0.rows r with
   | none=> rfl
   | mk t o xs=> cases o <;> rfl
  ·rw [e0,e1,e2]; rfl
  ·rw [e0,e1,e2]; rfl
 have h2:(fun n=> Ys6 (s0.boxes n) (s.boxes n))=sK.boxes:=by
  funext r
  rcases h.boxes r with ⟨e1,e2⟩ | ⟨T,c,e0,⟨e1,e2⟩ | ⟨e1,e2⟩⟩
  ·rw [e1,e2]
   cases s0.boxes r with
   | none=> rfl
   | cells T o c=> cases o <;> rfl
   | iter l n=> rfl
  ·rw [e0,e1,e2]; rfl
  ·rw [e0,e1,e2]; rfl
 unfold St.thaw
 rw [h1,h2,h.slots.1,<-h.slots.2]
theorem Par.live {s0 s sK:St} (h:Par s0 s sK) {r:Nat} {t:Ty} {xs:List t.den} (hr:s.rows r=.mk t .live xs):sK.rows r=.mk t .live xs/\s0.rows r=.mk t .live xs:=by
 rcases h.rows r with ⟨e1,e2⟩ | ⟨u,ys,e0,⟨e1,e2⟩ | ⟨e1,e2⟩⟩
 ·rw [e2,<-e1]; exact ⟨hr,hr⟩
 ·rw [e1] at hr; cases hr
 ·rw [e1] at hr; cases hr
theorem Par.liveBox {s0 s sK:St} (h:Par s0 s sK) {b:Nat} {T:Ty} {c:PV} (hb:s.boxes b=.cells T .live c):sK.boxes b=.cells T .live c/\s0.boxes b=.cells T .live c:=by
 rcases h.boxes b with ⟨e1,e2⟩ | ⟨U,d,e0,⟨e1,e2⟩ | ⟨e1,e2⟩⟩
 ·rw [e2,<-e1]; exact ⟨hb,hb⟩
 ·rw [e1] at hb; cases hb
 ·rw [e1] at hb; cases hb
theorem Par.freezeRow {s0 s sK:St} (h:Par s0 s sK) {r:Nat} {t:Ty} {xs:List t.den} (hr:s.rows r=.mk t .live xs):Par s0 (s.setRow r (.mk t .frz xs)) sK:=by
 obtain ⟨e1,e2⟩:=h.live hr
 refine ⟨h.slots,fun n=> ?_,h.boxes⟩
 rw [Ys1]
 by_cases e:n=r
 ·subst e; rw [Yku rfl]; exact .inr ⟨t,xs,e2,.inl ⟨rfl,e1⟩⟩
 ·rw [Yju e]; exact h.rows n
theorem Par.takeRow {s0 s sK:St} (h:Par s0 s sK) {r:Nat} {t:Ty} {xs:List t.den} (hr:s.rows r=.mk t .live xs):Par s0 (s.setRow r (.mk t .dead xs)) (sK.setRow r (.mk t .dead xs)):=by
 obtain ⟨e1,e2⟩:=h.live hr
 refine ⟨h.slots,fun n=> ?_,h.boxes⟩
 rw [Ys1,Ys1]
 by_cases e:n=r
 ·subst e; rw [Yku rfl,Yku rfl]; exact .inr ⟨t,xs,e2,.inr ⟨rfl,rfl⟩⟩
 ·rw [Yju e,Yju e]; exact h.rows n
theorem Par.freezeBox {s0 s sK:St} (h:Par s0 s sK) {b:Nat} {T:Ty} {c:PV} (hb:s.boxes b=.cells T .live c):Par s0 (s.setBox b (.cells T .frz c)) sK:=by
 obtain ⟨e1,e2⟩:=h.liveBox hb
 refine ⟨h.slots,h.rows,fun n=> ?_⟩
 rw [YY]
 by_cases e:n=b
 ·subst e; rw [Yku rfl]; exact .inr ⟨T,c,e2,.inl ⟨rfl,e1⟩⟩
 ·rw [Yju e]; exact h.boxes n
theorem Par.takeBox {s0 s sK:St} (h:Par s0 s sK) {b:Nat} {T:Ty} {c:PV} (hb:s.boxes b=.cells T .live c):Par s0 (s.setBox b (.cells T .dead c)) (sK.setBox b (.cells T .dead c)):=by
 obtain ⟨e1,e2⟩:=h.liveBox hb
 refine ⟨h.slots,h.rows,fun n=> ?_⟩
 rw [YY,YY]
 by_cases e:n=b
 ·subst e; rw [Yku rfl,Yku rfl]; exact .inr ⟨T,c,e2,.inr ⟨rfl,rfl⟩⟩
 ·rw [Yju e,Yju e]; exact h.boxes n
section
variable {w0:World} {X0:Ent} {a:Act} {w:World}
structure After (w0:World) (X0:Ent) (a:Act) (w:World) (fz fzK:Nat->Prop) (m:Maps) (Y:List Nat) (s0 s sK s':St) (fz':Nat->Prop) (ω' ωK':Nat->Option Key) (sK':St) (X:List Nat):Prop where
 rel:Rel w0 X0 fz' { m with ω:=ω' } (X++Y) s' a w
 relK:Rel w0 X0 fzK { m with ω:=ωK' } (X++Y) sK' a w
 par:Par s0 s' sK'
 le:StLe s s'
 fzs:∀ b,fz b->fz' b
 fzK:∀ b,fzK b->fz' b
theorem Y9q {fz fzK:Nat->Prop} {m:Maps} {ω ωK:Nat->Option Key} {Y:List Nat} {s0 s sK:St} (h:Rel w0 X0 fz { m with ω:=ω } Y s a w) (hK:Rel w0 X0 fzK { m with ω:=ωK } Y sK a w) (hP:Par s0 s sK) (hfz:∀ b,fzK b->fz b)
  {t:Ty} {p:PV} {cs:List Value} (hp:RepP w fz { m with ω:=ω } s p cs) {xs:List t.den} (he:s.elems t p=some xs):
  ∃ fz' ω',After w0 X0 a w fz fzK m Y s0 s sK (s.freeze p) fz' ω' ωK sK []/\Rep w fz' (.sl false t) xs cs []:=by
 cases p with
 | val u x=>
  cases u with
  | sl o u=>
   simp only [St.elems] at he
   obtain ⟨e,rfl⟩:=Ty.cast_some he
   cases e
   obtain ⟨hp1,hp2⟩:=hp
   simp only [Ty.pure,Ylu] at hp1
   cases o with
   | true=> simp at hp1
   | false=> exact ⟨fz,ω,⟨h,hK,hP,StLe.refl _,fun _ h=> h,hfz⟩,hp2⟩
  | _=> simp [St.elems] at he
 | nils=>
  simp only [St.elems,Ytu] at he
  subst he
  exact ⟨fz,ω,⟨h,hK,hP,StLe.refl _,fun _ h=> h,hfz⟩,.inl ⟨hp,rfl,rfl⟩⟩
 | row r=>
  obtain ⟨rfl,hp2,hp3⟩:=hp
  cases hr:s.rows r with
  | none=> exact absurd hr hp3
  | mk u o ys=>
   simp only [St.elems,hr] at he
   cases o with
   | dead=> simp at he
   | live=>
    cases hu:u.pure with
    | false=> simp [hu] at he
    | true=>
     simp only [hu,Ygu] at he
     obtain ⟨e,rfl⟩:=Ty.cast_some he
     cases e
     have e1:s.freeze (.row r)=s.setRow r (.mk t .frz ys):=by simp only [St.freeze,St.freezeRow,hr]
     obtain ⟨g1,g2⟩:=h.freezeRow hr hu
     rw [e1]
     refine ⟨_,_,⟨g1,hK,hP.freezeRow hr,g2,fun b hb=> .inl hb,fun b hb=> .inl (hfz b hb)⟩,?_⟩
     exact Rep.freeze hu (h.rows r t ys hr).1
   | frz=>
    cases hu:u.pure with
    | false=> simp [hu] at he
    | true=>
     simp only [hu,Ygu] at he
     obtain ⟨e,rfl⟩:=Ty.cast_some he
     cases e
     have e1:s.freeze (.row r)=s:=by simp only [St.freeze,St.freezeRow,hr]
     rw [e1]
     exact ⟨fz,ω,⟨h,hK,hP,StLe.refl _,fun _ h=> h,hfz⟩,(h.rowsF r t ys hr).2⟩
 | part r lo hi=>
  obtain ⟨u,o,ys,hr,h1,h2,h3⟩:=hp
  simp only [St.elems,hr] at he
  cases o with
  | dead=> simp at he
  | live=>
   cases hu:u.pure with
   | false=> simp [hu] at he
   | true=>
    simp only [hu,Ygu] at he
    obtain ⟨e,rfl⟩:=Ty.cast_some he
    cases e
    have e1:s.freeze (.part r lo hi)=s.setRow r (.mk t .frz ys):=by simp only [St.freeze,St.freezeRow,hr]
    obtain ⟨g1,g2⟩:=h.freezeRow hr hu
    rw [e1]
    refine ⟨_,_,⟨g1,hK,hP.freezeRow hr,g2,fun b hb=> .inl hb,fun b hb=> .inl (hfz b hb)⟩,?_⟩
    exact Rep.part hu (Rep.freeze hu (h.rows r t ys hr).1) h1 h2 h3
  | frz=>
   cases hu:u.pure with
   | false=> simp [hu] at he
   | true=>
    simp only [hu,Ygu] at he
    obtain ⟨e,rfl⟩:=Ty.cast_some he
    cases e
    have e1:s.freeze (.part r lo hi)=s:=by simp only [St.freeze,St.freezeRow,hr]
    rw [e1]
    exact ⟨fz,ω,⟨h,hK,hP,StLe.refl _,fun _ h=> h,hfz⟩,Rep.part hu (h.rowsF r t ys hr).2 h1 h2 h3⟩
 | bpart b path lo hi=>
  obtain ⟨T,o,c,n,u,hb,h1,h2,h3,h4,off',cap',h5,h6,h7,h8⟩:=hp
  simp only [St.elems,hb] at he
  have hod:o≠.dead:=by intro e; subst e; simp at he
  obtain ⟨cs',el,fr,g1,g2,g3,g4,g5,g6⟩:=h.boxes b T o c hb hod
  obtain ⟨k1,k2⟩:=RepP.get h1 g2 g3
  have he':∃ n' x,c.get path=.val (.arr n' t) x/\xs=(List.take hi x).drop lo:=by
   cases o with
   | dead=> exact absurd rfl hod
   | _=>
    simp only at he
    split at he
    ·rename_i n' u' x hx
     obtain ⟨e,rfl⟩:=Ty.cast_some he
     cases e
     exact ⟨n',x,hx,rfl⟩
    ·cases he
  obtain ⟨n',x,hx,rfl⟩:=he'
  rw [hx] at k1 k2
  rw [YU,h2] at k2
  simp only [Ty.same,Ylu] at k2
  have hn:=YOu k2.1
  subst hn
  have hs:=Ty.same_size k2.2
  obtain ⟨k3,k4,k5⟩:=k1
  have hpure:t.pure=true:=k3
  have hR:∀ x cs X,Rep w fz t x cs X->cs.length=t.size/\X=[]:=fun x cs X h=> ⟨Rep.length t h,Rep.pure t hpure h⟩
  have hoff:=Ty.off_le h1
  rw [h2] at hoff k5
  have hT:cs'.size=T.size:=by
   have:=RepP.size g2
   rw [(YW g3).2] at this
   simpa using this
  have core:∀ fz':Nat->Prop,(∀ k,fz k->fz' k)->fz' (m.γ b)->Rep w fz' (.sl false t) ((List.take hi x).drop lo) cs []:=by
   intro fz' hf1 hf2
   have hlen:((List.take hi x).drop lo).length=hi - lo:=by simp [k4,Nat.min_eq_left h4]
   refine .inr (.inl ⟨m.γ b,off',cap',cs',el,fr,[],by rw [hlen]; exact h5,g1,by rw [hlen]; exact h8,?_,?_,hf2,rfl,rfl⟩)
   ·have:(Ty.arr n u).size=n*u.size:=rfl
    rw [this,hs.1] at hoff
    rw [hs.1] at h7
    omega
   ·rw [hlen]
    by_cases hlt:lo < hi
    ·have:=RepL.drop hR lo (RepL.take hR hi k5)
     have e7:hi*t.size=lo*t.size+(hi - lo)*t.size:=by rw [<-Nat.add_mul]; congr 1; omega
     have e8:hi*t.size<=n*t.size:=YTu _ h4
     have e9:((List.take (Ty.arr n u).size (List.drop (T.off path) cs'.toList)).take (hi*t.size)).drop (lo*t.size)=Yl cs' off' ((hi - lo)*t.size):=by
      rw [List.drop_take,show hi*t.size - lo*t.size=(hi - lo)*t.size by omega,h6 hlt,hs.1]
      exact YR5 _ _ _ _ _ (by show _<=n*u.size; rw [hs.1]; omega)
     rw [<-e9]
     exact RepL.mono (fun x cs X' h _=> Rep.frame (fun _ _=> rfl) hf1 t (fun _ _=> rfl) h) this
    ·have:(List.take hi x).drop lo=[]:=YPu (by simp; omega)
     rw [this]
     have e0:(hi - lo)*t.size=0:=by rw [show hi - lo=0 by omega]; simp
     rw [e0]
     simp [RepL,Yl]
  cases o with
  | dead=> exact absurd rfl hod
  | live=>
   have e1:s.freeze (.bpart b path lo hi)=s.setBox b (.cells T .frz c):=by simp only [St.freeze,St.freezeBox,hb]
   obtain ⟨q1,q2⟩:=h.freezeBox hb
   rw [e1]
   exact ⟨_,_,⟨q1,hK,hP.freezeBox hb,q2,fun b hb=> .inl hb,fun b hb=> .inl (hfz b hb)⟩,core _ (fun k hk=> .inl hk) (.inr rfl)⟩
  | frz=>
   have e1:s.freeze (.bpart b path lo hi)=s:=by simp only [St.freeze,St.freezeBox,hb]
   rw [e1]
   exact ⟨fz,ω,⟨h,hK,hP,StLe.refl _,fun _ h=> h,hfz⟩,core fz (fun _ h=> h) (g6 rfl)⟩
 | _=> simp [St.elems] at he
end
end Go.Abs
namespace Go.Abs
section
variable {w0:World} {X0:Ent} {a:Act} {w:World}
theorem After.keep {fz fzK:Nat->Prop} {m:Maps} {ω ωK:Nat->Option Key} {Y:List Nat} {s0 s sK:St} (h:Rel w0 X0 fz { m with ω:=ω } Y s a w) (hK:Rel w0 X0 fzK { m with ω:=ωK } Y sK a w) (hP:Par s0 s sK) (hfz:∀ b,fzK b->fz b):
  After w0 X0 a w fz fzK m Y s0 s sK s fz ω ωK sK []:=⟨h,hK,hP,StLe.refl _,fun _ h=> h,hfz⟩
theorem After.trans {fz fzK fz1 fz2:Nat->Prop} {m:Maps} {ω1 ωK1 ω2 ωK2:Nat->Option Key} {Y X1 X2:List Nat} {s0 s sK s1 sK1 s2 sK2:St}
  (h:After w0 X0 a w fz fzK m Y s0 s sK s1 fz1 ω1 ωK1 sK1 X1) (g:After w0 X0 a w fz1 fzK m (X1++Y) s0 s1 sK1 s2 fz2 ω2 ωK2 sK2 X2):
  After w0 X0 a w fz fzK m Y s0 s sK s2 fz2 ω2 ωK2 sK2 (X1++X2):=by
 have hp:(X1++X2++Y).Perm (X2++(X1++Y)):=by
  rw [<-Ypu]; exact List.Perm.append_right _ List.perm_append_comm
 exact ⟨g.rel.perm hp,g.relK.perm hp,g.par,h.le.trans g.le,fun b hb=> g.fzs b (h.fzs b hb),g.fzK⟩
theorem RepP.parts {fz:Nat->Prop} {m:Maps} {s:St} {p:PV} {cs:List Value} (h:RepP w fz m s p cs):
  (p.fst=.undef/\p.snd=.undef)\/∃ c1 c2,cs=c1++c2/\RepP w fz m s p.fst c1/\RepP w fz m s p.snd c2:=by
 cases p with
 | val t x=>
  cases t with
  | pair a b=>
   obtain ⟨hp1,c1,c2,X1,X2,h1,h2,h3,h4⟩:=h
   simp only [Ty.pure,Ylu] at hp1
   have e1:=Rep.pure a hp1.1 h3
   have e2:=Rep.pure b hp1.2 h4
   subst e1; subst e2
   exact .inr ⟨c1,c2,h1,⟨hp1.1,h3⟩,⟨hp1.2,h4⟩⟩
  | _=> exact .inl ⟨rfl,rfl⟩
 | pair a b=> exact .inr h
 | _=> exact .inl ⟨rfl,rfl⟩
theorem RepP.innU {fz:Nat->Prop} {m:Maps} {s:St} {p:PV} {cs:List Value} (h:RepP w fz m s p cs):p.inn=.undef\/RepP w fz m s p.inn cs:=by
 cases p with
 | val t x=>
  cases t with
  | st a=> exact .inr h
  | _=> exact .inl rfl
 | st a=> exact .inr h
 | _=> exact .inl rfl
theorem Ysi {c:Array Value} {off n k:Nat} (h:k<=n):(Yl c off n).take k=Yl c off k:=by
 rw [Yl,List.take_take,Nat.min_eq_left h]; rfl
theorem Rep.partOwn {fz:Nat->Prop} {u1:Ty} (hu:u1.pure=true) {xs1:List u1.den} {hi:Nat} (hhi:hi<=xs1.length) {v v':Value} {X:List Nat} (h:Rep w fz (.sl true u1) xs1 [v] X) (hpart:Yq3 v u1.size 0 hi [v']):
  Rep w fz (.sl true u1) (xs1.take hi) [v'] X:=by
 have hR:∀ x cs X,Rep w fz u1 x cs X->cs.length=u1.size/\X=[]:=fun x cs X h=> ⟨Rep.length u1 h,Rep.pure u1 hu h⟩
 rcases hpart with ⟨e0,e1,_,rfl⟩ | ⟨a,e0,e1,_,rfl⟩ | ⟨b,off,len,cap,off',cap',e0,e1,h3,h4,h5⟩
 rotate_left
 ·cases e1
  rw [e0] at h
  rw [List.take_zero]
  rcases h with ⟨e,_,hX⟩ | ⟨b',off1,cap1,c,el,fr,X',e,q2,q3,q4,q5,q6,q7⟩ | ⟨h,_⟩
  ·cases e
  ·simp only [List.cons.injEq,Value.slice.injEq,Ytu,and_true] at e
   obtain ⟨rfl,e1,rfl⟩:=e
   have e2:xs1=[]:=YRu e1.symm
   subst e2
   exact .inr (.inl ⟨b',off1,0,c,el,fr,X',rfl,q2,q3,q4,q5,q6,q7⟩)
  ·cases h
 rotate_right
 ·cases e1
  rcases h with ⟨e,_,hX⟩ | ⟨b',off1,cap1,c,el,fr,X',e,_⟩ | ⟨h,_⟩
  ·exact .inl ⟨rfl,by simp,hX⟩
  ·rw [e0] at e; cases e
  ·cases h
 ·cases e1
  rcases h with ⟨e,_,hX⟩ | ⟨b',off1,cap1,c,el,fr,X',e,q2,q3,q4,q5,q6,q7⟩ | ⟨h,_⟩
  ·rw [e0] at e; cases e
  rotate_left
  ·cases h
  ·rw [e0] at e
   simp only [List.cons.injEq,Value.slice.injEq,Ytu,Addr.mk.injEq,and_true] at e
   obtain ⟨⟨rfl,rfl⟩,rfl,rfl⟩:=e
   have hX':X'=[]:=RepL.pure (fun x cs X h=> (hR x cs X h).2) q5
   subst hX'
   have hlen:(xs1.take hi).length=hi:=by simp [Nat.min_eq_left hhi]
   refine .inr (.inl ⟨b,off',cap',c,el,fr,[],by rw [hlen,Nat.sub_zero],q2,by rw [hlen]; omega,by omega,?_,q6,q7⟩)
   rw [hlen]
   have hin:hi*u1.size<=xs1.length*u1.size:=YTu _ hhi
   by_cases h0:0 < hi
   ·have:=RepL.take hR hi q5
    rw [Ysi hin] at this
    rw [h3 h0,Nat.zero_mul,Nat.add_zero]
    exact this
   ·have:hi=0:=by omega
    subst this
    simp [RepL,Yl]
theorem Yi3 (t:Ty):∀ {fz fzK:Nat->Prop} {m:Maps} {ω ωK:Nat->Option Key} {Y:List Nat} {s0 s sK:St} {p:PV} {cs:List Value} {x:t.den} {s':St},
  Rel w0 X0 fz { m with ω:=ω } Y s a w->Rel w0 X0 fzK { m with ω:=ωK } Y sK a w->Par s0 s sK->(∀ b,fzK b->fz b)->RepP w fz { m with ω:=ω } s p cs->Yh t p s=some (x,s')->
  ∃ fz' ω' ωK' sK' X,After w0 X0 a w fz fzK m Y s0 s sK s' fz' ω' ωK' sK' X/\Rep w fz' t x cs X:=by
 have leaf:∀ {t:Ty} {fz fzK:Nat->Prop} {m:Maps} {ω ωK:Nat->Option Key} {Y:List Nat} {s0 s sK:St} {p:PV} {cs:List Value} {x:t.den} {s':St},
   Rel w0 X0 fz { m with ω:=ω } Y s a w->Rel w0 X0 fzK { m with ω:=ωK } Y sK a w->Par s0 s sK->(∀ b,fzK b->fz b)->RepP w fz { m with ω:=ω } s p cs->Yh t p s=(Yo t p).map (fun x=> (x,s))->Yh t p s=some (x,s')->
   ∃ fz' ω' ωK' sK' X,After w0 X0 a w fz fzK m Y s0 s sK s' fz' ω' ωK' sK' X/\Rep w fz' t x cs X:=by
  intro t fz fzK m ω ωK Y s0 s sK p cs x s' h hK hP hfz hp he' he
  rw [he'] at he
  cases hy:Yo t p with
  | none=> rw [hy] at he; cases he
  | some y=>
   rw [hy] at he
   cases he
   have:=Yv3 hy
   subst this
   exact ⟨_,_,_,_,_,After.keep h hK hP hfz,hp.2⟩
 induction t with
 | pair t u iht ihu=>
  intro fz fzK m ω ωK Y s0 s sK p cs x s' h hK hP hfz hp he
  simp only [Yh] at he
  split at he
  ·rename_i y hy
   cases he
   have:=Yv3 hy
   subst this
   exact ⟨_,_,_,_,_,After.keep h hK hP hfz,hp.2⟩
  ·split at he
   ·rename_i y s1 h1
    split at he
    ·rename_i z s2 h2
     cases he
     rcases hp.parts with ⟨e1,e2⟩ | ⟨c1,c2,rfl,g1,g2⟩
     ·rw [e1,Yj3] at h1; cases h1
     ·obtain ⟨fz1,ω1,ωK1,sK1,X1,A1,r1⟩:=iht h hK hP hfz g1 h1
      have g2':RepP w fz1 { m with ω:=ω1 } s1 p.snd c2:=RepP.le (m:={ m with ω:=ω }) (m':={ m with ω:=ω1 }) A1.le ⟨fun _ _=> rfl,fun _ _=> rfl⟩ (fun _ _=> rfl) A1.fzs g2
      obtain ⟨fz2,ω2,ωK2,sK2,X2,A2,r2⟩:=ihu A1.rel A1.relK A1.par A1.fzK g2' h2
      exact ⟨_,_,_,_,_,A1.trans A2,c1,c2,X1,X2,rfl,rfl,Rep.frame (fun _ _=> rfl) A2.fzs _ (fun _ _=> rfl) r1,r2⟩
    ·cases he
   ·cases he
 | st t ih=>
  intro fz fzK m ω ωK Y s0 s sK p cs x s' h hK hP hfz hp he
  simp only [Yh] at he
  split at he
  ·rename_i y hy
   cases he
   have:=Yv3 hy
   subst this
   exact ⟨_,_,_,_,_,After.keep h hK hP hfz,hp.2⟩
  ·rcases hp.innU with e | g
   ·rw [e,Yj3] at he; cases he
   ·exact ih h hK hP hfz g he
 | sl own t _=>
  intro fz fzK m ω ωK Y s0 s sK p cs x s' h hK hP hfz hp he
  cases own with
  | false=>
   simp only [Yh] at he
   split at he
   ·rename_i xs hxs
    cases he
    obtain ⟨fz',ω',A,r⟩:=Y9q h hK hP hfz hp hxs
    exact ⟨_,_,_,_,_,A,r⟩
   ·cases he
  | true=>
   cases p with
   | row r=>
    obtain ⟨rfl,hp2,hp3⟩:=hp
    simp only [Yh] at he
    split at he
    ·rename_i u ys hr
     split at he
     ·rename_i zs hz
      cases he
      obtain ⟨e,rfl⟩:=Ty.cast_some hz
      cases e
      obtain ⟨g1,g2⟩:=h.takeRow hr
      obtain ⟨g1',g2'⟩:=hK.takeRow (hP.live hr).1
      exact ⟨_,_,_,_,m.φ r,⟨g1,g1',hP.takeRow hr,g2,fun _ h=> h,hfz⟩,(h.rows r _ _ hr).1⟩
     ·cases he
    ·cases he
   | nils=>
    simp only [Yh] at he
    cases he
    exact ⟨_,_,_,_,[],After.keep h hK hP hfz,.inl ⟨hp,rfl,rfl⟩⟩
   | part r lo hi=>
    cases lo with
    | succ lo=> exact leaf h hK hP hfz hp (by simp only [Yh]; cases Yo _ _ <;> rfl) he
    | zero=>
     obtain ⟨u1,o1,xs1,hr1,hlo,hhi,hpart⟩:=hp
     simp only [Yh,hr1] at he
     cases o1 with
     | dead=> cases he
     | frz=> cases he
     | live=>
      cases hu:u1.pure with
      | false=> simp [hu] at he
      | true=>
       simp only [hu,Ygu] at he
       split at he
       ·rename_i zs hz
        cases he
        obtain ⟨e,rfl⟩:=Ty.cast_some hz
        cases e
        obtain ⟨g1,g2⟩:=h.takeRow hr1
        obtain ⟨g1',g2'⟩:=hK.takeRow (hP.live hr1).1
        obtain ⟨v',rfl⟩:∃ v',cs=[v']:=by
         rcases hpart with ⟨_,rfl,_⟩ | ⟨_,_,rfl,_⟩ | ⟨_,_,_,_,_,_,_,rfl,_⟩ <;> exact ⟨_,rfl⟩
        exact ⟨_,_,_,_,m.φ r,⟨g1,g1',hP.takeRow hr1,g2,fun _ h=> h,hfz⟩,Rep.partOwn hu hhi (h.rows r _ _ hr1).1 hpart⟩
       ·cases he
   | _=> exact leaf h hK hP hfz hp (by simp only [Yh]; cases Yo _ _ <;> rfl) he
 | rptr t _=>
  intro fz fzK m ω ωK Y s0 s sK p cs x s' h hK hP hfz hp he
  cases p with
  | addr b path=>
   cases b with
   | box b=>
    simp only [Yh] at he
    split at he
    ·rename_i q hq
     split at he
     ·rename_i y hy
      cases he
      have:=Yv3 hy
      subst this
      rcases hp with ⟨T,o,c,hb,h1,rfl⟩ | ⟨l,n,hb,_⟩
      ·simp only [St.load,hb] at hq
       have hod:o≠.dead:=by intro e; subst e; simp at hq
       have hq':c.get path=.val t x:=by cases o <;> simp_all
       obtain ⟨cs',el,fr,g1,g2,g3,g4,g5,g6⟩:=h.boxes b T o c hb hod
       obtain ⟨k1,k2⟩:=RepP.get h1 g2 g3
       rw [hq'] at k1 k2
       rw [YU] at k2
       have hs:=Ty.same_size k2
       have hoff:=Ty.off_le h1
       have hT:cs'.size=T.size:=by
        have:=RepP.size g2
        rw [(YW g3).2] at this
        simpa using this
       have core:∀ fz':Nat->Prop,(∀ k,fz k->fz' k)->fz' (m.γ b)->Rep w fz' (.rptr t) x [.pointer (some ⟨m.γ b,T.off path,none⟩)] []:=by
        intro fz' hf1 hf2
        refine ⟨m.γ b,T.off path,cs',el,fr,rfl,g1,hf2,?_,by rw [hs.1] at hoff; omega,rfl⟩
        rw [hs.1] at k1
        exact Rep.frame (fun _ _=> rfl) hf1 t (fun _ _=> rfl) k1.2
       cases o with
       | dead=> exact absurd rfl hod
       | live=>
        have e1:s.freezeBox b=s.setBox b (.cells T .frz c):=by simp only [St.freezeBox,hb]
        obtain ⟨q1,q2⟩:=h.freezeBox hb
        rw [e1]
        exact ⟨_,_,_,_,[],⟨q1,hK,hP.freezeBox hb,q2,fun b hb=> .inl hb,fun b hb=> .inl (hfz b hb)⟩,core _ (fun k hk=> .inl hk) (.inr rfl)⟩
       | frz=>
        have e1:s.freezeBox b=s:=by simp only [St.freezeBox,hb]
        rw [e1]
        exact ⟨_,_,_,_,[],After.keep h hK hP hfz,core fz (fun _ h=> h) (g6 rfl)⟩
      ·simp [St.load,hb] at hq
     ·cases he
    ·cases he
   | fbox u y=>
    simp only [Yh] at he
    split at he
    ·rename_i z hz
     cases he
     have:=Yv3 hz
     obtain ⟨h1,h2,b,off,c,el,fr,h3,h4,h5,h6,rfl⟩:=hp
     have hg:RepP w fz { m with ω:=ω } s (.val u y) (Yl c off u.size):=⟨h1,h6⟩
     obtain ⟨k1,k2⟩:=RepP.get h2 hg (T:=u) (by rw [YU]; exact Ty.same_refl u)
     rw [this] at k1 k2
     rw [YU] at k2
     have hs:=Ty.same_size k2
     have hoff:=Ty.off_le h2
     refine ⟨_,_,_,_,[],After.keep h hK hP hfz,b,off+u.off path,c,el,fr,rfl,h3,h4,?_,by rw [hs.1] at hoff; omega,rfl⟩
     rw [hs.1] at k1
     rw [YH8 _ (by rw [hs.1] at hoff; omega)] at k1
     exact k1.2
    ·cases he
   | row r i=> exact leaf h hK hP hfz hp (by simp only [Yh]; cases Yo _ _ <;> rfl) he
  | _=> exact leaf h hK hP hfz hp (by simp only [Yh]; cases Yo _ _ <;> rfl) he
 | ptr t ih=>
  intro fz fzK m ω ωK Y s0 s sK p cs x s' h hK hP hfz hp he
  cases p with
  | addr b path=>
   cases b with
   | box b=>
    cases path with
    | nil=>
     simp only [Yh] at he
     split at he
     ·rename_i T c hb
      cases hT:T.same t with
      | false=> simp [hT] at he
      | true=>
       simp only [hT,Ygu] at he
       rcases hp with ⟨T',o',c',hb',h1,rfl⟩ | ⟨l,n,hb',_⟩
       ·rw [hb] at hb'
        cases hb'
        obtain ⟨cs',el,fr,g1,g2,g3,g4,g5,g6⟩:=h.boxes b T _ c hb (by simp)
        obtain ⟨q1,q2⟩:=h.takeBox hb
        obtain ⟨q1',q2'⟩:=hK.takeBox (hP.liveBox hb).1
        have g2':=RepP.le (w':=w) (fz':=fz) (m:={ m with ω:=ω }) (m':={ m with ω:=upd ω (m.γ b) (some .hand) }) q2 ⟨fun _ _=> rfl,fun _ _=> rfl⟩ (fun _ _=> rfl) (fun _ h=> h) g2
        obtain ⟨fz1,ω1,ωK1,sK1,X1,A1,r1⟩:=ih q1 q1' (hP.takeBox hb) hfz g2' he
        refine ⟨fz1,ω1,ωK1,sK1,m.γ b::X1,⟨A1.rel.perm ?_,A1.relK.perm ?_,A1.par,q2.trans A1.le,A1.fzs,A1.fzK⟩,m.γ b,cs',el,fr,X1,?_,g1,r1,g4,rfl⟩
        ·exact List.perm_middle.symm
        ·exact List.perm_middle.symm
        ·rw [Ty.off_nil]
       ·rw [hb] at hb'; cases hb'
     ·cases he
    | cons _ _=> exact leaf h hK hP hfz hp (by simp only [Yh]; cases Yo _ _ <;> rfl) he
   | row r i=> exact leaf h hK hP hfz hp (by simp only [Yh]; cases Yo _ _ <;> rfl) he
   | fbox u y=> exact leaf h hK hP hfz hp (by simp only [Yh]; cases Yo _ _ <;> rfl) he
  | _=> exact leaf h hK hP hfz hp (by simp only [Yh]; cases Yo _ _ <;> rfl) he
 | optr t ih=>
  intro fz fzK m ω ωK Y s0 s sK p cs x s' h hK hP hfz hp he
  cases p with
  | nilp=>
   simp only [Yh] at he
   cases he
   exact ⟨_,_,_,_,[],After.keep h hK hP hfz,hp,rfl⟩
  | addr b path=>
   cases b with
   | box b=>
    cases path with
    | nil=>
     simp only [Yh] at he
     split at he
     ·rename_i T c hb
      cases hT:T.same t with
      | false=> simp [hT] at he
      | true=>
       simp only [hT,Ygu] at he
       split at he
       ·rename_i y s1 h1
        cases he
        rcases hp with ⟨T',o',c',hb',_,rfl⟩ | ⟨l,n,hb',_⟩
        ·rw [hb] at hb'
         cases hb'
         obtain ⟨cs',el,fr,g1,g2,g3,g4,g5,g6⟩:=h.boxes b T _ c hb (by simp)
         obtain ⟨q1,q2⟩:=h.takeBox hb
         obtain ⟨q1',q2'⟩:=hK.takeBox (hP.liveBox hb).1
         have g2':=RepP.le (w':=w) (fz':=fz) (m:={ m with ω:=ω }) (m':={ m with ω:=upd ω (m.γ b) (some .hand) }) q2 ⟨fun _ _=> rfl,fun _ _=> rfl⟩ (fun _ _=> rfl) (fun _ h=> h) g2
         obtain ⟨fz1,ω1,ωK1,sK1,X1,A1,r1⟩:=ih q1 q1' (hP.takeBox hb) hfz g2' h1
         refine ⟨fz1,ω1,ωK1,sK1,m.γ b::X1,⟨A1.rel.perm ?_,A1.relK.perm ?_,A1.par,q2.trans A1.le,A1.fzs,A1.fzK⟩,m.γ b,cs',el,fr,X1,?_,g1,r1,g4,rfl⟩
         ·exact List.perm_middle.symm
         ·exact List.perm_middle.symm
         ·rw [Ty.off_nil]
        ·rw [hb] at hb'; cases hb'
       ·cases he
     ·cases he
    | cons _ _=> exact leaf h hK hP hfz hp (by simp only [Yh]; cases Yo _ _ <;> rfl) he
   | row r i=> exact leaf h hK hP hfz hp (by simp only [Yh]; cases Yo _ _ <;> rfl) he
   | fbox u y=> exact leaf h hK hP hfz hp (by simp only [Yh]; cases Yo _ _ <;> rfl) he
  | _=> exact leaf h hK hP hfz hp (by simp only [Yh]; cases Yo _ _ <;> rfl) he
 | clo f n t ih=>
  intro fz fzK m ω ωK Y s0 s sK p cs x s' h hK hP hfz hp he
  cases p with
  | cl g k q=>
   simp only [Yh] at he
   split at he
   ·rename_i e1 e2 _ _
    have e1:=e1.down
    have e2:=e2.down
    subst e1; subst e2
    obtain ⟨vs,rfl,h2,h3⟩:=hp
    obtain ⟨fz1,ω1,ωK1,sK1,X1,A1,r1⟩:=ih h hK hP hfz h3 he
    exact ⟨_,_,_,_,_,A1,vs,rfl,h2,r1⟩
   ·cases he
  | _=> exact leaf h hK hP hfz hp (by simp only [Yh]; cases Yo _ _ <;> rfl) he
 | nilp=>
  intro fz fzK m ω ωK Y s0 s sK p cs x s' h hK hP hfz hp he
  cases p with
  | nilp=>
   simp only [Yh] at he
   cases he
   exact ⟨_,_,_,_,[],After.keep h hK hP hfz,hp,rfl⟩
  | _=> exact leaf h hK hP hfz hp (by simp only [Yh]; cases Yo _ _ <;> rfl) he
 | int k=> intro fz fzK m ω ωK Y s0 s sK p cs x s' h hK hP hfz hp he; exact leaf h hK hP hfz hp (by simp only [Yh]; cases Yo _ _ <;> rfl) he
 | bool=> intro fz fzK m ω ωK Y s0 s sK p cs x s' h hK hP hfz hp he; exact leaf h hK hP hfz hp (by simp only [Yh]; cases Yo _ _ <;> rfl) he
 | str=> intro fz fzK m ω ωK Y s0 s sK p cs x s' h hK hP hfz hp he; exact leaf h hK hP hfz hp (by simp only [Yh]; cases Yo _ _ <;> rfl) he
 | unit=> intro fz fzK m ω ωK Y s0 s sK p cs x s' h hK hP hfz hp he; exact leaf h hK hP hfz hp (by simp only [Yh]; cases Yo _ _ <;> rfl) he
 | arr n t _=> intro fz fzK m ω ωK Y s0 s sK p cs x s' h hK hP hfz hp he; exact leaf h hK hP hfz hp (by simp only [Yh]; cases Yo _ _ <;> rfl) he
end
end Go.Abs
namespace Go.Abs
section
variable {w0:World} {X0:Ent} {fz:Nat->Prop} {a:Act} {w:World}
theorem MapsLe.trans {s s':St} {m m' m'':Maps} (h:MapsLe s m m') (hs:StLe s s') (g:MapsLe s' m' m''):MapsLe s m m'':=by
 refine ⟨fun r hr=> (g.ρ r (hs.row_ne hr)).trans (h.ρ r hr),fun b hb=> (g.γ b ?_).trans (h.γ b hb)⟩
 cases e:s.boxes b with
 | none=> exact absurd e hb
 | cells T o c=> obtain ⟨o',c',e'⟩:=hs.boxes _ _ _ _ e; rw [e']; simp
 | iter l n=> obtain ⟨n',e'⟩:=hs.iters _ _ _ e; rw [e']; simp
theorem YK1 {s s':St} {r:Nat} {t:Ty} {xs:List t.den} (h:s.newRow r t xs=some s'):s.rows r=.none/\s'=s.setRow r (.mk t .live xs):=by
 unfold St.newRow at h
 split at h
 ·rename_i e; cases h; exact ⟨e,rfl⟩
 ·cases h
theorem Yx2 {s s':St} {b:Nat} {e:BoxE} (h:s.newBox b e=some s'):s.boxes b=.none/\s'=s.setBox b e:=by
 unfold St.newBox at h
 split at h
 ·rename_i e; cases h; exact ⟨e,rfl⟩
 ·cases h
structure In (w0:World) (X0:Ent) (fz:Nat->Prop) (a:Act) (w:World) (m:Maps) (Y:List Nat) (s:St) (m':Maps) (s':St) (t:Ty) (p:PV) (cs:List Value):Prop where
 rel:Rel w0 X0 fz m' Y s' a w
 rep:RepP w fz m' s' p cs
 fits:fits t p=true
 maps:MapsLe s m m'
 le:StLe s s'
theorem Yrt {fz:Nat->Prop} {t:Ty} (ht:t.size=1) {x:t.den} {cs X} (h:Rep w fz t x cs X):∃ v,cs=[v]/\YZ v:=by
 have:=Rep.length t h
 rw [ht] at this
 obtain ⟨v,rfl⟩:=List.length_eq_one_iff.1 this
 exact ⟨v,rfl,Rep.cells t h v (by simp)⟩
theorem Y55 {R:Type} (t:Ty):∀ {m:Maps} {X Y:List Nat} {s:St} {id:Nat} {x:t.den} {cs:List Value} {k:PV->St->Option R} {r:R},
  Rel w0 X0 fz m (X++Y) s a w->Rep w fz t x cs X->imp t id x s k=some r->∃ m' p s',In w0 X0 fz a w m Y s m' s' t p cs/\k p s'=some r:=by
 have leaf:∀ {t:Ty} {m:Maps} {X Y:List Nat} {s:St} {x:t.den} {cs:List Value} {k:PV->St->Option R} {r:R},t.pure=true->
   Rel w0 X0 fz m (X++Y) s a w->Rep w fz t x cs X->k (.val t x) s=some r->∃ m' p s',In w0 X0 fz a w m Y s m' s' t p cs/\k p s'=some r:=by
  intro t m X Y s x cs k r ht h hx hk
  have:=Rep.pure t ht hx
  subst this
  exact ⟨m,.val t x,s,⟨h,⟨ht,hx⟩,by rw [YU]; exact Ty.same_refl t,MapsLe.refl _ _,StLe.refl _⟩,hk⟩
 have leaf':∀ {t:Ty} {m:Maps} {X Y:List Nat} {s:St} {x:t.den} {cs:List Value} {k:PV->St->Option R} {r:R},
   Rel w0 X0 fz m (X++Y) s a w->Rep w fz t x cs X->(bif t.pure then k (.val t x) s else none)=some r->∃ m' p s',In w0 X0 fz a w m Y s m' s' t p cs/\k p s'=some r:=by
  intro t m X Y s x cs k r h hx hk
  cases ht:t.pure with
  | true=> rw [ht] at hk; exact leaf ht h hx hk
  | false=> rw [ht] at hk; cases hk
 induction t with
 | pair t u iht ihu=>
  intro m X Y s id x cs k r h hx hk
  simp only [imp] at hk
  cases hp:(t.pure&&u.pure) with
  | true=> rw [hp] at hk; exact leaf (t:=.pair t u) hp h hx hk
  | false=>
   rw [hp,Yhu] at hk
   obtain ⟨c1,c2,X1,X2,rfl,rfl,h1,h2⟩:=hx
   have hperm:(X1++(X2++Y)).Perm (X1++X2++Y):=by rw [Ypu]
   obtain ⟨m1,p1,s1,I1,hk1⟩:=iht (h.perm hperm) h1 hk
   obtain ⟨m2,p2,s2,I2,hk2⟩:=ihu I1.rel h2 hk1
   exact ⟨m2,_,s2,⟨I2.rel,RepP.mkPair (RepP.le I2.le I2.maps (fun _ _=> rfl) (fun _ h=> h) I1.rep) I2.rep,Yxa I1.fits I2.fits,I1.maps.trans I1.le I2.maps,I1.le.trans I2.le⟩,hk2⟩
 | st t ih=>
  intro m X Y s id x cs k r h hx hk
  simp only [imp] at hk
  cases hp:t.pure with
  | true=> rw [hp] at hk; exact leaf (t:=.st t) hp h hx hk
  | false=>
   rw [hp,Yhu] at hk
   obtain ⟨m1,p1,s1,I1,hk1⟩:=ih h hx hk
   exact ⟨m1,_,s1,⟨I1.rel,RepP.mkSt I1.rep,Y8g I1.fits,I1.maps,I1.le⟩,hk1⟩
 | sl own t _=>
  intro m X Y s id x cs k r h hx hk
  cases own with
  | false=> exact leaf' h hx (by simpa only [imp] using hk)
  | true=>
   simp only [imp] at hk
   split at hk
   ·rename_i s1 hs1
    obtain ⟨hr,rfl⟩:=YK1 hs1
    obtain ⟨v,rfl,hv⟩:=Yrt rfl hx
    obtain ⟨g1,g2,g3⟩:=h.giveRow hr hx
    refine ⟨_,.row id,_,⟨g1,⟨?_,?_,?_⟩,rfl,g2,g3⟩,hk⟩
    ·show [v]=[upd m.ρ id v id]; rw [YF1]
    ·show YZ (upd m.ρ id v id); rw [YF1]; exact hv
    ·rw [Ys1,Yku rfl]; simp
   ·cases hk
 | ptr t ih=>
  intro m X Y s id x cs k r h hx hk
  simp only [imp] at hk
  obtain ⟨b,c,el,fr,X',rfl,h1,h2,h3,rfl⟩:=hx
  have hperm:(X'++(b::Y)).Perm (b::X'++Y):=List.perm_middle
  obtain ⟨m1,p1,s1,I1,hk1⟩:=ih (h.perm hperm) h2 hk
  split at hk1
  ·rename_i s2 hs2
   obtain ⟨hb,rfl⟩:=Yx2 hs2
   obtain ⟨g1,g2,g3⟩:=I1.rel.giveBox hb h1 I1.rep I1.fits h3
   refine ⟨_,.addr (.box id) [],_,⟨g1,.inl ⟨t,.live,p1,?_,.nil _,?_⟩,rfl,I1.maps.trans I1.le g2,I1.le.trans g3⟩,hk1⟩
   ·rw [YY,Yku rfl]
   ·rw [Ty.off_nil]; show _=[Value.pointer (some ⟨upd m1.γ id b id,0,none⟩)]; rw [YF1]
  ·cases hk1
 | rptr t _=>
  intro m X Y s id x cs k r h hx hk
  simp only [imp] at hk
  obtain ⟨b,off,c,el,fr,rfl,h1,h2,h3,h4,rfl⟩:=hx
  cases hp:t.pure with
  | true=> exact ⟨m,.addr (.fbox t x) [],s,⟨h,⟨hp,.nil _,b,off,c,el,fr,h1,h2,h4,h3,by rw [Ty.off_nil]; rfl⟩,rfl,MapsLe.refl _ _,StLe.refl _⟩,by rw [hp] at hk; exact hk⟩
  | false=> rw [hp] at hk; cases hk
 | optr t ih=>
  intro m X Y s id x cs k r h hx hk
  simp only [imp] at hk
  cases x with
  | none=>
   obtain ⟨rfl,rfl⟩:=hx
   exact ⟨m,.nilp,s,⟨h,rfl,rfl,MapsLe.refl _ _,StLe.refl _⟩,hk⟩
  | some y=>
   obtain ⟨b,c,el,fr,X',rfl,h1,h2,h3,rfl⟩:=hx
   have hperm:(X'++(b::Y)).Perm (b::X'++Y):=List.perm_middle
   obtain ⟨m1,p1,s1,I1,hk1⟩:=ih (h.perm hperm) h2 hk
   split at hk1
   ·rename_i s2 hs2
    obtain ⟨hb,rfl⟩:=Yx2 hs2
    obtain ⟨g1,g2,g3⟩:=I1.rel.giveBox hb h1 I1.rep I1.fits h3
    refine ⟨_,.addr (.box id) [],_,⟨g1,.inl ⟨t,.live,p1,?_,.nil _,?_⟩,rfl,I1.maps.trans I1.le g2,I1.le.trans g3⟩,hk1⟩
    ·rw [YY,Yku rfl]
    ·rw [Ty.off_nil]; show _=[Value.pointer (some ⟨upd m1.γ id b id,0,none⟩)]; rw [YF1]
   ·cases hk1
 | clo f n t ih=>
  intro m X Y s id x cs k r h hx hk
  simp only [imp] at hk
  obtain ⟨vs,rfl,h1,h2⟩:=hx
  obtain ⟨m1,p1,s1,I1,hk1⟩:=ih h h2 hk
  exact ⟨m1,.cl f n p1,s1,⟨I1.rel,⟨vs,rfl,h1,I1.rep⟩,rfl,I1.maps,I1.le⟩,hk1⟩
 | nilp=>
  intro m X Y s id x cs k r h hx hk
  simp only [imp] at hk
  obtain ⟨rfl,rfl⟩:=hx
  exact ⟨m,.nilp,s,⟨h,rfl,rfl,MapsLe.refl _ _,StLe.refl _⟩,hk⟩
 | int i=> intro m X Y s id x cs k r h hx hk; exact leaf' h hx (by simpa only [imp] using hk)
 | bool=> intro m X Y s id x cs k r h hx hk; exact leaf' h hx (by simpa only [imp] using hk)
 | str=> intro m X Y s id x cs k r h hx hk; exact leaf' h hx (by simpa only [imp] using hk)
 | unit=> intro m X Y s id x cs k r h hx hk; exact leaf' h hx (by simpa only [imp] using hk)
 | arr n t _=> intro m X Y s id x cs k r h hx hk; exact leaf' h hx (by simpa only [imp] using hk)
theorem RepS.of {m:Maps} {s:St} {p:PV} {cs:List Value} (h:RepP w fz m s p cs):RepS w fz m s p (mkV p.isAgg cs):=by
 cases p with
 | undef=> cases h
 | tnil=> cases h
 | tcons a b=> cases h
 | _=> exact ⟨cs,h,rfl⟩
theorem RepS.cells {m:Maps} {s:St} {p:PV} {v:Value} (h:RepS w fz m s p v):p=.undef\/p=.tnil\/(∃ a b,p=.tcons a b)\/∃ cs,RepP w fz m s p cs/\v=mkV p.isAgg cs:=by
 cases p with
 | undef=> exact .inl rfl
 | tnil=> exact .inr (.inl rfl)
 | tcons a b=> exact .inr (.inr (.inl ⟨a,b,rfl⟩))
 | _=> exact .inr (.inr (.inr h))
theorem RepS.ofDen {m:Maps} {s:St} {p:PV} {v:Value} {t:Ty} {x:t.den} {s':St} (h:RepS w fz m s p v) (hd:Yh t p s=some (x,s')):∃ cs,RepP w fz m s p cs/\v=mkV p.isAgg cs:=by
 have no:∀ (t:Ty) (p:PV) (x:t.den) (s':St),(p=.tnil\/∃ a b,p=.tcons a b)->Yh t p s≠some (x,s'):=by
  intro t
  induction t with
  | pair a b iha _=>
   rintro p x s' (rfl | ⟨c,d,rfl⟩) h <;>
   ·simp only [Yh,Yo,PV.fst,Yj3] at h; cases h
  | st a ih=>
   rintro p x s' (rfl | ⟨c,d,rfl⟩) h <;>
   ·simp only [Yh,Yo,PV.inn,Yj3] at h; cases h
  | sl own a _=>
   rintro p x s' (rfl | ⟨c,d,rfl⟩) h <;> cases own <;> simp [Yh,Yo,St.elems] at h
  | _=> rintro p x s' (rfl | ⟨c,d,rfl⟩) h <;> simp [Yh,Yo] at h
 rcases h.cells with rfl | rfl | ⟨a,b,rfl⟩ | h
 ·rw [Yj3] at hd; cases hd
 ·exact absurd hd (no _ _ _ _ (.inl rfl))
 ·exact absurd hd (no _ _ _ _ (.inr ⟨a,b,rfl⟩))
 ·exact h
end
end Go.Abs
namespace Go.Abs
structure Glob (E:Env) (w:World) (fz:Nat->Prop):Prop where
 tab:∀ g (t:Ty) (x:t.den),(g,(⟨t,x⟩:Σ t:Ty,t.den))∈E.gl->t.pure=true/\fz g/\∃ c el fr,w.heap[g]? =some (.cells c el fr)/\Rep w fz t x c.toList []
 num:∀ g (k:IntKind),(g,k)∈E.ints->fz g/\∃ n,w.cell? ⟨g,0,none⟩=some (.int k n)
def RepArgs (w:World) (fz:Nat->Prop):(ts:List Ty)->(tup ts).den->List Value->List Nat->Prop
 | [],_,vs,X=> vs=[]/\X=[]
 | [t],x,vs,X=> ∃ cs,vs=[mkV t.isAgg cs]/\Rep w fz t x cs X
 | t::u::ts,x,vs,X=> ∃ cs us X1 X2,vs=mkV t.isAgg cs::us/\X=X1++X2/\Rep w fz t x.1 cs X1/\RepArgs w fz (u::ts) x.2 us X2
def RepBacks (w:World) (fz:Nat->Prop):(bs:List Ty)->(tup bs).den->List Value->List Nat->Prop
 | [],_,vs,X=> vs=[]/\X=[]
 | [b],x,vs,X=> ∃ v,vs=[v]/\Rep w fz (.ptr b) x [v] X
 | b::c::bs,x,vs,X=> ∃ v us X1 X2,vs=v::us/\X=X1++X2/\Rep w fz (.ptr b) x.1 [v] X1/\RepBacks w fz (c::bs) x.2 us X2
def RepOuts (w:World) (fz:Nat->Prop):(res bs:List Ty)->(tup (res++bs)).den->List Value->List Value->List Nat->Prop
 | [],bs,x,vs,us,X=> vs=[]/\RepBacks w fz bs x us X
 | [t],[],x,vs,us,X=> us=[]/\∃ cs,vs=[mkV t.isAgg cs]/\Rep w fz t x cs X
 | [t],b::bs,x,vs,us,X=> ∃ cs X1 X2,vs=[mkV t.isAgg cs]/\X=X1++X2/\Rep w fz t x.1 cs X1/\RepBacks w fz (b::bs) x.2 us X2
 | t::u::res,bs,x,vs,us,X=> ∃ cs ws X1 X2,vs=mkV t.isAgg cs::ws/\X=X1++X2/\Rep w fz t x.1 cs X1/\RepOuts w fz (u::res) bs x.2 ws us X2
def retV:List Value->Value
 | [v]=> v
 | vs=> .tuple vs.toArray
def YI2:List Ty->List Value->List Value
 | .ptr _::ts,v::vs=> v::YI2 ts vs
 | _::ts,_::vs=> YI2 ts vs
 | _,_=> []
structure FzOk (w:World) (X:List Nat) (fz fz':Nat->Prop) (w':World):Prop where
 le:∀ b,fz b->fz' b
 lt:∀ b,fz' b->b < w'.heap.size/\(fz b\/b∈X\/w.heap.size<=b)
def YS (E:Env) (f:FuncId) (x:(E.sig f).arg.den) (y:(E.sig f).Out):Prop:=
 ∀ (w:World) (fz:Nat->Prop) (vs:List Value) (X:List Nat),RepArgs w fz (E.sig f).args x vs X->X.Nodup->(∀ b∈X,b < w.heap.size/\¬fz b)->(∀ b,fz b->b < w.heap.size)->Glob E w fz->
  Calls E.P (E.code f) vs.toArray w fun e w'=> Keep w X w'/\∃ fz',FzOk w X fz fz' w'/\
   YX1 (E.sig f) y (fun i t z=> ∃ cs,e=.panicked [{ v:=.iface i (mkV t.isAgg cs),recovered:=false }]/\t.pure=true/\Rep w' fz' t z cs [])
    (fun z=> ∃ rs X',e=.returned (retV rs)/\RepOuts w' fz' (E.sig f).res (E.sig f).backs z rs (YI2 (E.sig f).args vs) X'/\X'.Nodup/\∀ b∈X',b < w'.heap.size/\¬fz' b/\(b∈X\/w.heap.size<=b))
section
variable {w0:World} {X0:Ent} {a:Act} {w:World}
theorem Glob.frame {E:Env} {w w':World} {fz fz':Nat->Prop} (h:Glob E w fz) (hf:∀ b,fz b->w'.heap[b]? =w.heap[b]?) (hff:∀ b,fz b->fz' b):Glob E w' fz':=by
 refine ⟨fun g t x hg=> ?_,fun g k hg=> ?_⟩
 ·obtain ⟨h1,h2,c,el,fr,h3,h4⟩:=h.tab g t x hg
  exact ⟨h1,hff g h2,c,el,fr,by rw [hf g h2]; exact h3,Rep.frame hf hff t (fun b hb=> by cases hb) h4⟩
 ·obtain ⟨h2,n,h3⟩:=h.num g k hg
  exact ⟨hff g h2,n,by unfold World.cell? at h3 ⊢; rw [hf g h2]; exact h3⟩
theorem Rel.glob {E:Env} {fz:Nat->Prop} {m:Maps} {Y:List Nat} {s:St} (h:Rel w0 X0 fz m Y s a w) (hX:∀ b∈X0.X,¬X0.fz b) (hz:∀ b,X0.fz b->b < w0.heap.size) (hg:Glob E w0 X0.fz):Glob E w fz:=
 hg.frame (fun b hb=> h.keep.block b (hz b hb) (fun hx=> hX b hx hb)) h.fz0s
def RepSs (w:World) (fz:Nat->Prop) (m:Maps) (s:St):List PV->List Value->Prop
 | [],vs=> vs=[]
 | p::ps,vs=> ∃ v us,vs=v::us/\RepS w fz m s p v/\RepSs w fz m s ps us
theorem RepSs.le {w w':World} {fz fz':Nat->Prop} {m m':Maps} {s s':St} (hs:StLe s s') (hm:MapsLe s m m') (hf:∀ b,fz b->w'.heap[b]? =w.heap[b]?) (hff:∀ b,fz b->fz' b):
  ∀ {ps:List PV} {vs:List Value},RepSs w fz m s ps vs->RepSs w' fz' m' s' ps vs
 | [],_,h=> h
 | p::ps,_,h=> by
  obtain ⟨v,us,rfl,h1,h2⟩:=h
  exact ⟨v,us,rfl,RepS.le hs hm hf hff h1,RepSs.le hs hm hf hff h2⟩
theorem RepArgs.frame {w w':World} {fz fz':Nat->Prop} (hf:∀ b,fz b->w'.heap[b]? =w.heap[b]?) (hff:∀ b,fz b->fz' b):∀ {ts:List Ty} {x:(tup ts).den} {vs:List Value} {X:List Nat},(∀ b∈X,w'.heap[b]? =w.heap[b]?)->
  RepArgs w fz ts x vs X->RepArgs w' fz' ts x vs X
 | [],_,_,_,_,h=> h
 | [t],_,_,_,hX,h=> by obtain ⟨cs,h1,h2⟩:=h; exact ⟨cs,h1,Rep.frame hf hff t hX h2⟩
 | t::u::ts,_,_,_,hX,h=> by
  obtain ⟨cs,us,X1,X2,h1,rfl,h3,h4⟩:=h
  exact ⟨cs,us,X1,X2,h1,rfl,Rep.frame hf hff t (fun b hb=> hX b (YAu.2 (.inl hb))) h3,RepArgs.frame hf hff (fun b hb=> hX b (YAu.2 (.inr hb))) h4⟩
theorem YU3 {t:Ty} {p:PV} {x:t.den} {s s':St} (h:Yh t p s=some (x,s')):p.isAgg=t.isAgg:=by
 have key:∀ (t:Ty) (p:PV) (x:t.den) (s s':St),Yh t p s=some (x,s')->p.isAgg=t.isAgg:=by
  have leaf:∀ {t:Ty} {p:PV} {x:t.den},Yo t p=some x->p.isAgg=t.isAgg:=by
   intro t p x h
   rw [Yv3 h]; rfl
  have leafM:∀ {t:Ty} {p:PV} {x:t.den} {s s':St},(Yo t p).map (fun x=> (x,s))=some (x,s')->p.isAgg=t.isAgg:=by
   intro t p x s s' h
   cases hc:Yo t p with
   | none=> rw [hc] at h; cases h
   | some y=> exact leaf hc
  intro t
  cases t with
  | pair a b=>
   intro p x s s' h
   simp only [Yh] at h
   split at h
   ·rename_i y hy; exact leaf hy
   ·cases p with
    | val u y=>
     cases u with
     | pair c d=> rfl
     | _=> simp [PV.fst,Yj3] at h
    | pair c d=> rfl
    | _=> simp [PV.fst,Yj3] at h
  | st a=>
   intro p x s s' h
   simp only [Yh] at h
   split at h
   ·rename_i y hy; exact leaf hy
   ·cases p with
    | val u y=>
     cases u with
     | st c=> rfl
     | _=> simp [PV.inn,Yj3] at h
    | st c=> rfl
    | _=> simp [PV.inn,Yj3] at h
  | sl own a=>
   intro p x s s' h
   cases own with
   | false=>
    simp only [Yh] at h
    cases p with
    | val u y=>
     cases u with
     | sl o u=> rfl
     | _=> simp [St.elems] at h
    | st q=> simp [St.elems] at h
    | _=> rfl
   | true=>
    cases p with
    | part r lo hi=> rfl
    | _=> first | rfl | exact leafM (s:=s) (by rw [<-h]; simp only [Yh]; cases Yo _ _ <;> rfl)
  | ptr a=>
   intro p x s s' h
   cases p with
   | addr b path=> rfl
   | _=> exact leafM (s:=s) (by rw [<-h]; simp only [Yh]; cases Yo _ _ <;> rfl)
  | rptr a=>
   intro p x s s' h
   cases p with
   | addr b path=> rfl
   | _=> exact leafM (s:=s) (by rw [<-h]; simp only [Yh]; cases Yo _ _ <;> rfl)
  | optr a=>
   intro p x s s' h
   cases p with
   | addr b path=> rfl
   | nilp=> rfl
   | _=> exact leafM (s:=s) (by rw [<-h]; simp only [Yh]; cases Yo _ _ <;> rfl)
  | clo f n a=>
   intro p x s s' h
   cases p with
   | cl g k q=> rfl
   | _=> exact leafM (s:=s) (by rw [<-h]; simp only [Yh]; cases Yo _ _ <;> rfl)
  | nilp=>
   intro p x s s' h
   cases p with
   | nilp=> rfl
   | _=> exact leafM (s:=s) (by rw [<-h]; simp only [Yh]; cases Yo _ _ <;> rfl)
  | _=>
   intro p x s s' h
   exact leafM (s:=s) (by rw [<-h]; simp only [Yh]; cases Yo _ _ <;> rfl)
 exact key t p x s s' h
theorem YH4 (t u:Ty) (ts:List Ty) (p:PV) (ps:List PV) (s:St):YX2 (t::u::ts) (p::ps) s=match Yh t p s with
  | some (x,s)=> match YX2 (u::ts) ps s with
   | some (y,s)=> some ((x,y),s)
   | none=> none
  | none=> none:=rfl
theorem Y3m:∀ (ts:List Ty) {fz fzK:Nat->Prop} {m:Maps} {ω ωK:Nat->Option Key} {Y:List Nat} {s0 s sK:St} {ps:List PV} {vs:List Value} {x:(tup ts).den} {s':St},
  Rel w0 X0 fz { m with ω:=ω } Y s a w->Rel w0 X0 fzK { m with ω:=ωK } Y sK a w->Par s0 s sK->(∀ b,fzK b->fz b)->RepSs w fz { m with ω:=ω } s ps vs->YX2 ts ps s=some (x,s')->
  ∃ fz' ω' ωK' sK' X,After w0 X0 a w fz fzK m Y s0 s sK s' fz' ω' ωK' sK' X/\RepArgs w fz' ts x vs X:=by
 intro ts
 induction ts with
 | nil=>
  intro fz fzK m ω ωK Y s0 s sK ps vs x s' h hK hP hfz hp he
  cases ps with
  | nil=>
   cases he
   exact ⟨_,_,_,_,_,After.keep h hK hP hfz,hp,rfl⟩
  | cons _ _=> cases he
 | cons t ts ih=>
  intro fz fzK m ω ωK Y s0 s sK ps vs x s' h hK hP hfz hp he
  cases ts with
  | nil=>
   cases ps with
   | nil=> cases he
   | cons p ps=>
    cases ps with
    | nil=>
     have he:Yh t p s=some (x,s'):=he
     obtain ⟨v,us,rfl,h1,rfl⟩:=hp
     obtain ⟨cs,h2,rfl⟩:=h1.ofDen he
     obtain ⟨fz',ω',ωK',sK',X,A,r⟩:=Yi3 t h hK hP hfz h2 he
     exact ⟨_,_,_,_,_,A,cs,by rw [YU3 he],r⟩
    | cons _ _=> cases he
  | cons u ts=>
   cases ps with
   | nil=> cases he
   | cons p ps=>
    obtain ⟨v,us,rfl,h1,hps⟩:=hp
    rw [YH4] at he
    split at he
    ·rename_i y s1 hy
     split at he
     ·rename_i z s2 hz
      cases he
      obtain ⟨cs,h2,rfl⟩:=h1.ofDen hy
      obtain ⟨fz1,ω1,ωK1,sK1,X1,A1,r1⟩:=Yi3 t h hK hP hfz h2 hy
      have hps':RepSs w fz1 { m with ω:=ω1 } s1 ps us:=RepSs.le (m:={ m with ω:=ω }) (m':={ m with ω:=ω1 }) A1.le ⟨fun _ _=> rfl,fun _ _=> rfl⟩ (fun _ _=> rfl) A1.fzs hps
      obtain ⟨fz2,ω2,ωK2,sK2,X2,A2,r2⟩:=ih A1.rel A1.relK A1.par A1.fzK hps' hz
      exact ⟨_,_,_,_,_,A1.trans A2,cs,us,X1,X2,by rw [YU3 hy],rfl,Rep.frame (fun _ _=> rfl) A2.fzs t (fun _ _=> rfl) r1,r2⟩
     ·cases he
    ·cases he
end
end Go.Abs
namespace Go.Abs
section
variable {w0:World} {X0:Ent} {a:Act} {w:World}
theorem Rel.putO {fz:Nat->Prop} {m:Maps} {Y:List Nat} {s:St} (h:Rel w0 X0 fz m Y s a w) {d:Option Nat} {p:PV} {v:Value} (hd:∀ k,d=some k->k < a.tmps.size) (hv:RepS w fz m s p v):Rel w0 X0 fz m Y (s.putO d p) (a.put d v) w:=by
 cases d with
 | none=> exact h
 | some d=> exact h.put (hd d rfl) hv
theorem Rel.callRes {fz fz':Nat->Prop} {m:Maps} {X X':List Nat} {s:St} {w1:World} (h1:Rel w0 X0 fz m X s a w1) (hk:Keep w1 X w) (hf:∀ b,fz b->fz' b) (hl:∀ b,fz' b->b < w.heap.size/\(fz b\/b∈X\/w1.heap.size<=b))
  (hn:X'.Nodup) (hX:∀ b∈X',b < w.heap.size/\¬fz' b/\(b∈X\/w1.heap.size<=b)):
  ∃ ω,Rel w0 X0 fz' { m with ω:=ω } X' s a w:=by
 have h:=h1.step hk
 refine ⟨fun b=> if b∈X' then some .hand else if b∈X\/w1.heap.size<=b then none else m.ω b,?_⟩
 have keep:∀ {b k},m.ω b=some k->k≠.hand->(if b∈X' then some Key.hand else if b∈X\/w1.heap.size<=b then none else m.ω b)=some k:=by
  intro b k hb hk
  have e1:b∉X:=fun hx=> hk (by have:=h.hand.2 b hx; rw [hb] at this; cases this; rfl)
  have e2:¬w1.heap.size<=b:=by have:=(h1.own b k hb).1; omega
  have e3:b∉X':=fun hx=> (hX b hx).2.2.elim e1 e2
  rw [Yju e3,Yju (fun h=> h.elim e1 e2)]; exact hb
 have hm:∀ ω,MapsLe s m { m with ω:=ω }:=fun ω=> ⟨fun _ _=> rfl,fun _ _=> rfl⟩
 refine ⟨fun t=> RepS.le (StLe.refl _) (hm _) (fun _ _=> rfl) hf (h.slots t),fun r t xs hr=> ?_,fun r t xs hr=> ?_,fun b T o c hb ho=> ?_,fun b l n hb=> ?_,⟨hn,fun b hb=> ?_⟩,fun b k hb=> ?_,fun b hb=> ?_,h.keep,fun b hb=> hf b (h.fz0s b hb)⟩
 ·obtain ⟨g1,g2,g3⟩:=h.rows r t xs hr
  exact ⟨Rep.frame (fun _ _=> rfl) hf _ (fun _ _=> rfl) g1,g2,fun b hb=> keep (g3 b hb) (by simp)⟩
 ·exact ⟨(h.rowsF r t xs hr).1,Rep.frame (fun _ _=> rfl) hf _ (fun _ _=> rfl) (h.rowsF r t xs hr).2⟩
 ·obtain ⟨cs,el,fr,g1,g2,g3,g4,g5,g6⟩:=h.boxes b T o c hb ho
  exact ⟨cs,el,fr,g1,RepP.le (StLe.refl _) (hm _) (fun _ _=> rfl) hf g2,g3,g4,fun e=> keep (g5 e) (by simp),fun e=> hf _ (g6 e)⟩
 ·obtain ⟨g1,g2⟩:=h.iters b l n hb
  exact ⟨g1,keep g2 (by simp)⟩
 ·show (if b∈X' then _ else _)=_
  rw [Yku hb]
 ·have hb':(if b∈X' then some Key.hand else if b∈X\/w1.heap.size<=b then none else m.ω b)=some k:=hb
  by_cases e:b∈X'
  ·obtain ⟨g1,g2,g3⟩:=hX b e
   refine ⟨g1,g2,?_⟩
   rcases g3 with g3 | g3
   ·exact (h1.own b _ (h1.hand.2 b g3)).2.2
   ·exact .inr (by have:=h1.keep.size; omega)
  ·rw [Yju e] at hb'
   by_cases e2:b∈X\/w1.heap.size<=b
   ·rw [Yku e2] at hb'; cases hb'
   ·rw [Yju e2] at hb'
    obtain ⟨g1,g2,g3⟩:=h.own b k hb'
    refine ⟨g1,fun hz=> ?_,g3⟩
    exact (hl b hz).2.elim g2 e2
 ·obtain ⟨g1,g2⟩:=hl b hb
  refine ⟨g1,?_⟩
  rcases g2 with g2 | g2 | g2
  ·exact (h.fzs b g2).2
  ·exact .inr (h1.own b _ (h1.hand.2 b g2)).2.2
  ·exact .inr (.inr (by have:=h1.keep.size; omega))
theorem RepBacks.cons {fz:Nat->Prop} {b:Ty} {bs:List Ty} {c:Ty} {x:(tup (b::c::bs)).den} {vs:List Value} {X:List Nat}:
  RepBacks w fz (b::c::bs) x vs X↔∃ v us X1 X2,vs=v::us/\X=X1++X2/\Rep w fz (.ptr b) x.1 [v] X1/\RepBacks w fz (c::bs) x.2 us X2:=Iff.rfl
theorem Y6e {R:Type} {fz:Nat->Prop} {m:Maps} {X Y:List Nat} {s:St} {b:Ty} {p:PV} {id:Nat} {x:b.den} {v:Value} {k:St->Option R} {r:R}
  (h:Rel w0 X0 fz m (X++Y) s a w) (hx:Rep w fz (.ptr b) x [v] X) (hp:RepS w fz m s p v) (hk:imp b id x s (fun q s=> Y44 p q s k)=some r):
  ∃ m' s',Rel w0 X0 fz m' Y s' a w/\MapsLe s m m'/\StLe s s'/\k s'=some r:=by
 obtain ⟨blk,c,el,fr,X',h1,h2,h3,h4,rfl⟩:=hx
 have hperm:(X'++(blk::Y)).Perm (blk::X'++Y):=List.perm_middle
 obtain ⟨m1,q,s1,I,hk1⟩:=Y55 b (h.perm hperm) h3 hk
 have hp1:=RepS.le I.le I.maps (fun _ _=> rfl) (fun _ h=> h) hp
 unfold Y44 at hk1
 split at hk1
 ·rename_i n
  obtain ⟨cs,hp1,hv⟩:=hp1
  cases h1
  have hY:Y.Nodup:=(Yfv.1 I.rel.hand.1).2
  have idle:∀ {s2:St},s2=s1->k s2=some r->∃ m' s',Rel w0 X0 fz m' Y s' a w/\MapsLe s m m'/\StLe s s'/\k s'=some r:=by
   intro s2 e hk; subst e
   exact ⟨m1,s2,I.rel.less hY (fun b hb=> Y0v _ hb),I.maps,I.le,hk⟩
  unfold St.lendBack at hk1
  split at hk1
  ·rename_i T c0 hb
   cases hT:fits T q with
   | false=> rw [hT,Yhu] at hk1; exact idle rfl hk1
   | true=>
    rw [hT,Ygu] at hk1
    rcases hp1 with ⟨T',o',c',hb',_,rfl⟩ | ⟨l,k',hb',_⟩
    ·rw [hb] at hb'
     cases hb'
     have e:blk=m1.γ n:=by
      rw [Ty.off_nil] at hv
      simpa [mkV,PV.isAgg] using hv
     subst e
     obtain ⟨g1,g2⟩:=I.rel.backBox hb h2 I.rep hT h4
     exact ⟨_,_,g1,⟨I.maps.ρ,I.maps.γ⟩,I.le.trans g2,hk1⟩
    ·rw [hb] at hb'; cases hb'
  ·exact idle rfl hk1
 ·cases hk1
theorem YQq {R:Type} (b c:Ty) (bs:List Ty) (p:PV) (l:List PV) (id:Nat) (x:(tup (b::c::bs)).den) (s:St) (k:St->Option R):
  YA1 (b::c::bs) (p::l) id x s k=imp b id x.1 s fun q s=> Y44 p q s fun s=> YA1 (c::bs) l (id+32) x.2 s k:=rfl
theorem Yog {R:Type}:∀ (bs:List Ty) {fz:Nat->Prop} {m:Maps} {X Y:List Nat} {s:St} {ps:List PV} {id:Nat} {x:(tup bs).den} {vs:List Value} {k:St->Option R} {r:R},
  Rel w0 X0 fz m (X++Y) s a w->RepBacks w fz bs x vs X->RepSs w fz m s ps vs->YA1 bs ps id x s k=some r->
  ∃ m' s',Rel w0 X0 fz m' Y s' a w/\MapsLe s m m'/\StLe s s'/\k s'=some r:=by
 intro bs
 induction bs with
 | nil=>
  intro fz m X Y s ps id x vs k r h hx hp hk
  obtain ⟨rfl,rfl⟩:=hx
  cases ps with
  | nil=> exact ⟨m,s,h,MapsLe.refl _ _,StLe.refl _,hk⟩
  | cons _ _=> cases hk
 | cons b bs ih=>
  intro fz m X Y s ps id x vs k r h hx hp hk
  cases bs with
  | nil=>
   obtain ⟨v,rfl,hx⟩:=hx
   cases ps with
   | nil=> cases hk
   | cons p ps=>
    obtain ⟨v',us,e,hp1,hp2⟩:=hp
    cases e
    cases ps with
    | nil=> exact Y6e h hx hp1 hk
    | cons _ _=> cases hk
  | cons c bs=>
   obtain ⟨v,us,X1,X2,rfl,rfl,hx1,hx2⟩:=RepBacks.cons.1 hx
   cases ps with
   | nil=> cases hk
   | cons p ps=>
    obtain ⟨v',us',e,hp1,hp2⟩:=hp
    cases e
    rw [YQq] at hk
    have hperm:(X1++(X2++Y)).Perm (X1++X2++Y):=by rw [Ypu]
    obtain ⟨m1,s1,g1,g2,g3,g4⟩:=Y6e (h.perm hperm) hx1 hp1 hk
    obtain ⟨m2,s2,q1,q2,q3,q4⟩:=ih g1 hx2 (RepSs.le g3 g2 (fun _ _=> rfl) (fun _ h=> h) hp2) g4
    exact ⟨m2,s2,q1,g2.trans g3 q2,g3.trans q3,q4⟩
theorem YRq {R:Type} (t u:Ty) (res bs:List Ty) (l:List PV) (id:Nat) (x:(tup (t::u::res++bs)).den) (s:St) (k:PV->St->Option R):
  Y01 (t::u::res) bs l id x s k=imp t id x.1 s fun p s=> Y01 (u::res) bs l (id+32) x.2 s fun q s=> k (.tcons p q) s:=rfl
theorem YSq {R:Type}:∀ (res:List Ty) {bs:List Ty} {fz:Nat->Prop} {m:Maps} {X Y:List Nat} {s:St} {ps:List PV} {id:Nat} {x:(tup (res++bs)).den} {vs us:List Value} {k:PV->St->Option R} {r:R},
  Rel w0 X0 fz m (X++Y) s a w->RepOuts w fz res bs x vs us X->RepSs w fz m s ps us->Y01 res bs ps id x s k=some r->
  ∃ m' p s',Rel w0 X0 fz m' Y s' a w/\RepT w fz m' s' p vs/\MapsLe s m m'/\StLe s s'/\k p s'=some r:=by
 intro res
 induction res with
 | nil=>
  intro bs fz m X Y s ps id x vs us k r h hx hp hk
  obtain ⟨rfl,hx⟩:=hx
  obtain ⟨m1,s1,g1,g2,g3,g4⟩:=Yog bs h hx hp hk
  exact ⟨m1,.tnil,s1,g1,rfl,g2,g3,g4⟩
 | cons t res ih=>
  intro bs fz m X Y s ps id x vs us k r h hx hp hk
  cases res with
  | nil=>
   cases bs with
   | nil=>
    obtain ⟨rfl,cs,rfl,hx⟩:=hx
    obtain ⟨m1,p,s1,I,hk1⟩:=Y55 t h hx hk
    exact ⟨m1,.tcons p .tnil,s1,I.rel,⟨cs,[],by rw [(YW I.fits).1],I.rep,rfl⟩,I.maps,I.le,hk1⟩
   | cons b bs=>
    obtain ⟨cs,X1,X2,rfl,rfl,hx1,hx2⟩:=hx
    have hperm:(X1++(X2++Y)).Perm (X1++X2++Y):=by rw [Ypu]
    obtain ⟨m1,p,s1,I,hk1⟩:=Y55 t (h.perm hperm) hx1 hk
    obtain ⟨m2,s2,q1,q2,q3,q4⟩:=Yog (b::bs) I.rel hx2 (RepSs.le I.le I.maps (fun _ _=> rfl) (fun _ h=> h) hp) hk1
    exact ⟨m2,.tcons p .tnil,s2,q1,⟨cs,[],by rw [(YW I.fits).1],RepP.le q3 q2 (fun _ _=> rfl) (fun _ h=> h) I.rep,rfl⟩,I.maps.trans I.le q2,I.le.trans q3,q4⟩
  | cons u res=>
   obtain ⟨cs,ws,X1,X2,rfl,rfl,hx1,hx2⟩:=hx
   have hperm:(X1++(X2++Y)).Perm (X1++X2++Y):=by rw [Ypu]
   rw [YRq] at hk
   obtain ⟨m1,p,s1,I,hk1⟩:=Y55 t (h.perm hperm) hx1 hk
   obtain ⟨m2,q,s2,q1,q2,q3,q4,q5⟩:=ih I.rel hx2 (RepSs.le I.le I.maps (fun _ _=> rfl) (fun _ h=> h) hp) hk1
   exact ⟨m2,.tcons p q,s2,q1,⟨cs,ws,by rw [(YW I.fits).1],RepP.le q4 q3 (fun _ _=> rfl) (fun _ h=> h) I.rep,q2⟩,I.maps.trans I.le q3,I.le.trans q4,q5⟩
theorem RepBacks.free {w:World} {fz fz':Nat->Prop}:∀ {bs:List Ty} {x:(tup bs).den} {vs:List Value} {X:List Nat},bs.all Ty.free=true->RepBacks w fz bs x vs X->RepBacks w fz' bs x vs X:=by
 intro bs
 induction bs with
 | nil=> intro x vs X _ h; exact h
 | cons b bs ih=>
  intro x vs X hf h
  simp only [List.all_cons,Ylu] at hf
  cases bs with
  | nil=> obtain ⟨v,h1,h2⟩:=h; exact ⟨v,h1,Rep.free (.ptr b) hf.1 h2⟩
  | cons c bs=>
   obtain ⟨v,us,X1,X2,h1,h2,h3,h4⟩:=h
   exact ⟨v,us,X1,X2,h1,h2,Rep.free (.ptr b) hf.1 h3,ih hf.2 h4⟩
theorem RepOuts.free' {w:World} {fz fz':Nat->Prop}:∀ {res bs:List Ty} {x:(tup (res++bs)).den} {vs us:List Value} {X:List Nat},(res++bs).all Ty.free=true->RepOuts w fz res bs x vs us X->RepOuts w fz' res bs x vs us X:=by
 intro res
 induction res with
 | nil=> intro bs x vs us X hf h; exact ⟨h.1,RepBacks.free hf h.2⟩
 | cons t res ih=>
  intro bs x vs us X hf h
  simp only [List.cons_append,List.all_cons,Ylu] at hf
  cases res with
  | nil=>
   cases bs with
   | nil=> obtain ⟨h1,cs,h2,h3⟩:=h; exact ⟨h1,cs,h2,Rep.free t hf.1 h3⟩
   | cons b bs=> obtain ⟨cs,X1,X2,h1,h2,h3,h4⟩:=h; exact ⟨cs,X1,X2,h1,h2,Rep.free t hf.1 h3,RepBacks.free hf.2 h4⟩
  | cons u res=>
   obtain ⟨cs,ws,X1,X2,h1,h2,h3,h4⟩:=h
   exact ⟨cs,ws,X1,X2,h1,h2,Rep.free t hf.1 h3,ih hf.2 h4⟩
theorem RepOuts.free {w:World} {fz fz':Nat->Prop} {g:Sig} (hg:g.leaks=false) {x:g.good.den} {vs us:List Value} {X:List Nat} (h:RepOuts w fz g.res g.backs x vs us X):RepOuts w fz' g.res g.backs x vs us X:=
 RepOuts.free' (by simpa [Sig.leaks] using hg) h
theorem RepT.single {fz:Nat->Prop} {m:Maps} {s:St} {p:PV} {vs:List Value} (h:RepT w fz m s p vs):RepS w fz m s (single p) (retV vs):=by
 cases p with
 | tnil=> have:vs=[]:=h; subst this; rfl
 | tcons p q=>
  cases q with
  | tnil=>
   obtain ⟨cs,us,rfl,h1,rfl⟩:=h
   exact RepS.of h1
  | tcons q1 q2=>
   obtain ⟨cs,us,rfl,h1,cs2,us2,rfl,h2⟩:=h
   exact ⟨_,rfl,cs,_,rfl,h1,cs2,us2,rfl,h2⟩
  | _=> obtain ⟨cs,us,rfl,h1,h2⟩:=h; cases h2
 | _=> cases h
theorem Yb9 {fz:Nat->Prop} {m:Maps} {s:St}:∀ {ts:List Ty} {ps:List PV} {vs:List Value},RepSs w fz m s ps vs->RepSs w fz m s (Ya2 ts ps) (YI2 ts vs)
 | [],ps,vs,_=> by cases ps <;> rfl
 | t::ts,[],vs,h=> by
  have:vs=[]:=h
  subst this
  cases t <;> rfl
 | t::ts,p::ps,vs,h=> by
  obtain ⟨v,us,rfl,h1,h2⟩:=h
  have ih:=Yb9 (ts:=ts) h2
  cases t <;> first | exact ih | exact ⟨v,_,rfl,h1,ih⟩
def YQ8 (w0:World) (X0:Ent) (i:TypeId) (t:Ty) (x:t.den) (chain:List PanicEntry) (s:St) (a:Act) (w:World):Prop:=
 ∃ fz m cs,chain=[{ v:=.iface i (mkV t.isAgg cs),recovered:=false }]/\t.pure=true/\Rep w fz t x cs []/\Rel w0 X0 fz m [] s a w
theorem Rel.fzOk {fz:Nat->Prop} {m:Maps} {Y:List Nat} {s:St} (h:Rel w0 X0 fz m Y s a w):FzOk w0 X0.X X0.fz fz w:=⟨h.fz0s,h.fzs⟩
theorem Y6s {α:Type} {g:Sig} {y:g.Out} {p:(i:TypeId)->(t:Ty)->t.den->Prop} {k:g.good.den->Prop} {p':(i:TypeId)->(t:Ty)->t.den->α} {k':g.good.den->α} {r:α}
  (h:YX1 g y p k) (h':YX1 g y p' k'=r):(∃ i t z,p i t z/\p' i t z=r)\/(∃ z,k z/\k' z=r):=by
 obtain ⟨args,res,pan⟩:=g
 cases pan with
 | none=> exact .inr ⟨_,h,h'⟩
 | some q=>
  cases y with
  | inl z=> exact .inl ⟨_,_,_,h,h'⟩
  | inr z=> exact .inr ⟨_,h,h'⟩
theorem YEp {E:Env} {R:Type} {call:CallT E} (hC:∀ f x y,call f x=some y->YS E f x y) {fz:Nat->Prop} {m:Maps} {s:St} {dst:Option Nat} {f:FuncId} {ps:List PV} {vs:List Value}
  {π:Ex->St->Option R} {κ:St->Option R} {r:R} (h:Rel w0 X0 fz m [] s a w) (hg:Glob E w fz) (hd:∀ k,dst=some k->k < a.tmps.size) (hp:RepSs w fz m s ps vs) (hk:Yb2 E call s dst f ps π κ=some r):
  Calls E.P (E.code f) vs.toArray w fun e w'=> (∃ v,e=.returned v/\∃ fz' m' s',Rel w0 X0 fz' m' [] s' (a.put dst v) w'/\κ s'=some r)\/
   (∃ chain,e=.panicked chain/\∃ i t x s',YQ8 w0 X0 i t x chain s' a w'/\π (.pan i t x) s'=some r):=by
 unfold Yb2 at hk
 split at hk
 ·cases hk
 ·rename_i x s1 hx
  obtain ⟨y,hy,hk⟩:=YLu.1 hk
  obtain ⟨fz1,ω1,ωK,sK,X,A,rx⟩:=Y3m (m:=m) (ω:=m.ω) (ωK:=m.ω) _ h h (Par.refl s) (fun _ h=> h) hp hx
  have hrel:=A.rel
  have hrelK:=A.relK
  rw [YHu] at hrel hrelK
  have hg1:Glob E w fz1:=hg.frame (fun _ _=> rfl) A.fzs
  refine (hC f x y hy w fz1 vs X rx hrel.hand.1 (fun b hb=> ⟨(hrel.own b _ (hrel.hand.2 b hb)).1,(hrel.own b _ (hrel.hand.2 b hb)).2.1⟩) (fun b hb=> (hrel.fzs b hb).1) hg1).mono ?_
  rintro e w' ⟨hkeep,fz2,hfz2,hout⟩
  have hthaw:=A.par.thaw
  have normal:∀ (z:(E.sig f).good.den),(∃ rs X',e=.returned (retV rs)/\RepOuts w' fz2 (E.sig f).res (E.sig f).backs z rs (YI2 (E.sig f).args vs) X'/\X'.Nodup/\∀ b∈X',b < w'.heap.size/\¬fz2 b/\(b∈X\/w.heap.size<=b))->
    Y01 (E.sig f).res (E.sig f).backs (Ya2 (E.sig f).args ps) (1024*(dst.getD 0+1)+2) z (bif (E.sig f).leaks then s1 else s.thaw s1) (fun v s=> κ (s.putO dst (single v)))=some r->
    ∃ v,e=.returned v/\∃ fz' m' s',Rel w0 X0 fz' m' [] s' (a.put dst v) w'/\κ s'=some r:=by
   rintro z ⟨rs,X',rfl,ho,hn,hX⟩ hk
   refine ⟨_,rfl,?_⟩
   have fin:∀ {fz3:Nat->Prop} {m3:Maps} {s3:St},Rel w0 X0 fz3 m3 X' s3 a w'->RepOuts w' fz3 (E.sig f).res (E.sig f).backs z rs (YI2 (E.sig f).args vs) X'->RepSs w' fz3 m3 s3 (Ya2 (E.sig f).args ps) (YI2 (E.sig f).args vs)->
     Y01 (E.sig f).res (E.sig f).backs (Ya2 (E.sig f).args ps) (1024*(dst.getD 0+1)+2) z s3 (fun v s=> κ (s.putO dst (single v)))=some r->∃ fz' m' s',Rel w0 X0 fz' m' [] s' (a.put dst (retV rs)) w'/\κ s'=some r:=by
    intro fz3 m3 s3 h3 ho3 hb3 hk3
    obtain ⟨m4,p,s4,g1,g2,g3,g4,g5⟩:=YSq (Y:=[]) (E.sig f).res (by rw [YHu]; exact h3) ho3 hb3 hk3
    exact ⟨fz3,m4,_,g1.putO hd g2.single,g5⟩
   cases hleak:(E.sig f).leaks with
   | true=>
    rw [hleak,Ygu] at hk
    obtain ⟨ω3,h3⟩:=hrel.callRes hkeep hfz2.le hfz2.lt hn hX
    refine fin h3 ho ?_ hk
    refine Yb9 (RepSs.le (m:=m) (m':={ m with ω:=ω3 }) A.le ⟨fun _ _=> rfl,fun _ _=> rfl⟩ (fun b hb=> hkeep.block b (h.fzs b hb).1 (fun hx=> (hrel.own b _ (hrel.hand.2 b hx)).2.1 (A.fzs b hb))) (fun b hb=> hfz2.le b (A.fzs b hb)) hp)
   | false=>
    rw [hleak,Yhu,hthaw] at hk
    obtain ⟨ω3,h3⟩:=hrelK.callRes (fz':=fz) hkeep (fun _ h=> h) (fun b hb=> ⟨(hfz2.lt b (hfz2.le b (A.fzs b hb))).1,.inl hb⟩) hn (fun b hb=> ⟨(hX b hb).1,fun hf=> (hX b hb).2.1 (hfz2.le b (A.fzs b hf)),(hX b hb).2.2⟩)
    refine fin h3 (RepOuts.free hleak ho) ?_ hk
    have hle:StLe s sK:=by
     refine ⟨fun r t o xs hr=> ?_,fun b T o c hb=> ?_,fun b l n hb=> ?_⟩
     ·rcases A.par.rows r with ⟨_,e2⟩ | ⟨t',xs',e0,⟨_,e2⟩ | ⟨_,e2⟩⟩
      ·exact ⟨o,xs,by rw [e2]; exact hr,rfl⟩
      ·rw [e0] at hr; cases hr; exact ⟨_,_,e2,rfl⟩
      ·rw [e0] at hr; cases hr; exact ⟨_,_,e2,rfl⟩
     ·rcases A.par.boxes b with ⟨_,e2⟩ | ⟨T',c',e0,⟨_,e2⟩ | ⟨_,e2⟩⟩
      ·exact ⟨o,c,by rw [e2]; exact hb⟩
      ·rw [e0] at hb; cases hb; exact ⟨_,_,e2⟩
      ·rw [e0] at hb; cases hb; exact ⟨_,_,e2⟩
     ·rcases A.par.boxes b with ⟨_,e2⟩ | ⟨T',c',e0,⟨_,e2⟩ | ⟨_,e2⟩⟩
      ·exact ⟨n,by rw [e2]; exact hb⟩
      ·rw [e0] at hb; cases hb
      ·rw [e0] at hb; cases hb
    exact Yb9 (RepSs.le (m:=m) (m':={ m with ω:=ω3 }) hle ⟨fun _ _=> rfl,fun _ _=> rfl⟩ (fun b hb=> hkeep.block b (h.fzs b hb).1 (fun hx=> (hrelK.own b _ (hrelK.hand.2 b hx)).2.1 hb)) (fun b hb=> hb) hp)
  rcases Y6s hout hk with ⟨i,t,z,⟨cs,rfl,h1,h2⟩,hk⟩ | ⟨z,hz,hk⟩
  ·obtain ⟨ω3,h3⟩:=hrel.callRes (X':=[]) hkeep hfz2.le hfz2.lt List.nodup_nil (fun b hb=> by cases hb)
   exact .inr ⟨_,rfl,i,t,z,s1,⟨fz2,_,cs,rfl,h1,h2,h3⟩,hk⟩
  ·exact .inl (normal z hz hk)
end
end Go.Abs
