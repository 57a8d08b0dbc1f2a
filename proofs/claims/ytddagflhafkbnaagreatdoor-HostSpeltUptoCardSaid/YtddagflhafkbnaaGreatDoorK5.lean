/- Part K5 of the proof: see the last text of the claim. No condition of its own. -/
import Derived.Test.YtddagflhafkbnaaGreatDoorK4
import Derived.Orders
set_option linter.all false
namespace Go.Abs
set_option autoImplicit false
section
variable {w0 : World} {X0 : Ent} {a : Act} {w : World} {fz : Nat → Prop} {m : Maps} {s s' : St} {E : Env} {o : Oper} {R : Type}

structure Fr where
  size : Nat
  vs : List Value
  keep : Nat → Bool
def Fr.ok (n : Fr) (a : Act) : Prop := a.tmps.size = n.size ∧ ∀ k, n.keep k = true → a.tmps.getD k undef = n.vs.getD k undef

def Onward (w0 : World) (X0 : Ent) (n : Fr) (a : Act) (κ : St → Option R) (r : R) (a' : Act) (w' : World) : Prop :=
  (n.ok a → n.ok a') ∧ a'.defers = a.defers ∧ ∃ fz' m' s', Rel w0 X0 fz' m' [] s' a' w' ∧ κ s' = some r

theorem put_size (a : Act) (d : Option Tmp) (v : Value) : (a.put d v).tmps.size = a.tmps.size ∧ (a.put d v).defers = a.defers := by
  cases d with
  | none => exact ⟨rfl, rfl⟩
  | some d => exact ⟨by simp [Act.put], rfl⟩

theorem put_ok {n : Fr} (a : Act) (d : Option Tmp) (v : Value) (hd : ∀ k, d = some k → n.keep k = false) : (n.ok a → n.ok (a.put d v)) ∧ (a.put d v).defers = a.defers := by
  refine ⟨fun h => ⟨(put_size a d v).1.trans h.1, fun k hk => ?_⟩, (put_size a d v).2⟩
  rw [← h.2 k hk]
  cases d with
  | none => rfl
  | some d =>
    have := hd d rfl
    have hne : d ≠ k := fun e => by rw [e, hk] at this; cases this
    simp only [Act.put, Array.getD_eq_getD_getElem?]
    rw [Array.getElem?_setIfInBounds_ne hne]

theorem StepOK.wp {n : Fr} {κ : St → Option R} {r : R} {Q : Exit → Act → World → Prop} (hn : ∀ k, o.dst = some k → n.keep k = false) (h : StepOK E w0 X0 a w o s') (hk : κ s' = some r) : o.wp E.P a w (Onward w0 X0 n a κ r) Q := by
  obtain ⟨n, v, w', fz', m', h1, h2, h3⟩ := h
  unfold Oper.wp
  rw [h1]
  obtain ⟨g1, g2⟩ := put_ok a o.dst v hn
  rcases h2 with rfl | ⟨rfl, rfl⟩
  · exact ⟨g1, g2, fz', m', s', h3, hk⟩
  · exact ⟨g1, g2, fz', m', s', h3, hk⟩

theorem unpack_spec : ∀ {n : Nat} {p : PV} {vs : List Value} {l : List PV}, RepP w fz m s p vs → vs.length = n → unpackPV n p = some l → RepSs w fz m s l vs
  | 0, p, vs, l, _, hl, hu => by
    cases hu
    exact List.eq_nil_of_length_eq_zero hl
  | 1, p, vs, l, h, hl, hu => by
    simp only [unpackPV] at hu
    cases hc : (Nat.beq p.size 1 && !p.isAgg) with
    | false => rw [hc] at hu; cases hu
    | true =>
      rw [hc] at hu
      cases hu
      simp only [Bool.and_eq_true, Bool.not_eq_true'] at hc
      obtain ⟨v, rfl⟩ := List.length_eq_one_iff.1 hl
      exact ⟨v, [], rfl, h.toS (by rw [hc.2]; rfl), rfl⟩
  | n + 2, p, vs, l, h, hl, hu => by
    simp only [unpackPV] at hu
    split at hu
    · rename_i l' hl'
      cases hc : (Nat.beq p.fst.size 1 && !p.fst.isAgg) with
      | false => rw [hc] at hu; cases hu
      | true =>
        rw [hc] at hu
        cases hu
        simp only [Bool.and_eq_true, Bool.not_eq_true'] at hc
        have hsz := Nat.eq_of_beq_eq_true hc.1
        rcases h.parts with ⟨e, _⟩ | ⟨c1, c2, rfl, h1, h2⟩
        · rw [e] at hsz; cases hsz
        · obtain ⟨v, rfl⟩ := List.length_eq_one_iff.1 (h1.size.trans hsz)
          exact ⟨v, c2, rfl, h1.toS (by rw [hc.2]; rfl), unpack_spec h2 (by simpa using hl) hl'⟩
    · cases hu

theorem simpleC_spec {n : Fr} (hn : ∀ k, o.dst = some k → n.keep k = false) (hE : EnvOK E) (h : Rel w0 X0 fz m [] s a w) (hg : Glob E w fz) (hd : ∀ k, o.dst = some k → k < a.tmps.size) {κ : St → Option R} {r : R} {Q : Exit → Act → World → Prop} (hk : simpleC E s o κ = some r) : o.wp E.P a w (Onward w0 X0 n a κ r) Q := by
  unfold simpleC at hk
  split at hk
  · rename_i c s1 hs
    split at hk
    · exact (step_spec hE h hg hd hs).wp hn hk
    · cases hk
  · cases hk

theorem run_callFunc_enter {P : Program} {f : FuncId} {fn : Func} {args : Array Value} (hf : P.funcs[f]? = some fn) (hb : fn.body.isNone = false) (hn : (fn.name == "runtime.NumGoroutine") = false) : (callFunc f args).run P w = .ok (.enter f args) w := by
  simp only [callFunc, Sem.run_bind, run_program, Result.andThen_ok, hf, hn, hb, Bool.false_eq_true, if_false, Sem.run_pure]

theorem RepSs.append {ps qs : List PV} {vs us : List Value} (h : RepSs w fz m s ps vs) (g : RepSs w fz m s qs us) : RepSs w fz m s (ps ++ qs) (vs ++ us) := by
  induction ps generalizing vs with
  | nil => have : vs = [] := h; subst this; exact g
  | cons p ps ih => obtain ⟨v, us', rfl, h1, h2⟩ := h; exact ⟨v, us' ++ us, rfl, h1, ih h2⟩

theorem StLe.setIter {s : St} {b : Nat} {l : List UInt8} {n : Nat} (hb : s.boxes b = .iter l n) (n' : Nat) : StLe s (s.setBox b (.iter l n')) := by
  refine ⟨fun r t o xs h => ⟨o, xs, h, rfl⟩, fun k T o c h => ⟨o, c, ?_⟩, fun k l' j h => ?_⟩
  · rw [setBox_boxes]
    by_cases e : k = b
    · subst e; rw [hb] at h; cases h
    · rw [if_neg e]; exact h
  · rw [setBox_boxes]
    by_cases e : k = b
    · subst e; rw [hb] at h; cases h; exact ⟨n', if_pos rfl⟩
    · rw [if_neg e]; exact ⟨j, h⟩

theorem Rel.writeIter (h : Rel w0 X0 fz m [] s a w) {b : Nat} {l : List UInt8} {n : Nat} (hb : s.boxes b = .iter l n) (n' : Nat) :
    Rel w0 X0 fz m [] (s.setBox b (.iter l n')) a (World.setBlock w (m.γ b) (.stringIter ⟨l.toArray⟩ n')) := by
  obtain ⟨hw, hω⟩ := h.iters b l n hb
  have hown := h.own _ _ hω
  have hs := StLe.setIter hb n'
  have hm : MapsLe s m m := MapsLe.refl _ _
  have hf : ∀ k, fz k → (World.setBlock w (m.γ b) (.stringIter ⟨l.toArray⟩ n')).heap[k]? = w.heap[k]? := fun k hk => setBlock_ne (fun e => by subst e; exact hown.2.1 hk)
  have ho : ∀ k q, m.ω k = some q → q ≠ .box b → (World.setBlock w (m.γ b) (.stringIter ⟨l.toArray⟩ n')).heap[k]? = w.heap[k]? := fun k q hk hq => setBlock_ne (fun e => hq (by subst e; rw [hω] at hk; cases hk; rfl))
  have hsz : (World.setBlock w (m.γ b) (.stringIter ⟨l.toArray⟩ n')).heap.size = w.heap.size := by simp [World.setBlock]
  refine ⟨fun t => RepS.le hs hm hf (fun _ h => h) (h.slots t), fun r t xs hr => ?_, fun r t xs hr => ?_, fun k T o c hk ho' => ?_, fun k l' j hk => ?_, h.hand, fun k q hk => ?_, fun k hk => ?_, ?_, h.fz0s⟩
  · obtain ⟨h1, h2, h3⟩ := h.rows r t xs hr
    exact ⟨Rep.frame hf (fun _ h => h) _ (fun k hk => ho k _ (h3 k hk) (by simp)) h1, h2, h3⟩
  · exact ⟨(h.rowsF r t xs hr).1, Rep.frame hf (fun _ h => h) _ (fun k hk => by cases hk) (h.rowsF r t xs hr).2⟩
  · rw [setBox_boxes] at hk
    by_cases e : k = b
    · subst e; rw [if_pos rfl] at hk; cases hk
    · rw [if_neg e] at hk
      obtain ⟨cs, el, fr, h1, h2, h3, h4, h5, h6⟩ := h.boxes k T o c hk ho'
      refine ⟨cs, el, fr, ?_, RepP.le hs hm hf (fun _ h => h) h2, h3, h4, h5, h6⟩
      cases o with
      | live => rw [ho _ _ (h5 rfl) (by simpa using e)]; exact h1
      | frz => rw [hf _ (h6 rfl)]; exact h1
      | dead => exact absurd rfl ho'
  · rw [setBox_boxes] at hk
    by_cases e : k = b
    · subst e
      rw [if_pos rfl] at hk
      cases hk
      exact ⟨by rw [setBlock_heap, if_pos rfl, if_pos (heap_lt hw)], hω⟩
    · rw [if_neg e] at hk
      obtain ⟨h1, h2⟩ := h.iters k l' j hk
      exact ⟨by rw [ho _ _ h2 (by simpa using e)]; exact h1, h2⟩
  · obtain ⟨h1, h2, h3⟩ := h.own k q hk
    exact ⟨by rw [hsz]; exact h1, h2, h3⟩
  · exact ⟨by rw [hsz]; exact (h.fzs k hk).1, (h.fzs k hk).2⟩
  · exact h.keep.trans (setBlock_keep w (m.γ b) _ [m.γ b] (by simp)) (fun k hk => by
      have : k = m.γ b := by simpa using hk
      subst this
      exact hown.2.2)

theorem run_next {P : Program} {k : Nat} {l : List UInt8} {n : Nat} {ty : TypeId} (hw : w.heap[k]? = some (.stringIter ⟨l.toArray⟩ n)) :
    (Instr.next (.pointer (some ⟨k, 0, none⟩)) true ty).run P w = if n < l.length then
      .ok (.tuple #[.bool true, .int .i64 (n : Int), .int .i32 ((decRune l n).1 : Int)]) (World.setBlock w k (.stringIter ⟨l.toArray⟩ (n + (decRune l n).2))) else .ok (.tuple #[.bool false]) w := by
  have hlt := heap_lt hw
  have hsz : (⟨l.toArray⟩ : ByteArray).size = l.length := bytes_size l
  have hget : (getObj k).run P w = .ok (.stringIter ⟨l.toArray⟩ n) w := by simp only [getObj, Sem.run, hw]
  have hset : ∀ o, (setObj k o).run P w = .ok () (World.setBlock w k o) := fun o => by
    simp only [setObj, Sem.run, hw]
    rfl
  by_cases hn : n < l.length
  · rw [if_pos hn]
    simp only [Instr.next, Sem.run_bind, hget, Result.andThen_ok, hsz, if_pos hn, hset, Sem.run_pure]
    rfl
  · rw [if_neg hn]
    simp only [Instr.next, Sem.run_bind, hget, Result.andThen_ok, hsz, if_neg hn, Sem.run_pure]

theorem opC_spec {nn : Fr} (hnn : ∀ k, o.dst = some k → nn.keep k = false) (hE : EnvOK E) {call : CallT E} (hC : ∀ f x y, call f x = some y → CallOK E f x y) (h : Rel w0 X0 fz m [] s a w) (hg : Glob E w fz) (hd : ∀ k, o.dst = some k → k < a.tmps.size) {π : Ex → St → Option R} {κ : St → Option R} {r : R} {Q : Exit → Act → World → Prop}
    (hQ : ∀ chain w' i t x s', PanOK w0 X0 i t x chain w' → π (.pan i t x) s' = some r → Q (.panic chain) a w') (hk : opC E call s o π κ = some r) : o.wp E.P a w (Onward w0 X0 nn a κ r) Q := by
  obtain ⟨ps1, ps2⟩ := put_size a o.dst undef
  unfold opC at hk
  split at hk
  · rename_i c hop
    split at hk
    · rename_i x hcal
      split at hk
      · rename_i f n caps hx
        split at hk
        · rename_i l hl hgo
          obtain ⟨⟨fn, hf, hb, hn⟩, hcode⟩ := hE.goes f (by rw [Bool.and_eq_true] at hgo; exact hgo.1)
          have hxv := h.opd hg x
          rw [hx] at hxv
          obtain ⟨cs, ⟨vs, rfl, hvl, hcaps⟩, hxe⟩ := hxv
          have hxe : a.eval x = .func (.func f) #[] vs.toArray := hxe
          have hargs := RepSs.append (makeFunc_reps h hg c.args.toList) (unpack_spec hcaps hvl hl)
          have hrun : (execOp a.eval o).run E.P w = .ok (.enter f (c.args.map a.eval ++ vs.toArray)) w := by
            simp only [execOp, hop, resolve, hcal, hxe, Deferred.ofValue, pure_bind, invoke, Array.empty_append]
            exact run_callFunc_enter hf hb hn
          have harr : c.args.map a.eval ++ vs.toArray = (c.args.toList.map a.eval ++ vs).toArray := by
            apply Array.ext'; simp
          have hcalls := callC_spec hC h hg hd hargs hk
          rw [hcode] at hcalls
          unfold Oper.wp
          rw [hrun, harr]
          refine hcalls.mono ?_
          rintro e w' (⟨v, rfl, fz', m', s', g1, g2⟩ | ⟨chain, rfl, i, t, z, s', g1, g2⟩)
          · obtain ⟨q1, q2⟩ := put_ok a o.dst v hnn
            exact ⟨q1, q2, fz', m', s', g1, g2⟩
          · exact hQ chain w' i t z s' g1 g2
        · cases hk
      · cases hk
    · exact simpleC_spec hnn hE h hg hd hk
  · rename_i x hop
    split at hk
    · rename_i b hx
      split at hk
      · rename_i l n hb
        have hxv := h.opd hg x
        rw [hx] at hxv
        obtain ⟨hw, hω⟩ := h.iters b l n hb
        have hxe : a.eval x = .pointer (some ⟨m.γ b, 0, none⟩) := by
          obtain ⟨cs, hc, hv⟩ := hxv
          rcases hc with ⟨T, o', c, hb', _, _⟩ | ⟨l', n', _, _, rfl⟩
          · rw [hb] at hb'; cases hb'
          · exact hv
        have hrun := run_next (P := E.P) (ty := o.type) hw
        split at hk
        · rename_i hn
          have hn : n < l.length := by simpa using hn
          rw [if_pos hn] at hrun
          refine StepOK.wp hnn (s' := (s.setBox b (.iter l (n + (decRune l n).2))).putO o.dst (.tcons (.val .bool true) (.tcons (.val (.int .i64) (n : Int)) (.tcons (.val (.int .i32) ((decRune l n).1 : Int)) .tnil)))) ⟨.value _, .tuple #[.bool true, .int .i64 (n : Int), .int .i32 ((decRune l n).1 : Int)], _, fz, m, ?_, .inl rfl, (h.writeIter hb _).putO hd ?_⟩ hk
          · simp only [execOp, hop, hxe, Sem.run_bind, hrun, Result.andThen_ok, Sem.run_pure]
          · exact ⟨_, rfl, [_], _, rfl, ⟨rfl, rfl, rfl⟩, [_], _, rfl, ⟨rfl, rfl, rfl⟩, [_], _, rfl, ⟨rfl, rfl, rfl⟩, rfl⟩
        · rename_i hn
          have hn : ¬ n < l.length := by simpa using hn
          rw [if_neg hn] at hrun
          refine StepOK.wp hnn (s' := s.putO o.dst (.tcons (.val .bool false) .tnil)) ⟨.value _, .tuple #[.bool false], w, fz, m, ?_, .inl rfl, h.putO hd ?_⟩ hk
          · simp only [execOp, hop, hxe, Sem.run_bind, hrun, Result.andThen_ok, Sem.run_pure]
          · exact ⟨_, rfl, [_], _, rfl, ⟨rfl, rfl, rfl⟩, rfl⟩
      · cases hk
    · cases hk
  · rename_i x hop
    split at hk
    · rename_i i p hx
      split at hk
      · rename_i t ht
        split at hk
        · rename_i z hz
          have := castVal_some hz
          subst this
          have hxv := h.opd hg x
          rw [hx] at hxv
          obtain ⟨cs, ⟨vs, rfl, hp, hr⟩, hxe⟩ := hxv
          have hxe : a.eval x = .iface i (mkV t.isAgg vs) := hxe
          have hrun : (execOp a.eval o).run E.P w = .halt (.panic (.iface i (mkV t.isAgg vs))) w := by
            simp only [execOp, hop, hxe, Instr.panic]
            rfl
          unfold Oper.wp
          rw [hrun]
          exact hQ _ w i t z s ⟨fz, vs, rfl, hp, hr, h.keep, h.fzOk⟩ hk
        · cases hk
      · cases hk
    · cases hk
  · exact simpleC_spec hnn hE h hg hd hk
end
end Go.Abs
namespace Go.Abs
set_option autoImplicit false

structure MemLe (s s2 : St) : Prop where
  rows : ∀ r t o xs, s.rows r = .mk t o xs → ∃ o', s2.rows r = .mk t o' xs ∧ (o ≠ .dead → o' ≠ .dead)
  boxes : ∀ b T o c, s.boxes b = .cells T o c → ∃ o', s2.boxes b = .cells T o' c ∧ (o ≠ .dead → o' ≠ .dead)
  iters : ∀ b l n, s.boxes b = .iter l n → s2.boxes b = .iter l n

theorem MemLe.refl (s : St) : MemLe s s := ⟨fun _ _ o _ h => ⟨o, h, id⟩, fun _ _ o _ h => ⟨o, h, id⟩, fun _ _ _ h => h⟩
theorem MemLe.of_eq {s s2 : St} (h1 : s2.rows = s.rows) (h2 : s2.boxes = s.boxes) : MemLe s s2 :=
  ⟨fun _ _ o _ h => ⟨o, by rw [h1]; exact h, id⟩, fun _ _ o _ h => ⟨o, by rw [h2]; exact h, id⟩, fun _ _ _ h => by rw [h2]; exact h⟩
theorem MemLe.trans {a b c : St} (h : MemLe a b) (g : MemLe b c) : MemLe a c :=
  ⟨fun r t o xs e => by obtain ⟨o1, e1, k1⟩ := h.rows _ _ _ _ e; obtain ⟨o2, e2, k2⟩ := g.rows _ _ _ _ e1; exact ⟨o2, e2, fun k => k2 (k1 k)⟩,
   fun r t o xs e => by obtain ⟨o1, e1, k1⟩ := h.boxes _ _ _ _ e; obtain ⟨o2, e2, k2⟩ := g.boxes _ _ _ _ e1; exact ⟨o2, e2, fun k => k2 (k1 k)⟩,
   fun r l n e => g.iters _ _ _ (h.iters _ _ _ e)⟩

section
variable {s s2 : St}

theorem MemLe.alive (h : MemLe s s2) {r : Nat} {t : Ty} {o : Own} {xs : List t.den} (e : s.rows r = .mk t o xs) (ho : o ≠ .dead) : s2.rows r = .mk t .live xs ∨ s2.rows r = .mk t .frz xs := by
  obtain ⟨o', e', k⟩ := h.rows _ _ _ _ e
  cases o' with
  | live => exact .inl e'
  | frz => exact .inr e'
  | dead => exact absurd rfl (k ho)
theorem MemLe.aliveB (h : MemLe s s2) {b : Nat} {T : Ty} {o : Own} {c : PV} (e : s.boxes b = .cells T o c) (ho : o ≠ .dead) : s2.boxes b = .cells T .live c ∨ s2.boxes b = .cells T .frz c := by
  obtain ⟨o', e', k⟩ := h.boxes _ _ _ _ e
  cases o' with
  | live => exact .inl e'
  | frz => exact .inr e'
  | dead => exact absurd rfl (k ho)

theorem load_le (h : MemLe s s2) {p v : PV} (e : s.load p = some v) : s2.load p = some v := by
  cases p with
  | addr b path =>
    cases b with
    | box b =>
      simp only [St.load] at e ⊢
      cases hb : s.boxes b with
      | none => rw [hb] at e; cases e
      | iter l n => rw [hb] at e; cases e
      | cells T o c =>
        rw [hb] at e
        cases o with
        | dead => cases e
        | live => rcases h.aliveB hb (by simp) with h2 | h2 <;> rw [h2] <;> exact e
        | frz => rcases h.aliveB hb (by simp) with h2 | h2 <;> rw [h2] <;> exact e
    | row r i =>
      simp only [St.load] at e ⊢
      cases hb : s.rows r with
      | none => rw [hb] at e; cases e
      | mk t o xs =>
        rw [hb] at e
        cases o with
        | dead => cases e
        | live => rcases h.alive hb (by simp) with h2 | h2 <;> rw [h2] <;> exact e
        | frz => rcases h.alive hb (by simp) with h2 | h2 <;> rw [h2] <;> exact e
    | fbox t x => exact e
  | _ => simp [St.load] at e

theorem len_le (h : MemLe s s2) {u : Ty} {p : PV} {n : Nat} (e : s.len u p = some n) : s2.len u p = some n := by
  cases u with
  | str => exact e
  | arr n a => exact e
  | sl o a =>
    cases p with
    | row r =>
      simp only [St.len] at e ⊢
      cases hb : s.rows r with
      | none => rw [hb] at e; cases e
      | mk t o xs =>
        rw [hb] at e
        cases o with
        | dead => cases e
        | live => rcases h.alive hb (by simp) with h2 | h2 <;> rw [h2] <;> exact e
        | frz => rcases h.alive hb (by simp) with h2 | h2 <;> rw [h2] <;> exact e
    | val t x => cases t <;> first | exact e | simp [St.len] at e
    | _ => first | exact e | simp [St.len] at e
  | _ => simp [St.len] at e

theorem tyAt_le (h : MemLe s s2) {b : Base} {path : List Step} {T : Ty} (e : s.tyAt b path = some T) : s2.tyAt b path = some T := by
  cases b with
  | box b =>
    simp only [St.tyAt] at e ⊢
    cases hb : s.boxes b with
    | none => rw [hb] at e; cases e
    | iter l n => rw [hb] at e; cases e
    | cells T o c => rw [hb] at e; obtain ⟨o', h2, _⟩ := h.boxes _ _ _ _ hb; rw [h2]; exact e
  | row r i =>
    simp only [St.tyAt] at e ⊢
    cases hb : s.rows r with
    | none => rw [hb] at e; cases e
    | mk t o xs => rw [hb] at e; obtain ⟨o', h2, _⟩ := h.rows _ _ _ _ hb; rw [h2]; exact e
  | fbox t x => exact e

theorem indexAddr_le (h : MemLe s s2) {u : Ty} {p : PV} {n : Int} {q : Bool × PV} (e : indexAddrPV s u p n = some q) : indexAddrPV s2 u p n = some q := by
  cases u with
  | sl o a =>
    cases p with
    | val t x => cases t <;> exact e
    | row r =>
      simp only [indexAddrPV] at e ⊢
      cases hb : s.rows r with
      | none => rw [hb] at e; cases e
      | mk t o xs =>
        rw [hb] at e
        cases o with
        | dead => cases e
        | live => rcases h.alive hb (by simp) with h2 | h2 <;> rw [h2] <;> exact e
        | frz => rcases h.alive hb (by simp) with h2 | h2 <;> rw [h2] <;> exact e
    | part r lo hi =>
      simp only [indexAddrPV] at e ⊢
      cases hb : s.rows r with
      | none => rw [hb] at e; cases e
      | mk t o xs =>
        rw [hb] at e
        cases o with
        | dead => cases e
        | live => rcases h.alive hb (by simp) with h2 | h2 <;> rw [h2] <;> exact e
        | frz => rcases h.alive hb (by simp) with h2 | h2 <;> rw [h2] <;> exact e
    | _ => simp [indexAddrPV] at e
  | arr m a =>
    cases p with
    | addr b path =>
      simp only [indexAddrPV] at e ⊢
      cases hl : s.load (.addr b path) with
      | none => rw [hl] at e; cases e
      | some v => rw [load_le h hl]; rw [hl] at e; exact e
    | _ => simp [indexAddrPV] at e
  | _ => simp [indexAddrPV] at e

theorem slice_le (h : MemLe s s2) {u : Ty} {p : PV} {lo hi : Option Int} {q : Bool × PV} (e : slicePV s u p lo hi = some q) : slicePV s2 u p lo hi = some q := by
  cases u with
  | str => exact e
  | sl o a =>
    cases p with
    | val t x => cases t <;> exact e
    | row r =>
      simp only [slicePV] at e ⊢
      cases hb : s.rows r with
      | none => rw [hb] at e; cases e
      | mk t o xs =>
        rw [hb] at e
        cases o with
        | dead => cases e
        | live => rcases h.alive hb (by simp) with h2 | h2 <;> rw [h2] <;> exact e
        | frz => rcases h.alive hb (by simp) with h2 | h2 <;> rw [h2] <;> exact e
    | part r a b =>
      simp only [slicePV] at e ⊢
      cases hb : s.rows r with
      | none => rw [hb] at e; cases e
      | mk t o xs =>
        rw [hb] at e
        cases o with
        | dead => cases e
        | live => rcases h.alive hb (by simp) with h2 | h2 <;> rw [h2] <;> exact e
        | frz => rcases h.alive hb (by simp) with h2 | h2 <;> rw [h2] <;> exact e
    | _ => simp [slicePV] at e
  | arr n a =>
    cases p with
    | addr b path =>
      cases b with
      | box b =>
        simp only [slicePV] at e ⊢
        cases hl : s.load (.addr (.box b) path) with
        | none => rw [hl] at e; cases e
        | some v => rw [load_le h hl]; rw [hl] at e; exact e
      | _ => simp [slicePV] at e
    | _ => simp [slicePV] at e
  | _ => simp [slicePV] at e

theorem quiet_le {E : Env} {o : Oper} (hq : quietOp E o.op = true) {s' : St} (h : stepOp E s o = some (true, s')) : ∃ v, s' = s.putO o.dst v ∧ ∀ s2, (∀ x ∈ o.op.operands.toList, s2.opd E x = s.opd E x) → (stillOp o.op = true ∨ MemLe s s2) → stepOp E s2 o = some (true, s2.putO o.dst v) := by
  unfold stepOp at h
  cases hop : o.op with
  | move x =>
    simp only [hop, ok1] at h
    cases h
    exact ⟨_, rfl, fun s2 hx hm => by simp only [stepOp, hop, ok1]; rw [hx x (by simp [Op.operands])]⟩
  | assign x =>
    simp only [hop, ok1] at h
    cases h
    exact ⟨_, rfl, fun s2 hx hm => by simp only [stepOp, hop, ok1]; rw [hx x (by simp [Op.operands])]⟩
  | pick c a b =>
    simp only [hop, ok1] at h
    split at h
    · rename_i t ht
      cases t <;> cases h
      · exact ⟨_, rfl, fun s2 hx hm => by simp only [stepOp, hop, ok1]; rw [hx c (by simp [Op.operands]), hx b (by simp [Op.operands]), ht]⟩
      · exact ⟨_, rfl, fun s2 hx hm => by simp only [stepOp, hop, ok1]; rw [hx c (by simp [Op.operands]), hx a (by simp [Op.operands]), ht]⟩
    · cases h
  | unOp op t x =>
    simp only [hop, ok1] at h
    split at h
    · rename_i v hv
      cases h
      exact ⟨_, rfl, fun s2 hx hm => by simp only [stepOp, hop, ok1]; rw [hx x (by simp [Op.operands]), hv]⟩
    · cases h
  | binOp op t x y yt =>
    simp only [hop] at h
    cases hb : binPV op (E.ty t) (E.eqs t) (s.opd E x) (s.opd E y) with
    | none => rw [hb] at h; cases h
    | some q =>
      obtain ⟨c, v⟩ := q
      rw [hb] at h
      cases h
      exact ⟨_, rfl, fun s2 hx hm => by simp only [stepOp, hop]; rw [hx x (by simp [Op.operands]), hx y (by simp [Op.operands]), hb]; rfl⟩
  | index t x i =>
    simp only [hop] at h
    split at h
    · rename_i l n h1 h2 h3
      simp only [Option.some.injEq, Prod.mk.injEq] at h
      obtain ⟨hb, rfl⟩ := h
      exact ⟨_, rfl, fun s2 hx hm => by simp only [stepOp, hop]; rw [hx x (by simp [Op.operands]), hx i (by simp [Op.operands])]; simp only [h1, h2, h3, hb]⟩
    · rename_i k e m t' l n h1 h2 h3
      cases hc : (Nat.beq k m && e.same t') with
      | false => rw [hc] at h; cases h
      | true =>
        rw [hc] at h
        simp only [cond_true, Option.some.injEq, Prod.mk.injEq] at h
        obtain ⟨hb, rfl⟩ := h
        exact ⟨_, rfl, fun s2 hx hm => by simp only [stepOp, hop]; rw [hx x (by simp [Op.operands]), hx i (by simp [Op.operands])]; simp only [h1, h2, h3, hc, cond_true, hb]⟩
    · cases h
  | indexAddr t x i =>
    simp only [hop] at h
    split at h
    · rename_i u n h1 h2
      cases hb : indexAddrPV s u (s.opd E x) n with
      | none => rw [hb] at h; cases h
      | some q =>
        obtain ⟨c, v⟩ := q
        rw [hb] at h
        cases h
        exact ⟨_, rfl, fun s2 hx hm => by simp only [stepOp, hop]; rw [hx x (by simp [Op.operands]), hx i (by simp [Op.operands])]; simp only [h1, h2, indexAddr_le (hm.resolve_left (by simp [stillOp])) hb]; rfl⟩
    · cases h
  | load t a =>
    simp only [hop, ok1] at h
    split at h
    · rename_i v u h1 h2
      cases hf : fits u v with
      | false => rw [hf] at h; cases h
      | true =>
        rw [hf] at h
        cases h
        exact ⟨_, rfl, fun s2 hx hm => by simp only [stepOp, hop, ok1]; rw [hx a (by simp [Op.operands])]; simp only [load_le (hm.resolve_left (by simp [stillOp])) h1, h2, hf, cond_true]⟩
    · cases h
  | fieldAddr t x f =>
    simp only [hop, ok1] at h
    split at h
    · rename_i b path A h1 h2
      split at h
      · rename_i T hT
        cases hf : (Ty.same (.st A) T && Nat.ble (f + 1) (E.nf t)) with
        | false => rw [hf] at h; cases h
        | true =>
          rw [hf] at h
          cases h
          exact ⟨_, rfl, fun s2 hx hm => by simp only [stepOp, hop, ok1]; rw [hx x (by simp [Op.operands])]; simp only [h1, h2, tyAt_le (hm.resolve_left (by simp [stillOp])) hT, hf, cond_true]⟩
      · cases h
    · cases h
  | field t x f =>
    simp only [hop, ok1] at h
    split at h
    · rename_i A h1
      cases hf : (fits (.st A) (s.opd E x) && Nat.ble (f + 1) (E.nf t)) with
      | false => rw [hf] at h; cases h
      | true =>
        rw [hf] at h
        cases h
        exact ⟨_, rfl, fun s2 hx hm => by simp only [stepOp, hop, ok1]; rw [hx x (by simp [Op.operands])]; simp only [h1, hf, cond_true]⟩
    · cases h
  | nilCheck x =>
    simp only [hop, ok1] at h
    split at h
    · rename_i b path h1
      cases h
      exact ⟨_, rfl, fun s2 hx hm => by simp only [stepOp, hop, ok1]; rw [hx x (by simp [Op.operands])]; simp only [h1]⟩
    · cases h
  | slice t x lo hi mx =>
    cases mx with
    | some m => simp [hop, quietOp] at hq
    | none =>
      simp only [hop] at h
      split at h
      · rename_i u l r h1 h2 h3
        cases hb : slicePV s u (s.opd E x) l r with
        | none => rw [hb] at h; cases h
        | some q =>
          obtain ⟨c, v⟩ := q
          rw [hb] at h
          cases h
          refine ⟨_, rfl, fun s2 hx hm => ?_⟩
          have e2 : optInt E s2 lo = some l := by
            cases lo with
            | none => exact h2
            | some y => simp only [optInt] at h2 ⊢; rw [hx y (by simp [Op.operands])]; exact h2
          have e3 : optInt E s2 hi = some r := by
            cases hi with
            | none => exact h3
            | some y => simp only [optInt] at h3 ⊢; rw [hx y (by simp [Op.operands])]; exact h3
          simp only [stepOp, hop]
          rw [hx x (by simp [Op.operands])]
          simp only [h1, e2, e3, slice_le (hm.resolve_left (by simp [stillOp])) hb]
          rfl
      · cases h
  | build t parts =>
    simp only [hop, ok1] at h
    split at h
    · rename_i u hu
      split at h
      · rename_i v hv
        cases hf : fits u v with
        | false => rw [hf] at h; cases h
        | true =>
          rw [hf] at h
          cases h
          refine ⟨_, rfl, fun s2 hx hm => ?_⟩
          have hb : ∀ (l : List (Nat × Operand)) (p : PV), (∀ y ∈ l, s2.opd E y.2 = s.opd E y.2) → buildParts E t u s2 l p = buildParts E t u s l p := by
            intro l
            induction l with
            | nil => intro p _; rfl
            | cons y l ih =>
              intro p hy
              obtain ⟨f, x⟩ := y
              simp only [buildParts]
              rw [hy (f, x) (by simp)]
              cases hc : (partOk u (E.nf t) f && fits (u.at (partPath u (E.nf t) f)) (s.opd E x)) with
              | false => rfl
              | true =>
                simp only [cond_true]
                cases p.set (partPath u (E.nf t) f) (s.opd E x) with
                | none => rfl
                | some q => exact ih q (fun z hz => hy z (by simp [hz]))
          simp only [stepOp, hop, ok1, hu]
          rw [hb parts.toList (zeroPV u) (fun z hz => hx z.2 (by simp only [Op.operands]; simp only [List.mem_map]; exact ⟨z, hz, rfl⟩)), hv]
          simp only [hf, cond_true]
      · cases h
    · cases h
  | makeInterface t x =>
    simp only [hop, ok1] at h
    split at h
    · rename_i u hu
      cases hf : fits u (s.opd E x) with
      | false => rw [hf] at h; cases h
      | true =>
        rw [hf] at h
        cases h
        exact ⟨_, rfl, fun s2 hx hm => by simp only [stepOp, hop, ok1]; rw [hx x (by simp [Op.operands])]; simp only [hu, hf, cond_true]⟩
    · cases h
  | makeFunc fn first caps =>
    simp only [hop, ok1] at h
    split at h
    · rename_i f
      cases hf : (Nat.beq first.size 0 && capsOk (caps.toList.map (s.opd E))) with
      | false => rw [hf] at h; cases h
      | true =>
        rw [hf] at h
        cases h
        refine ⟨_, rfl, fun s2 hx hm => ?_⟩
        have hc : caps.toList.map (s2.opd E) = caps.toList.map (s.opd E) := List.map_congr_left fun x hxm => hx x (by
          simp only [Op.operands, Array.toList_append, List.mem_append]; exact .inr hxm)
        simp only [stepOp, hop, ok1]
        rw [hc]
        simp only [hf, cond_true]
    · cases h
  | convert src dst x =>
    simp only [hop, quietOp, numConv] at hq
    simp only [hop] at h
    split at hq
    · rename_i j k hj hkk
      rw [hj, hkk] at h
      cases hd : o.dst with
      | none => rw [hd] at h; cases h
      | some d =>
        rw [hd] at h
        simp only at h
        cases hp : s.opd E x with
        | val u z =>
          cases u with
          | int i =>
            rw [hp] at h
            simp only [convPV, okC, convFits] at h
            cases h
            exact ⟨.val (.int k) (k.wrap z), rfl, fun s2 hx hm => by simp only [stepOp, hop, hj, hkk, hd]; rw [hx x (by simp [Op.operands]), hp]; rfl⟩
          | str => rw [hp] at h; simp [convPV, okC] at h
          | _ => rw [hp] at h; simp [convPV, okC] at h
        | _ => rw [hp] at h; simp [convPV, okC] at h
    · cases hq
  | extract x i =>
    simp only [hop, ok1] at h
    cases hf : nthOk (s.opd E x) i with
    | false => rw [hf] at h; cases h
    | true =>
      rw [hf] at h
      cases h
      exact ⟨_, rfl, fun s2 hx hm => by simp only [stepOp, hop, ok1]; rw [hx x (by simp [Op.operands])]; simp only [hf, cond_true]⟩
  | call c =>
    simp only [hop] at h hq
    obtain ⟨cal, cargs, cty⟩ := c
    cases cal with
    | value f => cases h
    | invoke r m => cases h
    | builtin b =>
      cases b with
      | len =>
        simp only [builtinStep] at h
        split at h
        · rename_i x hb hargs
          split at h
          · rename_i n hn
            simp only [ok1] at h
            cases h
            obtain ⟨u, hu, hl⟩ := Option.bind_eq_some_iff.1 hn
            refine ⟨_, rfl, fun s2 hx hm => ?_⟩
            have hmem : x ∈ (Op.call { callee := Callee.builtin Builtin.len, args := cargs, argTypes := cty }).operands.toList := by
              simp only [Op.operands, Call.operands]
              simp [hargs]
            simp only [stepOp, hop, builtinStep, hargs, hu, Option.bind_some, hx x hmem, len_le (hm.resolve_left (by simp [stillOp])) hl, ok1]
          · cases h
        all_goals first | (rename_i hb _; cases hb) | cases h
      | min =>
        simp only [builtinStep] at h
        split at h
        case h_3 x y hb hargs =>
          split at h
          · rename_i j a k b ha hb'
            split at h
            · rename_i z hz
              simp only [ok1] at h
              cases h
              refine ⟨_, rfl, fun s2 hx hm => ?_⟩
              have hmem : ∀ q ∈ [x, y], q ∈ (Op.call { callee := Callee.builtin Builtin.min, args := cargs, argTypes := cty }).operands.toList := fun q hq => by
                simp only [Op.operands, Call.operands]
                simpa [hargs] using hq
              simp only [stepOp, hop, builtinStep, hargs]
              rw [hx x (hmem x (by simp)), hx y (hmem y (by simp)), ha, hb']
              simp only [hz, ok1]
            · cases h
          · cases h
        all_goals first | (rename_i hb _; cases hb) | cases h
      | max =>
        simp only [builtinStep] at h
        split at h
        case h_4 x y hb hargs =>
          split at h
          · rename_i j a k b ha hb'
            split at h
            · rename_i z hz
              simp only [ok1] at h
              cases h
              refine ⟨_, rfl, fun s2 hx hm => ?_⟩
              have hmem : ∀ q ∈ [x, y], q ∈ (Op.call { callee := Callee.builtin Builtin.max, args := cargs, argTypes := cty }).operands.toList := fun q hq => by
                simp only [Op.operands, Call.operands]
                simpa [hargs] using hq
              simp only [stepOp, hop, builtinStep, hargs]
              rw [hx x (hmem x (by simp)), hx y (hmem y (by simp)), ha, hb']
              simp only [hz, ok1]
            · cases h
          · cases h
        all_goals first | (rename_i hb _; cases hb) | cases h
      | _ => simp [quietOp] at hq
  | _ => simp [hop, quietOp] at hq
end
end Go.Abs
namespace Go.Abs
set_option autoImplicit false

def St.sl (s : St) (σ : Nat → PV) : St := { s with slots := σ }

theorem elems_sl (s : St) (σ : Nat → PV) (t : Ty) (p : PV) : (s.sl σ).elems t p = s.elems t p := by cases p <;> rfl
theorem load_sl (s : St) (σ : Nat → PV) (p : PV) : (s.sl σ).load p = s.load p := by
  cases p with
  | addr b path => cases b <;> rfl
  | _ => rfl
theorem freezeRow_sl (s : St) (σ : Nat → PV) (r : Nat) : (s.sl σ).freezeRow r = (s.freezeRow r).sl σ := by
  unfold St.freezeRow
  show (match s.rows r with | .mk t .live xs => (s.sl σ).setRow r (.mk t .frz xs) | _ => s.sl σ) = _
  cases s.rows r with
  | none => rfl
  | mk t o xs => cases o <;> rfl
theorem freezeBox_sl (s : St) (σ : Nat → PV) (b : Nat) : (s.sl σ).freezeBox b = (s.freezeBox b).sl σ := by
  unfold St.freezeBox
  show (match s.boxes b with | .cells T .live c => (s.sl σ).setBox b (.cells T .frz c) | _ => s.sl σ) = _
  cases s.boxes b with
  | none => rfl
  | iter l n => rfl
  | cells T o c => cases o <;> rfl
theorem freeze_sl (s : St) (σ : Nat → PV) (p : PV) : (s.sl σ).freeze p = (s.freeze p).sl σ := by
  cases p with
  | row r => exact freezeRow_sl s σ r
  | part r lo hi => exact freezeRow_sl s σ r
  | bpart b path lo hi => exact freezeBox_sl s σ b
  | addr b path =>
    cases b with
    | box b => exact freezeBox_sl s σ b
    | row r i => exact freezeRow_sl s σ r
    | fbox t x => rfl
  | _ => rfl

theorem freezeRow_le (s : St) (r : Nat) : MemLe s (s.freezeRow r) := by
  unfold St.freezeRow
  split
  · rename_i t xs hr
    refine ⟨fun r' t' o' xs' h => ?_, fun b T o c h => ⟨o, h, id⟩, fun _ _ _ h => h⟩
    rw [setRow_rows]
    by_cases e : r' = r
    · subst e; rw [if_pos rfl]; rw [hr] at h; cases h; exact ⟨.frz, rfl, fun _ => by simp⟩
    · rw [if_neg e]; exact ⟨o', h, id⟩
  · exact MemLe.refl s
theorem freezeBox_le (s : St) (b : Nat) : MemLe s (s.freezeBox b) := by
  unfold St.freezeBox
  split
  · rename_i T c hb
    refine ⟨fun r t o xs h => ⟨o, h, id⟩, fun b' T' o' c' h => ?_, fun b' l n h => ?_⟩
    · rw [setBox_boxes]
      by_cases e : b' = b
      · subst e; rw [if_pos rfl]; rw [hb] at h; cases h; exact ⟨.frz, rfl, fun _ => by simp⟩
      · rw [if_neg e]; exact ⟨o', h, id⟩
    · rw [setBox_boxes]
      by_cases e : b' = b
      · subst e; rw [hb] at h; cases h
      · rw [if_neg e]; exact h
  · exact MemLe.refl s
theorem freeze_le (s : St) (p : PV) : MemLe s (s.freeze p) := by
  cases p with
  | row r => exact freezeRow_le s r
  | part r lo hi => exact freezeRow_le s r
  | bpart b path lo hi => exact freezeBox_le s b
  | addr b path =>
    cases b with
    | box b => exact freezeBox_le s b
    | row r i => exact freezeRow_le s r
    | fbox t x => exact MemLe.refl s
  | _ => exact MemLe.refl s

theorem newRow_le {s s' : St} {r : Nat} {t : Ty} {xs : List t.den} (h : s.newRow r t xs = some s') : MemLe s s' ∧ ∀ σ, (s.sl σ).newRow r t xs = some (s'.sl σ) := by
  obtain ⟨h1, rfl⟩ := newRow_some h
  refine ⟨⟨fun r' t' o' xs' hh => ?_, fun b T o c h => ⟨o, h, id⟩, fun _ _ _ h => h⟩, fun σ => ?_⟩
  · rw [setRow_rows]
    by_cases e : r' = r
    · subst e; rw [h1] at hh; cases hh
    · rw [if_neg e]; exact ⟨o', hh, id⟩
  · unfold St.newRow
    show (match s.rows r with | .none => some ((s.sl σ).setRow r (.mk t .live xs)) | _ => none) = _
    rw [h1]; rfl
theorem newBox_le {s s' : St} {b : Nat} {e : BoxE} (h : s.newBox b e = some s') : MemLe s s' ∧ ∀ σ, (s.sl σ).newBox b e = some (s'.sl σ) := by
  obtain ⟨h1, rfl⟩ := newBox_some h
  refine ⟨⟨fun r t o xs h => ⟨o, h, id⟩, fun b' T' o' c' hh => ?_, fun b' l n hh => ?_⟩, fun σ => ?_⟩
  · rw [setBox_boxes]
    by_cases e : b' = b
    · subst e; rw [h1] at hh; cases hh
    · rw [if_neg e]; exact ⟨o', hh, id⟩
  · rw [setBox_boxes]
    by_cases e : b' = b
    · subst e; rw [h1] at hh; cases hh
    · rw [if_neg e]; exact hh
  · unfold St.newBox
    show (match s.boxes b with | .none => some ((s.sl σ).setBox b e) | _ => none) = _
    rw [h1]; rfl

theorem toDen_calm (t : Ty) : ∀ {p : PV} {s s' : St} {x : t.den}, t.calm = true → toDen t p s = some (x, s') → MemLe s s' ∧ ∀ σ, toDen t p (s.sl σ) = some (x, s'.sl σ) := by
  have leaf : ∀ {t : Ty} {p : PV} {s s' : St} {x : t.den}, (∀ s : St, toDen t p s = (castVal t p).map (fun x => (x, s))) → toDen t p s = some (x, s') → MemLe s s' ∧ ∀ σ, toDen t p (s.sl σ) = some (x, s'.sl σ) := by
    intro t p s s' x h1 h
    rw [h1] at h
    cases hc : castVal t p with
    | none => rw [hc] at h; cases h
    | some y =>
      rw [hc] at h
      cases h
      exact ⟨MemLe.refl s, fun σ => by rw [h1, hc]; rfl⟩
  induction t with
  | pair a b iha ihb =>
    intro p s s' x hc h
    simp only [Ty.calm, Bool.and_eq_true] at hc
    simp only [toDen] at h ⊢
    split at h
    · rename_i y hy; cases h; exact ⟨MemLe.refl s, fun σ => rfl⟩
    · rename_i hy
      split at h
      · rename_i y s1 h1
        split at h
        · rename_i z s2 h2
          cases h
          obtain ⟨l1, g1⟩ := iha hc.1 h1
          obtain ⟨l2, g2⟩ := ihb hc.2 h2
          exact ⟨l1.trans l2, fun σ => by simp only [g1 σ, g2 σ]⟩
        · cases h
      · cases h
  | st a ih =>
    intro p s s' x hc h
    simp only [toDen] at h ⊢
    split at h
    · rename_i y hy; cases h; exact ⟨MemLe.refl s, fun σ => rfl⟩
    · rename_i hy
      obtain ⟨l1, g1⟩ := ih (p := p.inn) hc h
      exact ⟨l1, fun σ => g1 σ⟩
  | sl own a ih =>
    intro p s s' x hc h
    cases own with
    | true => cases hc
    | false =>
      simp only [toDen] at h ⊢
      split at h
      · rename_i xs hx
        cases h
        exact ⟨freeze_le s p, fun σ => by rw [elems_sl, hx, freeze_sl]⟩
      · cases h
  | ptr a _ => intro p s s' x hc h; cases hc
  | optr a _ => intro p s s' x hc h; cases hc
  | rptr a _ =>
    intro p s s' x hc h
    cases p with
    | addr b path =>
      cases b with
      | box b =>
        simp only [toDen] at h ⊢
        split at h
        · rename_i q hq
          split at h
          · rename_i y hy
            cases h
            exact ⟨freezeBox_le s b, fun σ => by rw [load_sl, hq]; simp only [hy, freezeBox_sl]⟩
          · cases h
        · cases h
      | row r i => exact leaf (fun s => by simp only [toDen]; cases castVal _ _ <;> rfl) h
      | fbox u z =>
        simp only [toDen] at h ⊢
        split at h
        · rename_i y hy
          cases h
          exact ⟨MemLe.refl s, fun σ => rfl⟩
        · cases h
    | _ => exact leaf (fun s => by simp only [toDen]; cases castVal _ _ <;> rfl) h
  | clo f n a ih =>
    intro p s s' x hc h
    cases p with
    | cl g k q =>
      simp only [toDen] at h ⊢
      split at h
      · exact ih hc h
      · cases h
    | _ => exact leaf (fun s => by simp only [toDen]; cases castVal _ _ <;> rfl) h
  | nilp =>
    intro p s s' x hc h
    cases p with
    | nilp => cases h; exact ⟨MemLe.refl s, fun σ => rfl⟩
    | _ => exact leaf (fun s => by simp only [toDen]; cases castVal _ _ <;> rfl) h
  | _ => intro p s s' x hc h; exact leaf (fun s => by simp only [toDen]; cases castVal _ _ <;> rfl) h

theorem argsDen_calm : ∀ (ts : List Ty) {ps : List PV} {s s' : St} {x : (tup ts).den}, ts.all Ty.calm = true → argsDen ts ps s = some (x, s') → MemLe s s' ∧ ∀ σ, argsDen ts ps (s.sl σ) = some (x, s'.sl σ)
  | [], ps, s, s', x, _, h => by
    cases ps with
    | nil => cases h; exact ⟨MemLe.refl s, fun σ => rfl⟩
    | cons _ _ => cases h
  | [t], ps, s, s', x, hc, h => by
    cases ps with
    | nil => cases h
    | cons p ps =>
      cases ps with
      | nil => exact toDen_calm t (by simpa using hc) (h : toDen t p s = some (x, s'))
      | cons _ _ => cases h
  | t :: u :: ts, ps, s, s', x, hc, h => by
    cases ps with
    | nil => cases h
    | cons p ps =>
      rw [argsDen_cons] at h
      simp only [List.all_cons, Bool.and_eq_true] at hc
      split at h
      · rename_i y s1 hy
        split at h
        · rename_i z s2 hz
          cases h
          obtain ⟨l1, g1⟩ := toDen_calm t hc.1 hy
          obtain ⟨l2, g2⟩ := argsDen_calm (u :: ts) (by simp [hc.2]) hz
          exact ⟨l1.trans l2, fun σ => by rw [argsDen_cons, g1 σ]; simp only [g2 σ]⟩
        · cases h
      · cases h

theorem imp_calm {R : Type} (t : Ty) : ∀ {id : Nat} {x : t.den} {s : St} {k : PV → St → Option R} {r : R}, imp t id x s k = some r →
    ∃ p s2, k p s2 = some r ∧ MemLe s s2 ∧ (∀ n, s2.slots n = s.slots n) ∧ ∀ (σ : Nat → PV) (k' : PV → St → Option R), imp t id x (s.sl σ) k' = k' p (s2.sl σ) := by
  have leaf : ∀ {t : Ty} {id : Nat} {x : t.den} {s : St} {k : PV → St → Option R} {r : R} (q : PV) (c : Bool), (∀ (s : St) (k : PV → St → Option R), imp t id x s k = bif c then k q s else none) → imp t id x s k = some r →
      ∃ p s2, k p s2 = some r ∧ MemLe s s2 ∧ (∀ n, s2.slots n = s.slots n) ∧ ∀ (σ : Nat → PV) (k' : PV → St → Option R), imp t id x (s.sl σ) k' = k' p (s2.sl σ) := by
    intro t id x s k r q c h1 h
    rw [h1] at h
    cases c with
    | false => cases h
    | true => exact ⟨q, s, h, MemLe.refl s, fun _ => rfl, fun σ k' => by rw [h1]; rfl⟩
  induction t with
  | pair a b iha ihb =>
    intro id x s k r h
    simp only [imp] at h ⊢
    cases hp : (a.pure && b.pure) with
    | true =>
      rw [hp] at h
      exact ⟨_, s, h, MemLe.refl s, fun _ => rfl, fun σ k' => rfl⟩
    | false =>
      rw [hp, cond_false] at h
      obtain ⟨p, s1, h1, l1, m1, g1⟩ := iha h
      obtain ⟨q, s2, h2, l2, m2, g2⟩ := ihb h1
      exact ⟨_, s2, h2, l1.trans l2, fun n => (m2 n).trans (m1 n), fun σ k' => by rw [cond_false, g1, g2]⟩
  | st a ih =>
    intro id x s k r h
    simp only [imp] at h ⊢
    cases hp : a.pure with
    | true =>
      rw [hp] at h
      exact ⟨_, s, h, MemLe.refl s, fun _ => rfl, fun σ k' => rfl⟩
    | false =>
      rw [hp, cond_false] at h
      obtain ⟨p, s1, h1, l1, m1, g1⟩ := ih h
      exact ⟨_, s1, h1, l1, m1, fun σ k' => by rw [cond_false, g1]⟩
  | sl own a _ =>
    intro id x s k r h
    cases own with
    | false => exact leaf (.val (.sl false a) x) a.pure (fun s k => by simp only [imp, Ty.pure, Bool.not_false, Bool.true_and]) h
    | true =>
      simp only [imp] at h ⊢
      split at h
      · rename_i s1 h1
        obtain ⟨l1, g1⟩ := newRow_le h1
        obtain ⟨_, rfl⟩ := newRow_some h1
        exact ⟨_, _, h, l1, fun _ => rfl, fun σ k' => by rw [g1 σ]⟩
      · cases h
  | ptr a ih =>
    intro id x s k r h
    simp only [imp] at h ⊢
    obtain ⟨p, s1, h1, l1, m1, g1⟩ := ih h
    split at h1
    · rename_i s2 h2
      obtain ⟨l2, g2⟩ := newBox_le h2
      obtain ⟨_, rfl⟩ := newBox_some h2
      exact ⟨_, _, h1, l1.trans l2, m1, fun σ k' => by rw [g1, g2 σ]⟩
    · cases h1
  | rptr a _ =>
    intro id x s k r h
    exact leaf (.addr (.fbox a x) []) a.pure (fun s k => by simp only [imp]) h
  | optr a ih =>
    intro id x s k r h
    cases x with
    | none => exact ⟨.nilp, s, h, MemLe.refl s, fun _ => rfl, fun σ k' => rfl⟩
    | some y =>
      simp only [imp] at h ⊢
      obtain ⟨p, s1, h1, l1, m1, g1⟩ := ih h
      split at h1
      · rename_i s2 h2
        obtain ⟨l2, g2⟩ := newBox_le h2
        obtain ⟨_, rfl⟩ := newBox_some h2
        exact ⟨_, _, h1, l1.trans l2, m1, fun σ k' => by rw [g1, g2 σ]⟩
      · cases h1
  | clo f n a ih =>
    intro id x s k r h
    simp only [imp] at h ⊢
    obtain ⟨p, s1, h1, l1, m1, g1⟩ := ih h
    exact ⟨_, s1, h1, l1, m1, fun σ k' => by rw [g1]⟩
  | nilp => intro id x s k r h; exact ⟨_, s, h, MemLe.refl s, fun _ => rfl, fun σ k' => rfl⟩
  | arr n a _ => intro id x s k r h; exact leaf (.val (.arr n a) x) (Ty.pure (.arr n a)) (fun s k => by simp only [imp]) h
  | _ => intro id x s k r h; exact ⟨_, s, h, MemLe.refl s, fun _ => rfl, fun σ k' => rfl⟩

theorem impRes_calm {R : Type} : ∀ (res : List Ty) {l : List PV} {id : Nat} {x : (tup (res ++ [])).den} {s : St} {k : PV → St → Option R} {r : R}, impRes res [] l id x s k = some r →
    ∃ p s2, k p s2 = some r ∧ MemLe s s2 ∧ (∀ n, s2.slots n = s.slots n) ∧ ∀ (σ : Nat → PV) (k' : PV → St → Option R), impRes res [] l id x (s.sl σ) k' = k' p (s2.sl σ)
  | [], l, id, x, s, k, r, h => by
    cases l with
    | nil => exact ⟨.tnil, s, h, MemLe.refl s, fun _ => rfl, fun σ k' => rfl⟩
    | cons _ _ => cases h
  | [t], l, id, x, s, k, r, h => by
    simp only [impRes] at h ⊢
    obtain ⟨p, s1, h1, l1, m1, g1⟩ := imp_calm t h
    exact ⟨_, s1, h1, l1, m1, fun σ k' => by rw [g1]⟩
  | t :: u :: res, l, id, x, s, k, r, h => by
    simp only [impRes] at h ⊢
    obtain ⟨p, s1, h1, l1, m1, g1⟩ := imp_calm t h
    obtain ⟨q, s2, h2, l2, m2, g2⟩ := impRes_calm (u :: res) h1
    exact ⟨_, s2, h2, l1.trans l2, fun n => (m2 n).trans (m1 n), fun σ k' => by rw [g1, g2]⟩

theorem thaw_le {s s' : St} (h : MemLe s s') : MemLe s (s.thaw s') := by
  refine ⟨fun r t o xs hr => ?_, fun b T o c hb => ?_, fun b l n hb => ?_⟩
  · obtain ⟨o', e, k⟩ := h.rows r t o xs hr
    show ∃ o', thawRow (s.rows r) (s'.rows r) = _ ∧ _
    rw [hr, e]
    cases o with
    | live =>
      cases o' with
      | dead => exact absurd rfl (k (by simp))
      | live => exact ⟨_, rfl, fun _ => by simp⟩
      | frz => exact ⟨_, rfl, fun _ => by simp⟩
    | frz => exact ⟨o', by cases o' <;> rfl, k⟩
    | dead => exact ⟨o', by cases o' <;> rfl, k⟩
  · obtain ⟨o', e, k⟩ := h.boxes b T o c hb
    show ∃ o', thawBox (s.boxes b) (s'.boxes b) = _ ∧ _
    rw [hb, e]
    cases o with
    | live =>
      cases o' with
      | dead => exact absurd rfl (k (by simp))
      | live => exact ⟨_, rfl, fun _ => by simp⟩
      | frz => exact ⟨_, rfl, fun _ => by simp⟩
    | frz => exact ⟨o', by cases o' <;> rfl, k⟩
    | dead => exact ⟨o', by cases o' <;> rfl, k⟩
  · show thawBox (s.boxes b) (s'.boxes b) = _
    rw [hb, h.iters b l n hb]; rfl

theorem calm_backs : ∀ {ts : List Ty}, ts.all Ty.calm = true → (ts.filterMap fun | .ptr t => some t | _ => none) = [] ∧ ∀ ps : List PV, backArgs ts ps = []
  | [], _ => ⟨rfl, fun ps => by cases ps <;> rfl⟩
  | t :: ts, h => by
    simp only [List.all_cons, Bool.and_eq_true] at h
    obtain ⟨h1, h2⟩ := calm_backs h.2
    cases t <;> first | (cases h.1; done) | exact ⟨h1, fun ps => by cases ps <;> first | rfl | exact h2 _⟩

theorem outCases_map {R : Type} {g : Sig} {z : g.Out} {p p' : (i : TypeId) → (t : Ty) → t.den → Option R} {k k' : g.good.den → Option R} {r : R} (h : outCases g z p k = some r)
    (hp : ∀ i t x, p i t x = some r → p' i t x = some r) (hk : ∀ v, k v = some r → k' v = some r) : outCases g z p' k' = some r := by
  obtain ⟨args, res, pan⟩ := g
  cases pan with
  | none => exact hk _ h
  | some q =>
    cases z with
    | inl w => exact hp _ _ _ h
    | inr z => exact hk _ h

theorem callC_soft {E : Env} {R : Type} {call : CallT E} {t s : St} (hr : s.rows = t.rows) (hb : s.boxes = t.boxes) {dst : Option Nat} {f : FuncId} {ps : List PV} {π : Ex → St → Option R} {κ : St → Option R} {y : R}
    (hc : (E.sig f).args.all Ty.calm = true) (h : callC E call t dst f ps π κ = some y) :
    ∃ (π' : Ex → St → Option R) (κ' : St → Option R), callC E call s dst f ps π' κ' = some y ∧
      (∀ e s2 r, π' e s2 = some r → ∃ s3, π e s3 = some r) ∧
      (∀ s2 r, κ' s2 = some r → MemLe s s2 ∧ (∀ n, dst ≠ some n → s2.slots n = s.slots n) ∧ κ (s2.sl fun n => if dst = some n then s2.slots n else t.slots n) = some r) := by
  classical
  have hst : s = t.sl s.slots := by cases s; cases t; simp only [St.sl] at *; simp_all
  refine ⟨fun e s2 => π e (s2.sl t.slots), fun s2 => if MemLe s s2 ∧ (∀ n, dst ≠ some n → s2.slots n = s.slots n) then κ (s2.sl fun n => if dst = some n then s2.slots n else t.slots n) else none, ?_, fun e s2 r h => ⟨_, h⟩, fun s2 r h => ?_⟩
  · unfold callC at h ⊢
    split at h
    · cases h
    · rename_i x t1 hx
      obtain ⟨l1, g1⟩ := argsDen_calm _ hc hx
      have hx' : argsDen (E.sig f).args ps s = some (x, t1.sl s.slots) := by rw [hst]; exact g1 _
      have ht1 : t1.sl t.slots = t1 := by
        have := g1 t.slots
        have e : t.sl t.slots = t := rfl
        rw [e, hx] at this
        exact (congrArg Prod.snd (Option.some.inj this)).symm
      rw [hx']
      simp only
      obtain ⟨z, hz, h⟩ := Option.bind_eq_some_iff.1 h
      rw [hz]
      simp only [Option.bind_some]
      obtain ⟨hb1, hb2⟩ := calm_backs hc
      have main : ∀ (v : (E.sig f).good.den), impRes (E.sig f).res (E.sig f).backs (backArgs (E.sig f).args ps) (1024 * (dst.getD 0 + 1) + 2) v (bif (E.sig f).leaks then t1 else t.thaw t1) (fun v s => κ (s.putO dst (single v))) = some y →
          impRes (E.sig f).res (E.sig f).backs (backArgs (E.sig f).args ps) (1024 * (dst.getD 0 + 1) + 2) v (bif (E.sig f).leaks then t1.sl s.slots else s.thaw (t1.sl s.slots)) (fun v s2 => if MemLe s (s2.putO dst (single v)) ∧ (∀ n, dst ≠ some n → (s2.putO dst (single v)).slots n = s.slots n) then κ ((s2.putO dst (single v)).sl fun n => if dst = some n then (s2.putO dst (single v)).slots n else t.slots n) else none) = some y := by
        have hbk : (E.sig f).backs = [] := hb1
        rw [hb2]
        revert hbk
        show (E.sig f).backs = [] → ∀ (v : (tup ((E.sig f).res ++ (E.sig f).backs)).den), _
        generalize (E.sig f).backs = bs
        rintro rfl v h
        obtain ⟨p, t2, h2, l2, m2, g2⟩ := impRes_calm _ h
        have hs0 : (bif (E.sig f).leaks then t1.sl s.slots else s.thaw (t1.sl s.slots)) = (bif (E.sig f).leaks then t1 else t.thaw t1).sl s.slots := by
          cases (E.sig f).leaks with
          | true => rfl
          | false =>
            show s.thaw (t1.sl s.slots) = (t.thaw t1).sl s.slots
            rw [hst]; rfl
        rw [hs0, g2 s.slots]
        have hl : MemLe t t2 := by
          refine MemLe.trans ?_ l2
          cases (E.sig f).leaks with
          | true => exact l1
          | false => exact thaw_le l1
        have hs2 : ∀ n, t2.slots n = t.slots n := by
          intro n
          rw [m2 n]
          cases (E.sig f).leaks with
          | true => show t1.slots n = _; rw [← ht1]; rfl
          | false => show (t.thaw t1).slots n = _; show t1.slots n = _; rw [← ht1]; rfl
        have hput : ∀ (u : St) (q : PV), (u.putO dst q).rows = u.rows ∧ (u.putO dst q).boxes = u.boxes := fun u q => by cases dst <;> exact ⟨rfl, rfl⟩
        rw [if_pos]
        · rw [← h2]
          congr 1
          cases dst with
          | none =>
            show St.mk (fun n => if none = some n then _ else t.slots n) t2.boxes t2.rows = t2
            have : (fun n => if (none : Option Nat) = some n then s.slots n else t.slots n) = t2.slots := by
              funext n; rw [if_neg (by simp), hs2]
            cases t2
            simp only [St.mk.injEq, and_true]
            exact this
          | some d =>
            show St.mk (fun n => if some d = some n then ((t2.sl s.slots).put d (single p)).slots n else t.slots n) t2.boxes t2.rows = t2.put d (single p)
            have : (fun n => if some d = some n then ((t2.sl s.slots).put d (single p)).slots n else t.slots n) = (t2.put d (single p)).slots := by
              funext n
              by_cases e : d = n
              · subst e; rw [if_pos rfl, put_slots, put_slots, if_pos rfl, if_pos rfl]
              · rw [if_neg (by simpa using e), put_slots, if_neg (fun h => e h.symm), hs2]
            rw [this]; rfl
        · constructor
          · have h1 := hput (t2.sl s.slots) (single p)
            refine MemLe.trans (b := t2) ?_ (MemLe.of_eq h1.1 h1.2)
            exact ⟨fun r u o xs hh => hl.rows r u o xs (by rw [← hr]; exact hh), fun b T o c hh => hl.boxes b T o c (by rw [← hb]; exact hh), fun b l n hh => hl.iters b l n (by rw [← hb]; exact hh)⟩
          · intro n hn
            cases dst with
            | none => rfl
            | some d => show ((t2.sl s.slots).put d (single p)).slots n = _; rw [put_slots, if_neg (fun e => hn (by rw [e]))]; rfl
      refine outCases_map h (fun i u x hp => ?_) main
      show π _ ((t1.sl s.slots).sl t.slots) = some y
      rw [show (t1.sl s.slots).sl t.slots = t1.sl t.slots from rfl, ht1]
      exact hp
  · dsimp only at h
    split at h
    · rename_i hh
      exact ⟨hh.1, hh.2, h⟩
    · cases h
end Go.Abs
namespace Go.Abs
set_option autoImplicit false
section
variable {E : Env} {t : St}

theorem sl_of {s : St} (hr : s.rows = t.rows) (hb : s.boxes = t.boxes) : s = t.sl s.slots := by
  cases s; cases t; simp only [St.sl] at *; simp_all

def Made (E : Env) (t : St) (o : Oper) (t1 : St) : Prop := ∃ v u, t1 = u.putO o.dst v ∧ (∀ n, u.slots n = t.slots n) ∧ MemLe t u ∧
  ∀ s, (∀ x ∈ o.op.operands.toList, s.opd E x = t.opd E x) → s.rows = t.rows → s.boxes = t.boxes → stepOp E s o = some (true, (u.sl s.slots).putO o.dst v)

theorem buildElems_calm {u : Ty} (hu : u.calm = true) : ∀ (l : List (Nat × Operand)) (i : Nat) {t0 t2 : St} {ys : List u.den}, buildElems E u t0 l i = some (ys, t2) →
    MemLe t0 t2 ∧ (∀ n, t2.slots n = t0.slots n) ∧ ∀ s : St, (∀ y ∈ l, s.opd E y.2 = t0.opd E y.2) → s.rows = t0.rows → s.boxes = t0.boxes → buildElems E u s l i = some (ys, t2.sl s.slots)
  | [], i, t0, t2, ys, h => by
    cases h
    exact ⟨MemLe.refl _, fun _ => rfl, fun s _ hr hb => by simp only [buildElems]; rw [← sl_of hr hb]⟩
  | (j, x) :: l, i, t0, t2, ys, h => by
    simp only [buildElems] at h
    cases hj : Nat.beq i j with
    | false => rw [hj] at h; cases h
    | true =>
      rw [hj, cond_true] at h
      split at h
      · rename_i y t1 hy
        split at h
        · rename_i zs t2' hz
          cases h
          obtain ⟨l1, g1⟩ := toDen_calm u hu hy
          obtain ⟨l2, m2, g2⟩ := buildElems_calm hu l (i + 1) hz
          have m1 : ∀ n, t1.slots n = t0.slots n := fun n => by
            have := g1 t0.slots
            rw [show t0.sl t0.slots = t0 from rfl, hy] at this
            have := (congrArg Prod.snd (Option.some.inj this))
            have := congrArg (fun s => St.slots s n) this
            exact this
          refine ⟨l1.trans l2, fun n => (m2 n).trans (m1 n), fun s hs hr hb => ?_⟩
          have hopd : ∀ z : Operand, t1.opd E z = t0.opd E z := fun z => by cases z <;> first | rfl | exact m1 _
          simp only [buildElems, hj, cond_true]
          rw [hs (j, x) (by simp)]
          have e1 : toDen u (t0.opd E x) s = some (y, t1.sl s.slots) := by rw [sl_of hr hb]; exact g1 _
          rw [e1]
          simp only
          have e2 := g2 (t1.sl s.slots) (fun z hz' => by
            have h1 : (t1.sl s.slots).opd E z.2 = s.opd E z.2 := by cases z.2 <;> rfl
            rw [h1, hs z (by simp [hz']), hopd]) rfl rfl
          rw [e2]
          rfl
        · cases h
      · cases h

theorem made_le {o : Oper} (hq : softMade E o.op = true) {t1 : St} (h : stepOp E t o = some (true, t1)) : Made E t o t1 := by
  unfold stepOp at h
  cases hop : o.op with
  | alloc ty =>
    simp only [hop] at h
    split at h
    · rename_i d u hd hu
      cases hf : fits u (zeroPV u) with
      | false => rw [hf] at h; cases h
      | true =>
        rw [hf, cond_true] at h
        cases hn : t.newBox (1024 * (d + 1)) (.cells u .live (zeroPV u)) with
        | none => rw [hn] at h; cases h
        | some t2 =>
          rw [hn] at h
          simp only [Option.map_some, okS] at h
          cases h
          obtain ⟨l1, g1⟩ := newBox_le hn
          have hsl : t2.slots = t.slots := by obtain ⟨_, e⟩ := newBox_some hn; rw [e]; rfl
          refine ⟨.addr (.box (1024 * (d + 1))) [], t2, by rw [hd]; rfl, fun n => by rw [hsl], l1, fun s hs hr hb => ?_⟩
          have e1 := g1 s.slots
          rw [← sl_of hr hb] at e1
          simp only [stepOp, hop, hd, hu, hf, cond_true, e1]
          rfl
    · cases h
  | box ty x =>
    simp only [hop] at h
    split at h
    · rename_i d u hd hu
      cases hf : fits u (t.opd E x) with
      | false => rw [hf] at h; cases h
      | true =>
        rw [hf, cond_true] at h
        cases hn : t.newBox (1024 * (d + 1)) (.cells u .live (t.opd E x)) with
        | none => rw [hn] at h; cases h
        | some t2 =>
          rw [hn] at h
          simp only [Option.map_some, okS] at h
          cases h
          obtain ⟨l1, g1⟩ := newBox_le hn
          have hsl : t2.slots = t.slots := by obtain ⟨_, e⟩ := newBox_some hn; rw [e]; rfl
          refine ⟨.addr (.box (1024 * (d + 1))) [], t2, by rw [hd]; rfl, fun n => by rw [hsl], l1, fun s hs hr hb => ?_⟩
          have e1 := g1 s.slots
          rw [← sl_of hr hb] at e1
          simp only [stepOp, hop, hd, hu]
          rw [hs x (by rw [hop]; simp [Op.operands])]
          simp only [hf, cond_true, e1]
          rfl
    · cases h
  | range ty x =>
    simp only [hop] at h
    split at h
    · rename_i d l hu hd hx
      cases hn : t.newBox (1024 * (d + 1)) (.iter l 0) with
      | none => rw [hn] at h; cases h
      | some t2 =>
        rw [hn] at h
        simp only [Option.map_some, okS] at h
        cases h
        obtain ⟨l1, g1⟩ := newBox_le hn
        have hsl : t2.slots = t.slots := by obtain ⟨_, e⟩ := newBox_some hn; rw [e]; rfl
        refine ⟨.addr (.box (1024 * (d + 1))) [], t2, by rw [hd]; rfl, fun n => by rw [hsl], l1, fun s hs hr hb => ?_⟩
        have e1 := g1 s.slots
        rw [← sl_of hr hb] at e1
        simp only [stepOp, hop, hd, hu]
        rw [hs x (by rw [hop]; simp [Op.operands]), hx]
        simp only [e1]
        rfl
    · cases h
  | convert src dst x =>
    simp only [hop] at h
    have put : ∀ {d : Nat} {v : PV}, o.dst = some d → t1 = t.put d v → (∀ s : St, s.opd E x = t.opd E x → s.rows = t.rows → s.boxes = t.boxes → stepOp E s o = some (true, s.put d v)) → Made E t o t1 := by
      intro d v hd e g
      refine ⟨v, t, by rw [hd]; exact e, fun _ => rfl, MemLe.refl t, fun s hs hr hb => ?_⟩
      rw [g s (hs x (by rw [hop]; simp [Op.operands])) hr hb, hd, ← sl_of hr hb]
      rfl
    split at h
    · rename_i d own e hd hs' hd'
      cases hc : convSl t d e (t.opd E x) with
      | none => rw [hc] at h; cases h
      | some t2 =>
        rw [hc] at h
        simp only [okS] at h
        cases h
        have hel : ∀ (s : St) (a : Ty), s.rows = t.rows → s.boxes = t.boxes → s.elems a (t.opd E x) = t.elems a (t.opd E x) := fun s a hr hb => by
          rw [sl_of hr hb, elems_sl]
        unfold convSl at hc
        split at hc
        · split at hc
          · rename_i xs hxs
            cases hc
            refine put hd rfl fun s h1 hr hb => ?_
            simp only [stepOp, hop, hd, hs', hd', convSl]
            rw [h1, hel s _ hr hb, hxs]
            rfl
          · cases hc
        · split at hc
          · rename_i xs hxs
            cases hc
            refine put hd rfl fun s h1 hr hb => ?_
            simp only [stepOp, hop, hd, hs', hd', convSl]
            rw [h1, hel s _ hr hb, hxs]
            rfl
          · cases hc
        · cases hc
    · rename_i d a u hno hd hs' hd'
      have unf : ∀ s : St, stepOp E s o = okC (convFits u (s.opd E x)) (convPV s d u (s.opd E x)) := by
        intro s
        simp only [stepOp, hop]
        split
        · rename_i d2 own e h1 h2 h3
          rw [hd] at h1; cases h1
          rw [hs'] at h2; cases h2
          rw [hd'] at h3; cases h3
          first | exact (hno _ _ _ hd hs' hd').elim | exact (hno _ _ _ rfl rfl rfl).elim | (exfalso; simp_all)
        · rename_i d2 a2 u2 _ h1 h2 h3
          rw [hd] at h1; cases h1
          rw [hd'] at h3; cases h3
          rfl
        · rename_i h1
          first | exact (h1 _ _ _ hd hs' hd').elim | (exfalso; simp_all)
      cases hc : convPV t d u (t.opd E x) with
      | none => rw [hc] at h; cases h
      | some t2 =>
        rw [hc] at h
        obtain ⟨hf, h⟩ := okC_some h
        cases h
        have row : ∀ {k : Ty} {xs : List k.den}, ((t.newRow (1024 * (d + 1)) k xs).map (·.put d (.row (1024 * (d + 1))))) = some t1 →
            (∀ s : St, s.opd E x = t.opd E x → stepOp E s o = okS ((s.newRow (1024 * (d + 1)) k xs).map (·.put d (.row (1024 * (d + 1)))))) → Made E t o t1 := by
          intro k xs hm g
          cases hn : t.newRow (1024 * (d + 1)) k xs with
          | none => rw [hn] at hm; cases hm
          | some t3 =>
            rw [hn] at hm
            cases hm
            obtain ⟨l1, g1⟩ := newRow_le hn
            have hsl : t3.slots = t.slots := by obtain ⟨_, e⟩ := newRow_some hn; rw [e]; rfl
            refine ⟨.row (1024 * (d + 1)), t3, by rw [hd]; rfl, fun n => by rw [hsl], l1, fun s hs hr hb => ?_⟩
            have e1 := g1 s.slots
            rw [← sl_of hr hb] at e1
            rw [g s (hs x (by rw [hop]; simp [Op.operands])), e1, hd]
            rfl
        have hc0 := hc
        unfold convPV at hc
        split at hc
        · rename_i k z hz
          split at hc
          · cases hc
            exact put hd rfl fun s h1 hr hb => by rw [unf, h1, hz]; rfl
          · cases hc
            exact put hd rfl fun s h1 hr hb => by rw [unf, h1, hz]; rfl
          · cases hc
        · rename_i z hz
          split at hc
          · cases hc
            exact put hd rfl fun s h1 hr hb => by rw [unf, h1, hz]; rfl
          · exact row hc fun s h1 => by rw [unf, h1, hz]; rfl
          · rw [hz] at hf
            exact row hc fun s h1 => by
              rw [unf, h1, hz, hf]; rfl
          · cases hc
        · cases hc
    · cases h
  | buildSlice ty len parts =>
    simp only [hop] at h
    split at h
    · rename_i d u hd hu
      have hu' : (E.elem ty).bind E.ty = some u := hu
      have hcalm : u.calm = true := by
        simp only [hop, softMade, hu'] at hq
        exact hq
      cases hf : (Nat.beq len parts.size && Nat.ble (len * u.size) 16777216) with
      | false => rw [hf] at h; cases h
      | true =>
        rw [hf, cond_true] at h
        split at h
        · rename_i ys t2 hb2
          cases hn : t2.newRow (1024 * (d + 1)) u ys with
          | none => rw [hn] at h; cases h
          | some t3 =>
            rw [hn] at h
            simp only [Option.map_some, okS] at h
            cases h
            obtain ⟨l0, m0, g0⟩ := buildElems_calm hcalm parts.toList 0 hb2
            obtain ⟨l1, g1⟩ := newRow_le hn
            have hsl : t3.slots = t2.slots := by obtain ⟨_, e⟩ := newRow_some hn; rw [e]; rfl
            refine ⟨.row (1024 * (d + 1)), t3, by rw [hd]; rfl, fun n => by rw [hsl]; exact m0 n, l0.trans l1, fun s hs hr hb => ?_⟩
            have e0 := g0 s (fun y hy => hs y.2 (by rw [hop]; simp only [Op.operands, List.mem_map]; exact ⟨y, hy, rfl⟩)) hr hb
            have e1 := g1 s.slots
            simp only [stepOp, hop, hd, hu', hf, cond_true, e0, e1]
            rfl
        · cases h
    · cases h
  | _ => simp [hop, softMade] at hq
theorem toDen_sl (t : Ty) : ∀ {p : PV} {s s' : St} {x : t.den}, toDen t p s = some (x, s') → ∀ σ, toDen t p (s.sl σ) = some (x, s'.sl σ) := by
  have leaf : ∀ {t : Ty} {p : PV} {s s' : St} {x : t.den}, (∀ s : St, toDen t p s = (castVal t p).map (fun x => (x, s))) → toDen t p s = some (x, s') → ∀ σ, toDen t p (s.sl σ) = some (x, s'.sl σ) := by
    intro t p s s' x h1 h σ
    rw [h1] at h
    cases hc : castVal t p with
    | none => rw [hc] at h; cases h
    | some y =>
      rw [hc] at h
      cases h
      rw [h1, hc]; rfl
  induction t with
  | pair a b iha ihb =>
    intro p s s' x h σ
    simp only [toDen] at h ⊢
    split at h
    · rename_i y hy; cases h; rfl
    · rename_i hy
      split at h
      · rename_i y s1 h1
        split at h
        · rename_i z s2 h2
          cases h
          simp only [iha h1 σ, ihb h2 σ]
        · cases h
      · cases h
  | st a ih =>
    intro p s s' x h σ
    simp only [toDen] at h ⊢
    split at h
    · rename_i y hy; cases h; rfl
    · rename_i hy
      exact ih (p := p.inn) h σ
  | sl own a ih =>
    intro p s s' x h σ
    cases own with
    | true =>
      cases p with
      | row r =>
        simp only [toDen] at h ⊢
        show (match s.rows r with
          | .mk t .live xs => match Ty.cast (.sl false t) (.sl false a) xs with
            | some ys => some (ys, (s.sl σ).setRow r (.mk t .dead xs))
            | none => none
          | _ => none) = _
        split at h
        · rename_i u xs hr
          split at h
          · rename_i ys hy
            cases h
            rw [hr]
            simp only [hy]
            rfl
          · cases h
        · cases h
      | part r lo hi =>
        cases lo with
        | succ lo => exact leaf (fun s => by simp only [toDen]; cases castVal _ _ <;> rfl) h σ
        | zero =>
          simp only [toDen] at h ⊢
          show (match s.rows r with
            | .mk t .live xs => bif t.pure then match Ty.cast (.sl false t) (.sl false a) (xs.take hi) with
              | some ys => some (ys, (s.sl σ).setRow r (.mk t .dead xs))
              | none => none else none
            | _ => none) = _
          split at h
          · rename_i u xs hr
            cases hu : u.pure with
            | false => rw [hu] at h; cases h
            | true =>
              rw [hu, cond_true] at h
              split at h
              · rename_i ys hy
                cases h
                rw [hr]
                simp only [hu, cond_true, hy]
                rfl
              · cases h
          · cases h
      | nils => simp only [toDen] at h ⊢; cases h; rfl
      | _ => exact leaf (fun s => by simp only [toDen]; cases castVal _ _ <;> rfl) h σ
    | false =>
      simp only [toDen] at h ⊢
      split at h
      · rename_i xs hx
        cases h
        rw [elems_sl, hx, freeze_sl]
      · cases h
  | ptr a ih =>
    intro p s s' x h σ
    cases p with
    | addr b path =>
      cases b with
      | box b =>
        cases path with
        | nil =>
          simp only [toDen] at h ⊢
          show (match s.boxes b with
            | .cells T .live c => bif T.same a then toDen a c ((s.sl σ).setBox b (.cells T .dead c)) else none
            | _ => none) = _
          split at h
          · rename_i T c hb
            cases hs : T.same a with
            | false => rw [hs] at h; cases h
            | true =>
              rw [hs, cond_true] at h
              rw [hb]
              simp only [hs, cond_true]
              exact ih h σ
          · cases h
        | cons _ _ => exact leaf (fun s => by simp only [toDen]; cases castVal _ _ <;> rfl) h σ
      | _ => exact leaf (fun s => by simp only [toDen]; cases castVal _ _ <;> rfl) h σ
    | _ => exact leaf (fun s => by simp only [toDen]; cases castVal _ _ <;> rfl) h σ
  | optr a ih =>
    intro p s s' x h σ
    cases p with
    | nilp => simp only [toDen] at h ⊢; cases h; rfl
    | addr b path =>
      cases b with
      | box b =>
        cases path with
        | nil =>
          simp only [toDen] at h ⊢
          show (match s.boxes b with
            | .cells T .live c => bif T.same a then match toDen a c ((s.sl σ).setBox b (.cells T .dead c)) with
              | some (x, s) => some (some x, s)
              | none => none else none
            | _ => none) = _
          split at h
          · rename_i T c hb
            cases hs : T.same a with
            | false => rw [hs] at h; cases h
            | true =>
              rw [hs, cond_true] at h
              rw [hb]
              simp only [hs, cond_true]
              split at h
              · rename_i y s1 hy
                cases h
                rw [show (s.sl σ).setBox b (.cells T .dead c) = (s.setBox b (.cells T .dead c)).sl σ from rfl, ih hy σ]
              · cases h
          · cases h
        | cons _ _ => exact leaf (fun s => by simp only [toDen]; cases castVal _ _ <;> rfl) h σ
      | _ => exact leaf (fun s => by simp only [toDen]; cases castVal _ _ <;> rfl) h σ
    | _ => exact leaf (fun s => by simp only [toDen]; cases castVal _ _ <;> rfl) h σ
  | rptr a _ => intro p s s' x h σ; exact (toDen_calm (.rptr a) rfl h).2 σ
  | clo f n a ih =>
    intro p s s' x h σ
    cases p with
    | cl g k q =>
      simp only [toDen] at h ⊢
      split at h
      · exact ih h σ
      · cases h
    | _ => exact leaf (fun s => by simp only [toDen]; cases castVal _ _ <;> rfl) h σ
  | nilp =>
    intro p s s' x h σ
    cases p with
    | nilp => cases h; rfl
    | _ => exact leaf (fun s => by simp only [toDen]; cases castVal _ _ <;> rfl) h σ
  | _ => intro p s s' x h σ; exact leaf (fun s => by simp only [toDen]; cases castVal _ _ <;> rfl) h σ

theorem toDen_slots {t : Ty} {p : PV} {s s' : St} {x : t.den} (h : toDen t p s = some (x, s')) : s'.slots = s.slots := by
  have := toDen_sl t h s.slots
  rw [show s.sl s.slots = s from rfl, h] at this
  have e := congrArg Prod.snd (Option.some.inj this)
  exact (congrArg St.slots e).trans rfl

def Firm (E : Env) (t : St) (o : Oper) (t1 : St) : Prop := ∃ (v : PV) (u : St), t1 = u.putO o.dst v ∧ (∀ n, u.slots n = t.slots n) ∧
  ∀ s, (∀ x ∈ o.op.operands.toList, s.opd E x = t.opd E x) → s.rows = t.rows → s.boxes = t.boxes → stepOp E s o = some (true, (u.sl s.slots).putO o.dst v)

theorem storePV_sl {s s' : St} {a v : PV} (h : storePV s a v = some s') : s'.slots = s.slots ∧ ∀ σ, storePV (s.sl σ) a v = some (s'.sl σ) := by
  cases a with
  | addr b path =>
    cases b with
    | box b =>
      simp only [storePV] at h ⊢
      split at h
      · rename_i T c hb
        cases hf : fits (T.at path) v with
        | false => rw [hf] at h; cases h
        | true =>
          rw [hf, cond_true] at h
          split at h
          · rename_i c' hc
            cases h
            refine ⟨rfl, fun σ => ?_⟩
            show (match s.boxes b with
              | .cells T .live c => bif fits (T.at path) v then match c.set path v with
                | some c' => some ((s.sl σ).setBox b (.cells T .live c'))
                | none => none else none
              | _ => none) = _
            rw [hb]
            simp only [hf, cond_true, hc]
            rfl
          · cases h
      · cases h
    | row r i =>
      simp only [storePV] at h ⊢
      split at h
      · rename_i t xs hr
        cases hf : (t.pure && fits (t.at path) v) with
        | false => rw [hf] at h; cases h
        | true =>
          rw [hf, cond_true] at h
          split at h
          · rename_i q hq
            split at h
            · rename_i y s1 hy
              split at h
              · rename_i t2 xs2 hr2
                cases h
                refine ⟨(toDen_slots hy : s1.slots = s.slots), fun σ => ?_⟩
                show (match s.rows r with
                  | .mk t .live xs => bif t.pure && fits (t.at path) v then match PV.set (.val t (xs.getD i t.zero)) path v with
                    | some q => match toDen t q (s.sl σ) with
                      | some (y, s) => match s.rows r with
                        | .mk _ .live _ => some (s.setRow r (.mk t .live (xs.set i y)))
                        | _ => none
                      | none => none
                    | none => none else none
                  | _ => none) = _
                rw [hr]
                simp only [hf, cond_true, hq, toDen_sl t hy σ]
                show (match s1.rows r with
                  | .mk _ .live _ => some ((s1.sl σ).setRow r (.mk t .live (xs.set i y)))
                  | _ => none) = _
                rw [hr2]
                rfl
              · cases h
            · cases h
          · cases h
      · cases h
    | fbox u x => cases h
  | _ => cases h

theorem tail_sl (s : St) (σ : Nat → PV) (t : Ty) (p : PV) : (s.sl σ).tail t p = s.tail t p := by
  cases p with
  | val u x => cases u <;> rfl
  | _ => rfl

theorem appendStep_sl {s s1 : St} {d : Nat} {t : Ty} {p q : PV} (h : appendStep s d t p q = some (true, s1)) : ∃ u : St, s1 = u.put d (.row (1024 * (d + 1))) ∧ u.slots = s.slots ∧ ∀ σ, appendStep (s.sl σ) d t p q = some (true, (u.sl σ).put d (.row (1024 * (d + 1)))) := by
  have fin : ∀ {c : Bool} {s2 : St} {s0 : St} {k : Ty} {zs : List k.den}, s0.slots = s.slots → s0.newRow (1024 * (d + 1)) k zs = some s2 → s2.slots = s.slots ∧ ∀ σ, (s0.sl σ).newRow (1024 * (d + 1)) k zs = some (s2.sl σ) := by
    intro c s2 s0 k zs h0 hn
    refine ⟨?_, (newRow_le hn).2⟩
    obtain ⟨_, rfl⟩ := newRow_some hn
    exact h0
  cases p with
  | row r =>
    simp only [appendStep] at h ⊢
    split at h
    · rename_i u xs hr
      split at h
      · rename_i ys zs hy hz
        split at h
        · rename_i s2 hn
          simp only [Option.some.injEq, Prod.mk.injEq] at h
          obtain ⟨hc, rfl⟩ := h
          obtain ⟨f1, f2⟩ := fin (c := true) (s0 := s.setRow r (.mk u .dead xs)) rfl hn
          refine ⟨s2, rfl, f1, fun σ => ?_⟩
          show (match s.rows r with
            | .mk u .live xs => match Ty.cast (.sl false u) (.sl false t) xs, (s.sl σ).tail t q with
              | some ys, some zs => match ((s.setRow r (.mk u .dead xs)).sl σ).newRow (1024 * (d + 1)) t (ys ++ zs) with
                | some s => some (decide (ys.length + zs.length ≤ lim), s.put d (.row (1024 * (d + 1))))
                | none => none
              | _, _ => none
            | _ => none) = _
          rw [hr]
          simp only [hy, tail_sl, hz, f2 σ, hc]
        · cases h
      · cases h
    · cases h
  | nils =>
    simp only [appendStep] at h ⊢
    split at h
    · rename_i ys hy
      split at h
      · rename_i s2 hn
        simp only [Option.some.injEq, Prod.mk.injEq] at h
        obtain ⟨hc, rfl⟩ := h
        obtain ⟨f1, f2⟩ := fin (c := true) rfl hn
        refine ⟨s2, rfl, f1, fun σ => ?_⟩
        simp only [tail_sl, hy, f2 σ, hc]
      · cases h
    · cases h
  | part r a b =>
    simp only [appendStep] at h ⊢
    cases hab : Nat.beq a 0 && t.pure with
    | false => rw [hab] at h; cases h
    | true =>
    rw [hab, cond_true] at h
    split at h
    · rename_i u xs hr
      split at h
      · rename_i ys zs hy hz
        split at h
        · rename_i s2 hn
          simp only [Option.some.injEq, Prod.mk.injEq] at h
          obtain ⟨hc, rfl⟩ := h
          obtain ⟨f1, f2⟩ := fin (c := true) (s0 := s.setRow r (.mk u .dead xs)) rfl hn
          refine ⟨s2, rfl, f1, fun σ => ?_⟩
          rw [cond_true]
          show (match s.rows r with
            | .mk u .live xs => match Ty.cast (.sl false u) (.sl false t) xs, (s.sl σ).tail t q with
              | some ys, some zs => match ((s.setRow r (.mk u .dead xs)).sl σ).newRow (1024 * (d + 1)) t (List.take b ys ++ zs) with
                | some s => some (decide ((List.take b ys).length + zs.length ≤ lim), s.put d (.row (1024 * (d + 1))))
                | none => none
              | _, _ => none
            | _ => none) = _
          rw [hr]
          simp only [hy, tail_sl, hz, f2 σ, hc]
        · cases h
      · cases h
    · cases h
  | _ => cases h

theorem firm_le {o : Oper} (hq : firmOp o.op = true) {t1 : St} (h : stepOp E t o = some (true, t1)) : Firm E t o t1 := by
  unfold stepOp at h
  cases hop : o.op with
  | store ty a x =>
    simp only [hop] at h
    split at h
    · rename_i u hu
      cases hf : fits u (t.opd E x) with
      | false => rw [hf] at h; cases h
      | true =>
        rw [hf, cond_true] at h
        cases hs : storePV t (t.opd E a) (t.opd E x) with
        | none => rw [hs] at h; cases h
        | some t2 =>
          rw [hs] at h
          simp only [Option.map_some, okS] at h
          cases h
          obtain ⟨e1, g1⟩ := storePV_sl hs
          refine ⟨.undef, t2, rfl, fun n => by rw [e1], fun s hsx hr hb => ?_⟩
          have e2 := g1 s.slots
          rw [← sl_of hr hb] at e2
          simp only [stepOp, hop, hu]
          rw [hsx a (by rw [hop]; simp [Op.operands]), hsx x (by rw [hop]; simp [Op.operands])]
          simp only [hf, cond_true, e2]
          rfl
    · cases h
  | call c =>
    obtain ⟨cal, cargs, cty⟩ := c
    cases cal with
    | value f => rw [hop] at hq; simp [firmOp] at hq
    | invoke r m => rw [hop] at hq; simp [firmOp] at hq
    | builtin b =>
      cases b with
      | append =>
        simp only [hop, builtinStep] at h
        split at h
        case h_2 x y hb hargs =>
          split at h
          · rename_i d k hd hk
            have hmem : ∀ q ∈ [x, y], q ∈ o.op.operands.toList := fun q hq => by
              rw [hop]
              simp only [Op.operands, Call.operands]
              simpa [hargs] using hq
            have go : ∀ {ty : Ty}, (match ty with | .sl _ _ => true | .str => true | _ => false) = true → ((cty[1]?).bind E.ty) = some ty → appendStep t d k (t.opd E x) (t.opd E y) = some (true, t1) → Firm E t o t1 := by
              intro ty hty ht h
              obtain ⟨u, e1, e2, g1⟩ := appendStep_sl h
              refine ⟨.row (1024 * (d + 1)), u, by rw [hd]; exact e1, fun n => by rw [e2], fun s hsx hr hb => ?_⟩
              have e3 := g1 s.slots
              rw [← sl_of hr hb] at e3
              simp only [stepOp, hop, builtinStep, hargs, hd, hk, ht]
              rw [hsx x (hmem x (by simp)), hsx y (hmem y (by simp))]
              cases ty <;> first | exact e3 | cases hty
            split at h
            · rename_i ht; exact go rfl ht h
            · rename_i ht; exact go rfl ht h
            · cases h
          · cases h
        all_goals first | (rename_i hb _; cases hb) | cases h
      | _ => rw [hop] at hq; simp [firmOp] at hq
  | _ => rw [hop] at hq; simp [firmOp] at hq
end
end Go.Abs
namespace Go.Abs
set_option autoImplicit false
section
variable {w0 : World} {X0 : Ent} {a : Act} {w : World} {fz : Nat → Prop} {m : Maps} {s s' : St} {E : Env} {o : Oper} {R : Type}

def ExitOK (w0 : World) (X0 : Ent) (n : Fr) (κ : Ex → St → Option R) (r : R) : Exit → Act → World → Prop
  | .normal, a, w => n.ok a ∧ a.defers = [] ∧ ∃ fz m s, Rel w0 X0 fz m [] s a w ∧ κ .normal s = some r
  | .exit id, a, w => n.ok a ∧ a.defers = [] ∧ ∃ fz m s, Rel w0 X0 fz m [] s a w ∧ κ (.exit id) s = some r
  | .ret, a, w => n.ok a ∧ a.defers = [] ∧ ∃ fz m s, Rel w0 X0 fz m [] s a w ∧ κ .ret s = some r
  | .panic chain, a, w => a.defers = [] ∧ ∃ i t x s, PanOK w0 X0 i t x chain w ∧ κ (.pan i t x) s = some r
  | _, _, _ => False

def dstsOk (ops : Array Oper) (n : Fr) : Prop := ∀ o ∈ ops.toList, ∀ k, o.dst = some k → n.keep k = false ∧ k < n.size

theorem yielded_tnil {ops : Array Oper} {g d : Nat} (h : Rel w0 X0 fz m [] s a w) (hd : (ops[g]?).bind (·.dst) = some d) (hb : s.slots d = .tnil) : yielded ops a.tmps g = none := by
  have hv := h.slots d
  rw [hb] at hv
  have hv : a.tmps.getD d undef = .tuple #[] := hv
  unfold yielded
  rw [hd]
  simp only [Option.bind_some]
  rw [Array.getD_eq_getD_getElem?] at hv
  cases e : a.tmps[d]? with
  | none => rfl
  | some v => rw [e] at hv; have hv : v = .tuple #[] := hv; rw [hv]

theorem opsC_spec (hE : EnvOK E) {call : CallT E} (hC : ∀ f x y, call f x = some y → CallOK E f x y) (hX : ∀ b ∈ X0.X, ¬ X0.fz b) (hz : ∀ b, X0.fz b → b < w0.heap.size) (hg0 : Glob E w0 X0.fz) {ops : Array Oper} {n : Fr} (hn : dstsOk ops n) {κ : Ex → St → Option R} {r : R} :
    ∀ (l : List Oper) (i : Nat) {fz : Nat → Prop} {m : Maps} {s : St} {a : Act} {w : World}, ops.toList.drop i = l → n.ok a → a.defers = [] → Rel w0 X0 fz m [] s a w → opsC E call ops l s κ = some r →
      wpOps E.P ops (ExitOK w0 X0 n κ r) (List.range' i l.length) a w
  | [], i, fz, m, s, a, w, hl, hsz, hdf, h, hk => ⟨hsz, hdf, fz, m, s, h, hk⟩
  | o :: l, i, fz, m, s, a, w, hl, hsz, hdf, h, hk => by
    have hlt : i < ops.toList.length := by
      rcases Nat.lt_or_ge i ops.toList.length with h | h
      · exact h
      · rw [List.drop_eq_nil_of_le h] at hl; cases hl
    rw [List.drop_eq_getElem_cons hlt] at hl
    injection hl with ho hl
    have hget : ops[i]? = some o := by rw [← Array.getElem?_toList, List.getElem?_eq_getElem hlt, ho]
    have hmem : o ∈ ops.toList := ho ▸ List.getElem_mem hlt
    have hd : ∀ k, o.dst = some k → k < a.tmps.size := fun k hk => by rw [hsz.1]; exact (hn o hmem k hk).2
    have next : ∀ {a' : Act} {w' : World}, Onward w0 X0 n a (fun s => opsC E call ops l s κ) r a' w' → wpOps E.P ops (ExitOK w0 X0 n κ r) (List.range' (i + 1) l.length) a' w' := by
      rintro a' w' ⟨h1, h2, fz', m', s', h3, h4⟩
      exact opsC_spec hE hC hX hz hg0 hn l (i + 1) hl (h1 hsz) (h2.trans hdf) h3 h4
    have run : ∀ {s1 : St}, Rel w0 X0 fz m [] s1 a w → opC E call s1 o κ (fun s => opsC E call ops l s κ) = some r → o.wp E.P a w (wpOps E.P ops (ExitOK w0 X0 n κ r) (List.range' (i + 1) l.length)) (ExitOK w0 X0 n κ r) := by
      intro s1 h1 hk
      refine Oper.wp_mono (fun a' w' h => next h) (opC_spec (fun k hk => (hn o hmem k hk).1) hE hC h1 (h1.glob hX hz hg0) hd ?_ hk)
      intro chain w' j t x s' hp hk
      exact ⟨hdf, j, t, x, s', hp, hk⟩
    rw [List.length_cons, List.range'_succ]
    simp only [wpOps, hget]
    unfold opsC at hk
    split at hk
    · rename_i hgd
      have hw : Region.wanted o (yielded ops a.tmps) = true := by simp [Region.wanted, hgd]
      rw [if_pos hw]
      exact .inl (run h hk)
    · rename_i g want hgd
      split at hk
      · cases hk
      · rename_i d hgdst
        have hy : ∀ b, s.slots d = .val .bool b → yielded ops a.tmps g = some b := by
          intro b hb
          have hv := h.slots d
          rw [hb] at hv
          have hv := hv.bool
          unfold yielded
          rw [hgdst]
          simp only [Option.bind_some]
          have : a.tmps[d]? = some (.bool b) := by
            rw [Array.getD_eq_getD_getElem?] at hv
            cases e : a.tmps[d]? with
            | none => rw [e] at hv; cases hv
            | some v => rw [e] at hv; rw [← hv]; rfl
          rw [this]
        have same : ∀ b, s.slots d = .val .bool b → s.put d (.val .bool b) = s := by
          intro b hb
          have : (fun n => bif Nat.beq n d then PV.val .bool b else s.slots n) = s.slots := by
            funext n
            rw [cond_beq]
            by_cases e : n = d
            · subst e; rw [if_pos rfl, hb]
            · rw [if_neg e]
          unfold St.put
          rw [this]
        have skip : ∀ {s1 : St}, Rel w0 X0 fz m [] s1 a w → opsC E call ops l (s1.putO o.dst .tnil) κ = some r → wpOps E.P ops (ExitOK w0 X0 n κ r) (List.range' (i + 1) l.length) (a.put o.dst undef) w := by
          intro s1 h1 hk
          obtain ⟨q1, q2⟩ := put_ok (n := n) a o.dst undef (fun k hk => (hn o hmem k hk).1)
          exact opsC_spec hE hC hX hz hg0 hn l (i + 1) hl (q1 hsz) (q2.trans hdf) (h1.skipO hd) hk
        split at hk
        · rename_i b hb
          have hyb := hy b hb
          have hsb := same b hb
          cases b <;> cases want <;> simp only [hsb] at hk
          · have hw : Region.wanted o (yielded ops a.tmps) = true := by simp [Region.wanted, hgd, hyb]
            rw [if_pos hw]
            exact .inl (run h hk)
          · have hw : ¬ (Region.wanted o (yielded ops a.tmps) = true) := by simp [Region.wanted, hgd, hyb]
            rw [if_neg hw]
            exact skip h hk
          · have hw : ¬ (Region.wanted o (yielded ops a.tmps) = true) := by simp [Region.wanted, hgd, hyb]
            rw [if_neg hw]
            exact skip h hk
          · have hw : Region.wanted o (yielded ops a.tmps) = true := by simp [Region.wanted, hgd, hyb]
            rw [if_pos hw]
            exact .inl (run h hk)
        · rename_i hb
          have hyn := yielded_tnil h hgdst hb
          have hw : ¬ (Region.wanted o (yielded ops a.tmps) = true) := by simp [Region.wanted, hgd, hyn]
          rw [if_neg hw]
          exact skip h hk
        · cases hk
end
end Go.Abs
