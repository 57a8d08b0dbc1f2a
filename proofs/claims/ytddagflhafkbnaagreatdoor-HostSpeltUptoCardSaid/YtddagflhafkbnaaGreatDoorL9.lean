/- Part L9 of the proof: see the last text of the claim. No condition of its own. -/
import Derived.Test.YtddagflhafkbnaaGreatDoorL8
import Derived.Test.YtddagflhafkbnaaGreatDoorQ3
set_option linter.all false
namespace Go.Abs
set_option autoImplicit false

def D : List UInt8 → List Int
  | a :: b :: c :: l => if byteI a = 37 ∧ 0 ≤ nib (byteI b) ∧ 0 ≤ nib (byteI c) then (nib (byteI b) * 16 + nib (byteI c)) :: D l else byteI a :: D (b :: c :: l)
  | [a, b] => [byteI a, byteI b]
  | [a] => [byteI a]
  | [] => []
theorem D3 (a b c : UInt8) (l : List UInt8) : D (a :: b :: c :: l) = if byteI a = 37 ∧ 0 ≤ nib (byteI b) ∧ 0 ≤ nib (byteI c) then (nib (byteI b) * 16 + nib (byteI c)) :: D l else byteI a :: D (b :: c :: l) := by rw [D]
theorem D_step (a : UInt8) (h : byteI a ≠ 37) (X : List UInt8) : D (a :: X) = byteI a :: D X := by
  match X with
  | [] => rfl
  | [b] => rfl
  | b :: c :: l => rw [D3, if_neg (fun e => h e.1)]
theorem D_app : ∀ (P X : List UInt8), (∀ b ∈ P, byteI b ≠ 37) → D (P ++ X) = P.map byteI ++ D X
  | [], X, _ => rfl
  | a :: P, X, h => by rw [List.cons_append, D_step a (h a (by simp)), D_app P X (fun b hb => h b (by simp [hb]))]; rfl
theorem D_plain (P : List UInt8) (h : ∀ b ∈ P, byteI b ≠ 37) : D P = P.map byteI := by
  have := D_app P [] h
  rw [List.append_nil] at this
  rw [this]; exact List.append_nil _
theorem D_cut (c : UInt8) (hn : nib (byteI c) < 0) (h37 : byteI c ≠ 37) : ∀ (P Q : List UInt8), D (P ++ c :: Q) = D P ++ byteI c :: D Q
  | [], Q => D_step c h37 Q
  | [a], Q => by
    show D (a :: c :: Q) = byteI a :: (byteI c :: D Q)
    cases Q with
    | nil => rfl
    | cons q l => rw [D3, if_neg (fun e => by omega), D_step c h37]
  | [a, b], Q => by
    show D (a :: b :: c :: Q) = byteI a :: (byteI b :: (byteI c :: D Q))
    rw [D3, if_neg (fun e => by omega)]
    cases Q with
    | nil => rfl
    | cons q l => rw [D3, if_neg (fun e => by omega), D_step c h37]
  | a :: b :: d :: P, Q => by
    show D (a :: b :: d :: (P ++ c :: Q)) = D (a :: b :: d :: P) ++ byteI c :: D Q
    rw [D3, D3]
    by_cases e : byteI a = 37 ∧ 0 ≤ nib (byteI b) ∧ 0 ≤ nib (byteI d)
    · rw [if_pos e, if_pos e, D_cut c hn h37 P Q]; rfl
    · have ih := D_cut c hn h37 (b :: d :: P) Q
      rw [if_neg e, if_neg e, List.cons_append, ← ih]; rfl
theorem pdec_D (s : List UInt8) : ∀ (n k : Nat), s.length ≤ k + n → k ≤ s.length → pdec s n k = D (s.drop k)
  | 0, k, hn, hk => by rw [List.drop_eq_nil_of_le (by omega)]; rfl
  | n + 1, k, hn, hk => by
    unfold pdec
    by_cases c : k < s.length
    · rw [if_pos c]
      have e0 := bat_drop s k 0
      have e1 := bat_drop s k 1
      have e2 := bat_drop s k 2
      have d1 := List.drop_drop (i := 1) (j := k) (l := s)
      have d3 := List.drop_drop (i := 3) (j := k) (l := s)
      have hlen : (s.drop k).length = s.length - k := List.length_drop
      have ht : trip s k = if k + 2 < s.length ∧ bat s k = 37 ∧ 0 ≤ nib (bat s (k + 1)) ∧ 0 ≤ nib (bat s (k + 2)) then nib (bat s (k + 1)) * 16 + nib (bat s (k + 2)) else -1 := rfl
      rw [Nat.add_zero] at e0
      rw [← e0, ← e1, ← e2] at ht
      have ih1 := pdec_D s n (k + 1) (by omega) (by omega)
      rw [← e0]
      generalize s.drop k = t at e0 e1 e2 d1 d3 hlen ht ⊢
      match t, hlen with
      | [], hlen => simp at hlen; omega
      | [a], hlen =>
        have hk2 : s.length = k + 1 := by simp at hlen; omega
        have ht : trip s k = -1 := by rw [ht, if_neg (show ¬ (k + 2 < s.length ∧ _) from fun e => by have := e.1; omega)]
        rw [ht, if_neg (by omega), ih1, ← d1]; rfl
      | [a, b], hlen =>
        have hk2 : s.length = k + 2 := by simp at hlen; omega
        have ht : trip s k = -1 := by rw [ht, if_neg (show ¬ (k + 2 < s.length ∧ _) from fun e => by have := e.1; omega)]
        rw [ht, if_neg (by omega), ih1, ← d1]; rfl
      | a :: b :: q :: l, hlen =>
        have hk2 : k + 2 < s.length := by simp at hlen; omega
        have b0 : bat (a :: b :: q :: l) 0 = byteI a := rfl
        have b1 : bat (a :: b :: q :: l) 1 = byteI b := rfl
        have b2 : bat (a :: b :: q :: l) 2 = byteI q := rfl
        rw [b0, b1, b2] at ht
        rw [b0, D3]
        by_cases e : byteI a = 37 ∧ 0 ≤ nib (byteI b) ∧ 0 ≤ nib (byteI q)
        · rw [if_pos (⟨hk2, e⟩ : k + 2 < s.length ∧ byteI a = 37 ∧ 0 ≤ nib (byteI b) ∧ 0 ≤ nib (byteI q))] at ht
          rw [ht, if_pos (by omega), if_pos e, pdec_D s n (k + 3) (by omega) (by omega), ← d3]; rfl
        · rw [if_neg (fun x : k + 2 < s.length ∧ byteI a = 37 ∧ 0 ≤ nib (byteI b) ∧ 0 ≤ nib (byteI q) => e x.2)] at ht
          rw [ht, if_neg (by omega), if_neg e, ih1, ← d1]; rfl
    · rw [if_neg c, List.drop_eq_nil_of_le (by omega)]; rfl
theorem decText_D (s : List UInt8) : decText s = webFix (strOf (D s)) := by
  unfold decText
  rw [pdec_D s s.length 0 (by omega) (by omega), List.drop_zero]
theorem D_len : ∀ s : List UInt8, (D s).length ≤ s.length
  | [] => by simp [D]
  | [a] => by simp [D]
  | [a, b] => by simp [D]
  | a :: b :: c :: l => by
    have h1 := D_len l
    have h2 := D_len (b :: c :: l)
    rw [D3]
    split
    · simp only [List.length_cons]; omega
    · simp only [List.length_cons] at h2 ⊢; omega

theorem webW_dropK (s : List UInt8) (k : Nat) (hk : k ≤ s.length) : wwd (s.drop k) 0 = wwd s k := by
  unfold wwd wd
  rw [runeAt_drop s k hk, webW_drop s k hk]
theorem wpcs_fuel (s : List UInt8) : ∀ (n m k : Nat), s.length ≤ k + n → s.length ≤ k + m → wpcs s n k = wpcs s m k
  | 0, 0, k, _, _ => rfl
  | 0, m + 1, k, h, _ => by rw [wpcs, wpcs, if_neg (by omega)]
  | n + 1, 0, k, _, h => by rw [wpcs, wpcs, if_neg (by omega)]
  | n + 1, m + 1, k, h1, h2 => by
    rw [wpcs, wpcs]
    by_cases c : k < s.length
    · have hw := wwd_bound s k c
      rw [if_pos c, if_pos c, wpcs_fuel s n m (k + wwd s k) (by omega) (by omega)]
    · rw [if_neg c, if_neg c]
theorem wpcs_shift (s : List UInt8) (d : Nat) (hd : d ≤ s.length) : ∀ (n k : Nat), k ≤ (s.drop d).length → (wpcs (s.drop d) n k).map (·.2.1) = (wpcs s n (d + k)).map (·.2.1)
  | 0, k, _ => rfl
  | n + 1, k, hk => by
    have hl : (s.drop d).length = s.length - d := List.length_drop
    have e1 : runeAt (s.drop d) k = runeAt s (d + k) := by
      rw [← runeAt_drop (s.drop d) k hk, List.drop_drop, runeAt_drop s (d + k) (by omega)]
    have e2 : wwd (s.drop d) k = wwd s (d + k) := by
      rw [← webW_dropK (s.drop d) k hk, List.drop_drop, webW_dropK s (d + k) (by omega)]
    rw [wpcs, wpcs, e1, e2]
    by_cases c : d + k < s.length
    · have hw := wwd_bound s (d + k) c
      rw [if_pos (by omega), if_pos c, List.map_cons, List.map_cons, wpcs_shift s d hd n (k + wwd s (d + k)) (by omega), Nat.add_assoc]
    · rw [if_neg (by omega), if_neg c]
theorem web_step (s : List UInt8) (h : s ≠ []) : webRunes s = (runeAt s 0).1 :: webRunes (s.drop (wwd s 0)) := by
  have hp : 0 < s.length := List.length_pos_iff.2 h
  have hw := wwd_bound s 0 hp
  have hl : (s.drop (wwd s 0)).length = s.length - wwd s 0 := List.length_drop
  unfold webRunes webOf
  rw [wpcs_fuel s s.length ((s.length - 1) + 1) 0 (by omega) (by omega), wpcs, if_pos hp, List.map_cons, Nat.zero_add,
    wpcs_shift s (wwd s 0) (by omega) _ 0 (by omega), Nat.add_zero, hl, wpcs_fuel s (s.length - 1) (s.length - wwd s 0) (wwd s 0) (by omega) (by omega)]
end Go.Abs
namespace Go.Abs
set_option autoImplicit false

theorem bat_in (X : List UInt8) (Y : List UInt8) (j : Nat) (h : j < X.length) : bat (X ++ Y) j = bat X j := by
  unfold bat
  rw [List.getD_eq_getElem?_getD, List.getD_eq_getElem?_getD, List.getElem?_append_left h]
theorem bat_at (X : List UInt8) (c : UInt8) (Z : List UInt8) : bat (X ++ c :: Z) X.length = byteI c := by
  unfold bat
  rw [List.getD_eq_getElem?_getD, List.getElem?_append_right (Nat.le_refl _), Nat.sub_self]; rfl
theorem dec_and {p q r : Prop} [Decidable p] [Decidable q] [Decidable r] (h : p ↔ q) : decide (p ∧ r) = decide (q ∧ r) := decide_eq_decide.2 (by rw [h])
theorem ut_cut (X : List UInt8) (c : UInt8) (Z : List UInt8) (hX : 0 < X.length) (hc : byteI c / 64 ≠ 2) :
    bat (X ++ c :: Z) 0 = bat X 0 ∧ ut2 (X ++ c :: Z) 0 = ut2 X 0 ∧ ut3 (X ++ c :: Z) 0 = ut3 X 0 ∧ ut4 (X ++ c :: Z) 0 = ut4 X 0 ∧ (ut2 X 0 = true → c2 (X ++ c :: Z) 0 = c2 X 0) ∧ (ut3 X 0 = true → c3 (X ++ c :: Z) 0 = c3 X 0) ∧ (ut4 X 0 = true → c4 (X ++ c :: Z) 0 = c4 X 0) := by
  have hl : (X ++ c :: Z).length = X.length + (Z.length + 1) := by rw [List.length_append, List.length_cons]
  have b0 := bat_in X (c :: Z) 0 hX
  have ba := bat_at X c Z
  have f2 : ∀ s : List UInt8, ¬ (0 + 1 < s.length ∧ bat s (0 + 1) / 64 = 2) → ut2 s 0 = false ∧ ut3 s 0 = false ∧ ut4 s 0 = false := by
    intro s h
    unfold ut2 ut3 ut4
    rw [decide_eq_false (fun e => h ⟨e.1, e.2.2.1⟩), decide_eq_false (fun e => h ⟨by omega, e.2.2.1⟩), decide_eq_false (fun e => h ⟨by omega, e.2.2.1⟩)]
    exact ⟨rfl, rfl, rfl⟩
  have f3 : ∀ s : List UInt8, ¬ (0 + 2 < s.length ∧ bat s (0 + 2) / 64 = 2) → ut3 s 0 = false ∧ ut4 s 0 = false := by
    intro s h
    unfold ut3 ut4
    rw [decide_eq_false (fun e => h ⟨e.1, e.2.2.2.1⟩), decide_eq_false (fun e => h ⟨by omega, e.2.2.2.1⟩)]
    exact ⟨rfl, rfl⟩
  have f4 : ∀ s : List UInt8, ¬ (0 + 3 < s.length ∧ bat s (0 + 3) / 64 = 2) → ut4 s 0 = false := by
    intro s h
    unfold ut4
    rw [decide_eq_false (fun e => h ⟨e.1, e.2.2.2.2.1⟩)]; rfl
  by_cases n1 : X.length = 1
  · rw [n1] at ba
    obtain ⟨p1, p2, p3⟩ := f2 X (fun e => by omega)
    obtain ⟨q1, q2, q3⟩ := f2 (X ++ c :: Z) (fun e => hc (by rw [← ba]; exact e.2))
    rw [p1, p2, p3, q1, q2, q3]
    exact ⟨b0, rfl, rfl, rfl, fun e => (by cases e), fun e => (by cases e), fun e => (by cases e)⟩
  have b1 := bat_in X (c :: Z) 1 (by omega)
  have e2 : ut2 (X ++ c :: Z) 0 = ut2 X 0 := by
    unfold ut2 c2
    rw [b0, Nat.zero_add, b1]
    exact dec_and (by rw [hl]; omega)
  have d2 : c2 (X ++ c :: Z) 0 = c2 X 0 := by unfold c2; rw [b0, Nat.zero_add, b1]
  by_cases n2 : X.length = 2
  · rw [n2] at ba
    obtain ⟨p2, p3⟩ := f3 X (fun e => by omega)
    obtain ⟨q2, q3⟩ := f3 (X ++ c :: Z) (fun e => hc (by rw [← ba]; exact e.2))
    rw [p2, p3, q2, q3]
    exact ⟨b0, e2, rfl, rfl, fun _ => d2, fun e => (by cases e), fun e => (by cases e)⟩
  have b2 := bat_in X (c :: Z) 2 (by omega)
  have d3 : c3 (X ++ c :: Z) 0 = c3 X 0 := by unfold c3; rw [b0, Nat.zero_add, Nat.zero_add, b1, b2]
  have e3 : ut3 (X ++ c :: Z) 0 = ut3 X 0 := by
    unfold ut3
    rw [d3, b0, Nat.zero_add, Nat.zero_add, b1, b2]
    exact congrArg (· && scal (c3 X 0)) (dec_and (by rw [hl]; omega))
  by_cases n3 : X.length = 3
  · rw [n3] at ba
    have p3 := f4 X (fun e => by omega)
    have q3 := f4 (X ++ c :: Z) (fun e => hc (by rw [← ba]; exact e.2))
    rw [p3, q3]
    exact ⟨b0, e2, e3, rfl, fun _ => d2, fun _ => d3, fun e => (by cases e)⟩
  have b3 := bat_in X (c :: Z) 3 (by omega)
  have d4 : c4 (X ++ c :: Z) 0 = c4 X 0 := by unfold c4; rw [b0, Nat.zero_add, Nat.zero_add, Nat.zero_add, b1, b2, b3]
  have e4 : ut4 (X ++ c :: Z) 0 = ut4 X 0 := by
    unfold ut4
    rw [d4, b0, Nat.zero_add, Nat.zero_add, Nat.zero_add, b1, b2, b3]
    exact congrArg (· && scal (c4 X 0)) (dec_and (by rw [hl]; omega))
  exact ⟨b0, e2, e3, e4, fun _ => d2, fun _ => d3, fun _ => d4⟩
theorem runeAt_cut (X : List UInt8) (c : UInt8) (Z : List UInt8) (hX : 0 < X.length) (hc : byteI c / 64 ≠ 2) : runeAt (X ++ c :: Z) 0 = runeAt X 0 := by
  obtain ⟨b0, e2, e3, e4, d2, d3, d4⟩ := ut_cut X c Z hX hc
  unfold runeAt
  have e1 : ut1 (X ++ c :: Z) 0 = ut1 X 0 := by unfold ut1; rw [b0]
  rw [e1, e2, e3, e4, b0]
  by_cases q1 : ut1 X 0 = true
  · rw [if_pos q1, if_pos q1]
  rw [if_neg q1, if_neg q1]
  by_cases q2 : ut2 X 0 = true
  · rw [if_pos q2, if_pos q2, d2 q2]
  rw [if_neg q2, if_neg q2]
  by_cases q3 : ut3 X 0 = true
  · rw [if_pos q3, if_pos q3, d3 q3]
  rw [if_neg q3, if_neg q3]
  by_cases q4 : ut4 X 0 = true
  · rw [if_pos q4, if_pos q4, d4 q4]
  rw [if_neg q4, if_neg q4]
theorem secI_hi (b : Int) : (secI b).2.1 ≤ 191 := by
  unfold secI
  repeat' split
  all_goals (dsimp only; omega)
theorem webW_cut (X : List UInt8) (c : UInt8) (Z : List UInt8) (hX : 0 < X.length) (hc : byteI c / 64 ≠ 2) : webW (X ++ c :: Z) 0 = webW X 0 := by
  have hl : (X ++ c :: Z).length = X.length + (Z.length + 1) := by rw [List.length_append, List.length_cons]
  have b0 := bat_in X (c :: Z) 0 hX
  have ba := bat_at X c Z
  unfold webW
  rw [b0, Nat.zero_add, Nat.zero_add]
  by_cases n1 : X.length = 1
  · rw [n1] at ba
    rw [if_neg (show ¬ (1 < (X ++ c :: Z).length ∧ 3 ≤ (secI (bat X 0)).2.2 ∧ (secI (bat X 0)).1 ≤ bat (X ++ c :: Z) 1 ∧ bat (X ++ c :: Z) 1 ≤ (secI (bat X 0)).2.1) from fun e => by
        have h1 := (secI_lo _ e.2.1).1
        have h2 := secI_hi (bat X 0)
        rw [ba] at e
        omega), if_neg (show ¬ (1 < X.length ∧ _) from fun e => by have := e.1; omega)]
  have b1 := bat_in X (c :: Z) 1 (by omega)
  rw [b1]
  have h1 : (1 < (X ++ c :: Z).length) ↔ (1 < X.length) := by rw [hl]; omega
  simp only [h1]
  by_cases n2 : X.length = 2
  · rw [n2] at ba
    have k1 : ¬ (2 < (X ++ c :: Z).length ∧ (secI (bat X 0)).2.2 = 4 ∧ contB (bat (X ++ c :: Z) 2) = true) := fun e => by
      rw [ba] at e
      have := of_decide_eq_true e.2.2
      omega
    have k2 : ¬ (2 < X.length ∧ (secI (bat X 0)).2.2 = 4 ∧ contB (bat X 2) = true) := fun e => by have := e.1; omega
    rw [if_neg k1, if_neg k2]
  have b2 := bat_in X (c :: Z) 2 (by omega)
  have h2 : (2 < (X ++ c :: Z).length) ↔ (2 < X.length) := by rw [hl]; omega
  rw [b2]
  simp only [h2]
theorem web_cut (c : UInt8) (Z : List UInt8) (hc : byteI c / 64 ≠ 2) : ∀ (n : Nat) (X : List UInt8), X.length ≤ n → webRunes (X ++ c :: Z) = webRunes X ++ webRunes (c :: Z)
  | 0, X, h => by
    have : X = [] := List.eq_nil_of_length_eq_zero (by omega)
    subst this; rfl
  | n + 1, X, h => by
    by_cases e : X = []
    · subst e; rfl
    · have hp : 0 < X.length := List.length_pos_iff.2 e
      have hw := wwd_bound X 0 hp
      have r1 := runeAt_cut X c Z hp hc
      have r2 : wwd (X ++ c :: Z) 0 = wwd X 0 := by unfold wwd wd; rw [r1, webW_cut X c Z hp hc]
      rw [web_step (X ++ c :: Z) (by simp), web_step X e, r1, r2, List.drop_append_of_le_length (by omega), web_cut c Z hc n (X.drop (wwd X 0)) (by rw [List.length_drop]; omega), List.cons_append]
theorem web_dot (Z : List UInt8) : webRunes (46 :: Z) = 46 :: webRunes Z := by
  have hb : bat ((46 : UInt8) :: Z) 0 < 128 := by show (46 : Int) < 128; omega
  rw [web_step _ (by simp), wwd_low hb, runeAt_low hb]; rfl
theorem rbs12290 : rbs 12290 = [227, 128, 130] := by
  rw [rbs3 (by omega) (by omega) (by omega)]; rfl
theorem web_dot3 (Z : List UInt8) : webRunes (227 :: 128 :: 130 :: Z) = 12290 :: webRunes Z := by
  have hr : runeAt (227 :: 128 :: 130 :: Z) 0 = (12290, ((3 : Int), false)) := by
    have := runeAt_enc 12290 rfl Z
    rw [rbs12290] at this
    exact this
  have hw : wwd (227 :: 128 :: 130 :: Z) 0 = 3 := by unfold wwd wd; rw [hr]; rfl
  rw [web_step _ (by simp), hr, hw]; rfl
theorem dcut_dots (x y : Int) (hx : dotI x = true) (hy : dotI y = true) (B : List Int) : ∀ (A cur : List Int), dcut cur (A ++ x :: B) = dcut cur (A ++ y :: B)
  | [], cur => by rw [List.nil_append, List.nil_append, dcut, dcut, hx, hy, if_pos rfl, if_pos rfl]
  | r :: A, cur => by
    rw [List.cons_append, List.cons_append, dcut, dcut, dcut_dots x y hx hy B A [], dcut_dots x y hx hy B A (cur ++ [r])]
end Go.Abs
namespace Go.Abs
set_option autoImplicit false

theorem split_at (s : List UInt8) (k : Nat) (h : k < s.length) : s = s.take k ++ s[k] :: s.drop (k + 1) := by
  rw [← List.drop_eq_getElem_cons h, List.take_append_drop]
theorem hexs_tab : (List.range 256).all (fun n => inside (shr IntKind.u8 (n : Int) 4) 16 && (inside (bits Go.BinOp.and IntKind.u8 (n : Int) 15) 16 &&
    (decide (0 ≤ nib (byteI (UInt8.ofNat (((hexs.getD (shr IntKind.u8 (n : Int) 4).toNat 0).toNat : Nat) : Int).toNat))) && (decide (0 ≤ nib (byteI (UInt8.ofNat (((hexs.getD (bits Go.BinOp.and IntKind.u8 (n : Int) 15).toNat 0).toNat : Nat) : Int).toNat))) &&
    decide (nib (byteI (UInt8.ofNat (((hexs.getD (shr IntKind.u8 (n : Int) 4).toNat 0).toNat : Nat) : Int).toNat)) * 16 + nib (byteI (UInt8.ofNat (((hexs.getD (bits Go.BinOp.and IntKind.u8 (n : Int) 15).toNat 0).toNat : Nat) : Int).toNat)) = (n : Int)))))) = true := by kernel_rfl
theorem c_octets_Hex_one (b : Int) (h0 : 0 ≤ b) (h1 : b ≤ 255) : ∃ x y, c_octets_Hex [b] = some [x, y] ∧ 0 ≤ nib (byteI x) ∧ 0 ≤ nib (byteI y) ∧ nib (byteI x) * 16 + nib (byteI y) = b := by
  obtain ⟨n, rfl⟩ := Int.eq_ofNat_of_zero_le h0
  have := List.all_eq_true.1 hexs_tab n (List.mem_range.2 (by omega))
  rw [Bool.and_eq_true, Bool.and_eq_true, Bool.and_eq_true, Bool.and_eq_true] at this
  obtain ⟨t1, t2, t3, t4, t5⟩ := this
  refine ⟨_, _, ?_, of_decide_eq_true t3, of_decide_eq_true t4, of_decide_eq_true t5⟩
  rw [c_octets_Hex_eq, Z34_eq]
  rw [show ((decide ((0 : Int) ≤ (0 : Int))) && ((decide ((0 : Int) ≤ (IntKind.wrap IntKind.i64 ((2 : Int) * (((List.length [(n : Int)]) : Nat) : Int))))) && (decide ((IntKind.wrap IntKind.i64 ((2 : Int) * (((List.length [(n : Int)]) : Nat) : Int))) ≤ (((lim) : Nat) : Int))))) = true from by
    show (decide ((0 : Int) ≤ (0 : Int)) && (decide ((0 : Int) ≤ IntKind.wrap IntKind.i64 (2 * 1)) && decide (IntKind.wrap IntKind.i64 (2 * 1) ≤ ((lim : Nat) : Int)))) = true
    kernel_rfl]
  rw [cond_true, Z44_eq, show decide ((0 : Int) < ((([(n : Int)] : List Int).length : Nat) : Int)) = true from rfl, cond_true, in_zero, cond_true]
  rw [show List.getD [(n : Int)] (Int.toNat (0 : Int)) (Ty.zero (.int .u8)) = (n : Int) from rfl]
  rw [show ([(48 : UInt8), (49 : UInt8), (50 : UInt8), (51 : UInt8), (52 : UInt8), (53 : UInt8), (54 : UInt8), (55 : UInt8), (56 : UInt8), (57 : UInt8), (97 : UInt8), (98 : UInt8), (99 : UInt8), (100 : UInt8), (101 : UInt8), (102 : UInt8)] : List UInt8) = hexs from rfl, show hexs.length = 16 from rfl, t1, cond_true, t2, cond_true]
  rw [show IntKind.i64.wrap ((0 : Int) + 1) = 1 from a1, Z44_eq, show decide ((1 : Int) < ((([(n : Int)] : List Int).length : Nat) : Int)) = false from rfl, cond_false]
  rfl
theorem parse_pct (s : List UInt8) (k : Nat) (hk : k < s.length) (hs : s.length ≤ 10000) (hp : ∀ b ∈ s, byteI b ≠ 37) (hd : s.head? ≠ some 91) (x y : UInt8) (hx : 0 ≤ nib (byteI x)) (hy : 0 ≤ nib (byteI y)) (hv : nib (byteI x) * 16 + nib (byteI y) = byteI s[k]) :
    parseOf (s.take k ++ 37 :: x :: y :: s.drop (k + 1)) true = parseOf s true := by
  have hl : (s.take k ++ 37 :: x :: y :: s.drop (k + 1)).length = s.length + 2 := by
    rw [List.length_append, List.length_take, List.length_cons, List.length_cons, List.length_cons, List.length_drop]; omega
  have hd' : (s.take k ++ 37 :: x :: y :: s.drop (k + 1)).head? ≠ some 91 := by
    cases hP : s.take k with
    | nil => simp
    | cons a P =>
      have := split_at s k hk
      rw [hP] at this
      rw [this] at hd
      exact hd
  rw [parse_special s (by omega) hd, parse_special _ (by omega) hd']
  apply special_alike
  rw [decText_D, decText_D]
  congr 2
  have h1 : ∀ b ∈ s.take k, byteI b ≠ 37 := fun b hb => hp b (List.mem_of_mem_take hb)
  have h2 : ∀ b ∈ s.drop (k + 1), byteI b ≠ 37 := fun b hb => hp b (List.mem_of_mem_drop hb)
  rw [D_app _ _ h1, D3, if_pos ⟨rfl, hx, hy⟩, hv, D_plain _ h2, D_plain s hp]
  conv => rhs; rw [split_at s k hk]
  rw [List.map_append, List.map_cons]
theorem strOf_app (a b : List Int) : strOf (a ++ b) = strOf a ++ strOf b := by unfold strOf; rw [List.map_append]
theorem strOf_byte (c : UInt8) (l : List Int) : strOf (byteI c :: l) = c :: strOf l := by
  unfold strOf; rw [List.map_cons, ofInt_byteI]
theorem parse_dot (s : List UInt8) (k : Nat) (hk : k < s.length) (hs : s.length ≤ 10000) (hd : s.head? ≠ some 91) (hv : s[k] = 46) :
    parseOf (s.take k ++ 227 :: 128 :: 130 :: s.drop (k + 1)) true = parseOf s true := by
  have hl : (s.take k ++ 227 :: 128 :: 130 :: s.drop (k + 1)).length = s.length + 2 := by
    rw [List.length_append, List.length_take, List.length_cons, List.length_cons, List.length_cons, List.length_drop]; omega
  have hsp := split_at s k hk
  rw [hv] at hsp
  have hd' : (s.take k ++ 227 :: 128 :: 130 :: s.drop (k + 1)).head? ≠ some 91 := by
    cases hP : s.take k with
    | nil => simp
    | cons a P =>
      rw [hP] at hsp
      rw [hsp] at hd
      exact hd
  rw [parse_special s (by omega) hd, parse_special _ (by omega) hd']
  apply special_alike
  have hD1 : D (s.take k ++ 227 :: 128 :: 130 :: s.drop (k + 1)) = D (s.take k) ++ byteI 227 :: (byteI 128 :: (byteI 130 :: D (s.drop (k + 1)))) := by
    rw [D_cut 227 (by decide) (by decide), D_step 128 (by decide), D_step 130 (by decide)]
  have hD2 : D s = D (s.take k) ++ byteI 46 :: D (s.drop (k + 1)) := by
    conv => lhs; rw [hsp]
    rw [D_cut 46 (by decide) (by decide)]
  have hA := D_len (s.take k)
  have hB := D_len (s.drop (k + 1))
  rw [List.length_take] at hA
  rw [List.length_drop] at hB
  rw [decText_D, decText_D, hD1, hD2, strOf_app, strOf_app, strOf_byte, strOf_byte, strOf_byte, strOf_byte]
  have hAl : (strOf (D (s.take k))).length = (D (s.take k)).length := by unfold strOf; rw [List.length_map]
  have hBl : (strOf (D (s.drop (k + 1)))).length = (D (s.drop (k + 1))).length := by unfold strOf; rw [List.length_map]
  generalize strOf (D (s.take k)) = A at hAl ⊢
  generalize strOf (D (s.drop (k + 1))) = B at hBl ⊢
  have z1 := webFix_size (A ++ 227 :: 128 :: 130 :: B) (by simp only [List.length_append, List.length_cons]; omega)
  have z2 := webFix_size (A ++ 46 :: B) (by simp only [List.length_append, List.length_cons]; omega)
  have s1 := webRunes_scal (A ++ 227 :: 128 :: 130 :: B)
  have s2 := webRunes_scal (A ++ 46 :: B)
  show asciiOf (textOf (webRunes (A ++ 227 :: 128 :: 130 :: B))) = asciiOf (textOf (webRunes (A ++ 46 :: B)))
  rw [web_cut 227 _ (by decide) A.length A (Nat.le_refl _), web_dot3] at z1 s1 ⊢
  rw [web_cut 46 _ (by decide) A.length A (Nat.le_refl _), web_dot] at z2 s2 ⊢
  refine ascii_alike _ _ s1 s2 ?_ (by simp) z1 z2
  rw [dcut_dots 12290 46 rfl rfl]

def hasB (x : List UInt8) (c : Int) : Bool := x.any fun b => byteI b == c
theorem hasB_go (x : List UInt8) (c : Int) (hx : x.length ≤ 1073741824) : ∀ (k i : Nat), i + k = x.length → Zs x c (i : Int) = some (hasB (x.drop i) c)
  | 0, i, hk => by
    have : i = x.length := by omega
    subst this
    rw [Zs_eq]; simp [hasB]
  | k + 1, i, hk => by
    have hi : i < x.length := by omega
    have hw : IntKind.i64.wrap ((i : Int) + 1) = ((i + 1 : Nat) : Int) := by rw [w64 (by omega) (by omega)]; omega
    have hget : x.getD (Int.toNat (i : Int)) 0 = x[i] := by
      rw [Int.toNat_natCast, List.getD_eq_getElem?_getD, List.getElem?_eq_getElem hi]; rfl
    rw [Zs_eq]
    simp only [lt_nat, hi, decide_true, cond_true, inside_nat, hget, hw]
    rw [List.drop_eq_getElem_cons hi, hasB_go x c hx k (i + 1) (by omega)]
    show (bif (byteI x[i] == c) then some true else some (hasB (x.drop (i + 1)) c)) = some ((byteI x[i] == c) || hasB (x.drop (i + 1)) c)
    cases (byteI x[i] == c) <;> rfl
theorem c_ref01_Has_any (x : List UInt8) (c : Int) (hx : x.length ≤ 1073741824) : c_ref01_Has (x, c) = some (hasB x c) := by
  rw [c_ref01_Has_eq, Zr_eq]
  exact hasB_go x c hx x.length 0 (by omega)
theorem hasB_no {x : List UInt8} {c : Int} (h : hasB x c = false) : ∀ b ∈ x, byteI b ≠ c := by
  intro b hb
  unfold hasB at h
  rw [List.any_eq_false] at h
  simpa using h b hb
end Go.Abs
namespace Go.Abs
set_option autoImplicit false

theorem get_at (s : List UInt8) (k : Nat) (hk : k < s.length) : ((((List.getD s (Int.toNat (k : Int)) (0 : UInt8)).toNat : Nat)) : Int) = byteI s[k] := by
  rw [Int.toNat_natCast, List.getD_eq_getElem?_getD, List.getElem?_eq_getElem hk]; rfl
theorem small62 {n : Nat} (h : n ≤ 100000) : decide (n ≤ 2 ^ 62) = true := decide_eq_true (by omega)
theorem spelt_tail (s : List UInt8) (k : Nat) (hk : k < s.length) (hs : s.length ≤ 10000) (hd : s.head? ≠ some 91) (h0 : (parseOf s true).2 = 0) (b1 : D35) : Z24 s (k : Int) (parseOf s true).1 b1 = some true := by
  have hw : IntKind.i64.wrap ((k : Int) + 1) = ((k + 1 : Nat) : Int) := by rw [w64 (by omega) (by omega)]; omega
  have hlt : (s.take k).length = k := by rw [List.length_take]; omega
  have hld : (s.drop (k + 1)).length = s.length - (k + 1) := List.length_drop
  rw [Z24_eq, inside_nat, decide_eq_true hk, cond_true, get_at s k hk, hw]
  by_cases c : byteI s[k] = 46
  · have hv : s[k] = 46 := byteI_inj (show byteI s[k] = byteI 46 from c)
    rw [show (byteI s[k] == 46) = true from beq_iff_eq.2 c, cond_true, show cutOk none (some (k : Int)) s.length = true from by simp [cutOk]; omega, cond_true, show cutList none (some (k : Int)) s = s.take k from by show s.take (Int.toNat (k : Int)) = _; rw [Int.toNat_natCast],
      small62 (by rw [hlt]; simp only [List.length_cons, List.length_nil]; omega), cond_true, cut_from (by omega), cond_true, cutList_from, small62 (by rw [List.length_append, hlt, hld]; simp only [List.length_cons, List.length_nil]; omega), cond_true]
    rw [show (s.take k ++ ([(227 : UInt8), (128 : UInt8), (130 : UInt8)] : List UInt8)) ++ s.drop (k + 1) = s.take k ++ 227 :: 128 :: 130 :: s.drop (k + 1) from by rw [List.append_assoc]; rfl]
    rw [c_host_Parse_val, parse_dot s k hk hs hd hv, Option.bind_some, c_law05_num_val, Option.bind_some, h0, show ((0 : Int) == 0) = true from rfl, cond_true, (beqH _ _).2 rfl]
  · rw [show (byteI s[k] == 46) = false from beq_eq_false_iff_ne.2 c, cond_false]
theorem spelt_rest (s : List UInt8) (s1_1 : Int) (hs : s.length ≤ 10000) (hd : s.head? ≠ some 91) (h0 : (parseOf s true).2 = 0) (a : D35) (ha : a = (parseOf s true).1) :
    ((c_octets_Upper s).bind fun y3 =>
      (c_host_Parse (y3, true)).bind fun y4 =>
        (c_ref01_Has (s, (37 : Int))).bind fun y5 =>
          bif (!y5) then
            (c_law05_num y4.2).bind fun y6 =>
              bif (y6 != (0 : Int)) then
                some false
              else
                bif (!(Ty.beq T35 y4.1 a)) then
                  some false
                else
                  (c_ref02_Valid s).bind fun y7 =>
                    bif (decide (s1_1 < (0 : Int))) then
                      some true
                    else
                      bif (decide (s1_1 ≥ (((List.length s) : Nat) : Int))) then
                        some true
                      else
                        bif (!y7.1) then
                          some true
                        else
                          bif (inside s1_1 (List.length s)) then
                            bif ((((UInt8.toNat (List.getD s (Int.toNat s1_1) (0 : UInt8))) : Nat) : Int) != (37 : Int)) then
                              (c_ref01_Has (s, (37 : Int))).bind fun y8 =>
                                bif (!y8) then
                                  bif (cutOk none (some s1_1) (List.length s)) then
                                    bif (decide (((List.length (cutList none (some s1_1) s)) + (List.length ([(37 : UInt8)] : List UInt8))) ≤ (2 ^ 62))) then
                                      bif (inside s1_1 (List.length s)) then
                                        bif (cutOk (some (IntKind.wrap IntKind.i64 (s1_1 + (1 : Int)))) none (List.length s)) then
                                          (c_octets_Hex ([(((UInt8.toNat (List.getD s (Int.toNat s1_1) (0 : UInt8))) : Nat) : Int)] : List Int)).bind fun y9 =>
                                            bif (decide (((List.length ((cutList none (some s1_1) s) ++ ([(37 : UInt8)] : List UInt8))) + (List.length y9)) ≤ (2 ^ 62))) then
                                              bif (decide (((List.length (((cutList none (some s1_1) s) ++ ([(37 : UInt8)] : List UInt8)) ++ y9)) + (List.length (cutList (some (IntKind.wrap IntKind.i64 (s1_1 + (1 : Int)))) none s))) ≤ (2 ^ 62))) then
                                                (c_host_Parse (((((cutList none (some s1_1) s) ++ ([(37 : UInt8)] : List UInt8)) ++ y9) ++ (cutList (some (IntKind.wrap IntKind.i64 (s1_1 + (1 : Int)))) none s)), true)).bind fun y10 =>
                                                  (c_law05_num y10.2).bind fun y11 =>
                                                    bif (y11 != (0 : Int)) then
                                                      some false
                                                    else
                                                      bif (!(Ty.beq T35 y10.1 a)) then
                                                        some false
                                                      else
                                                        Z24 s s1_1 a y10.1
                                              else
                                                none
                                            else
                                              none
                                        else
                                          none
                                      else
                                        none
                                    else
                                      none
                                  else
                                    none
                                else
                                  Z24 s s1_1 a y4.1
                            else
                              Z24 s s1_1 a y4.1
                          else
                            none
          else
            (c_ref02_Valid s).bind fun y6 =>
              bif (decide (s1_1 < (0 : Int))) then
                some true
              else
                bif (decide (s1_1 ≥ (((List.length s) : Nat) : Int))) then
                  some true
                else
                  bif (!y6.1) then
                    some true
                  else
                    bif (inside s1_1 (List.length s)) then
                      bif ((((UInt8.toNat (List.getD s (Int.toNat s1_1) (0 : UInt8))) : Nat) : Int) != (37 : Int)) then
                        (c_ref01_Has (s, (37 : Int))).bind fun y7 =>
                          bif (!y7) then
                            bif (cutOk none (some s1_1) (List.length s)) then
                              bif (decide (((List.length (cutList none (some s1_1) s)) + (List.length ([(37 : UInt8)] : List UInt8))) ≤ (2 ^ 62))) then
                                bif (inside s1_1 (List.length s)) then
                                  bif (cutOk (some (IntKind.wrap IntKind.i64 (s1_1 + (1 : Int)))) none (List.length s)) then
                                    (c_octets_Hex ([(((UInt8.toNat (List.getD s (Int.toNat s1_1) (0 : UInt8))) : Nat) : Int)] : List Int)).bind fun y8 =>
                                      bif (decide (((List.length ((cutList none (some s1_1) s) ++ ([(37 : UInt8)] : List UInt8))) + (List.length y8)) ≤ (2 ^ 62))) then
                                        bif (decide (((List.length (((cutList none (some s1_1) s) ++ ([(37 : UInt8)] : List UInt8)) ++ y8)) + (List.length (cutList (some (IntKind.wrap IntKind.i64 (s1_1 + (1 : Int)))) none s))) ≤ (2 ^ 62))) then
                                          (c_host_Parse (((((cutList none (some s1_1) s) ++ ([(37 : UInt8)] : List UInt8)) ++ y8) ++ (cutList (some (IntKind.wrap IntKind.i64 (s1_1 + (1 : Int)))) none s)), true)).bind fun y9 =>
                                            (c_law05_num y9.2).bind fun y10 =>
                                              bif (y10 != (0 : Int)) then
                                                some false
                                              else
                                                bif (!(Ty.beq T35 y9.1 a)) then
                                                  some false
                                                else
                                                  Z24 s s1_1 a y9.1
                                        else
                                          none
                                      else
                                        none
                                  else
                                    none
                                else
                                  none
                              else
                                none
                            else
                              none
                          else
                            Z24 s s1_1 a y4.1
                      else
                        Z24 s s1_1 a y4.1
                    else
                      none) = some true := by
  subst ha
  have hbb : Ty.beq T35 (parseOf s true).1 (parseOf s true).1 = true := (beqH _ _).2 rfl
  rw [c_octets_Upper_val s (by omega), Option.bind_some, c_host_Parse_val, Option.bind_some, c_ref01_Has_any s 37 (by omega), Option.bind_some, c_ref02_Valid_val s (by omega)]
  by_cases n1 : s1_1 < 0
  · cases hp : hasB s 37 with
    | true => rw [Bool.not_true, cond_false, Option.bind_some, decide_eq_true n1, cond_true]
    | false => rw [Bool.not_false, cond_true, c_law05_num_val, Option.bind_some, parse_upper s hs (hasB_no hp) hd, h0, show ((0 : Int) != 0) = false from rfl, cond_false, hbb, Bool.not_true, cond_false, Option.bind_some, decide_eq_true n1, cond_true]
  obtain ⟨k, rfl⟩ := Int.eq_ofNat_of_zero_le (show 0 ≤ s1_1 by omega)
  rw [decide_eq_false n1]
  by_cases n2 : s.length ≤ k
  · have e2 : decide ((k : Int) ≥ (s.length : Int)) = true := decide_eq_true (by omega)
    cases hp : hasB s 37 with
    | true => rw [Bool.not_true, cond_false, Option.bind_some, cond_false, e2, cond_true]
    | false => rw [Bool.not_false, cond_true, c_law05_num_val, Option.bind_some, parse_upper s hs (hasB_no hp) hd, h0, show ((0 : Int) != 0) = false from rfl, cond_false, hbb, Bool.not_true, cond_false, Option.bind_some, cond_false, e2, cond_true]
  have hk : k < s.length := by omega
  have e2 : decide ((k : Int) ≥ (s.length : Int)) = false := decide_eq_false (by omega)
  have hin : inside (k : Int) s.length = true := by rw [inside_nat, decide_eq_true hk]
  have tail := fun b1 => spelt_tail s k hk hs hd h0 b1
  have hw : IntKind.i64.wrap ((k : Int) + 1) = ((k + 1 : Nat) : Int) := by rw [w64 (by omega) (by omega)]; omega
  have hlt : (s.take k).length = k := by rw [List.length_take]; omega
  have hld : (s.drop (k + 1)).length = s.length - (k + 1) := List.length_drop
  cases hp : hasB s 37 with
  | true =>
    rw [Bool.not_true, cond_false, Option.bind_some, cond_false, e2, cond_false]
    cases (validOf s).1 with
    | false => rw [Bool.not_false, cond_true]
    | true =>
      rw [Bool.not_true, cond_false, hin, cond_true, Option.bind_some, Bool.not_true, cond_false, tail]
      cases ((((List.getD s (Int.toNat (k : Int)) (0 : UInt8)).toNat : Nat) : Int) != 37) <;> rfl
  | false =>
    have hno := hasB_no hp
    rw [Bool.not_false, cond_true, c_law05_num_val, Option.bind_some, parse_upper s hs hno hd, h0, show ((0 : Int) != 0) = false from rfl, cond_false, hbb, Bool.not_true, cond_false, Option.bind_some, cond_false, e2, cond_false]
    cases (validOf s).1 with
    | false => rw [Bool.not_false, cond_true]
    | true =>
      have hb := byteI_lt s[k]
      obtain ⟨x, y, q1, q2, q3, q4⟩ := c_octets_Hex_one (byteI s[k]) hb.1 hb.2
      have key := parse_pct s k hk hs hno hd x y q2 q3 q4
      rw [Bool.not_true, cond_false, hin, cond_true, get_at s k hk, show (byteI s[k] != 37) = true from bne_iff_ne.2 (hno _ (List.getElem_mem hk)), cond_true, Option.bind_some, Bool.not_false, cond_true, hw, show cutOk none (some (k : Int)) s.length = true from by simp [cutOk]; omega, cond_true, show cutList none (some (k : Int)) s = s.take k from by show s.take (Int.toNat (k : Int)) = _; rw [Int.toNat_natCast],
        small62 (by rw [hlt]; simp only [List.length_cons, List.length_nil]; omega), cond_true, cond_true, cut_from (by omega), cond_true, cutList_from, q1, Option.bind_some, small62 (by rw [List.length_append, hlt]; simp only [List.length_cons, List.length_nil]; omega), cond_true, small62 (by rw [List.length_append, List.length_append, hlt, hld]; simp only [List.length_cons, List.length_nil]; omega), cond_true]
      rw [show ((s.take k ++ ([(37 : UInt8)] : List UInt8)) ++ [x, y]) ++ s.drop (k + 1) = s.take k ++ 37 :: x :: y :: s.drop (k + 1) from by rw [List.append_assoc, List.append_assoc]; rfl]
      rw [c_host_Parse_val, key, Option.bind_some, c_law05_num_val, Option.bind_some, h0, show ((0 : Int) != 0) = false from rfl, cond_false, hbb, Bool.not_true, cond_false, tail]
theorem law05_HostSpelt_of (s : List UInt8) (at' : Int) (h47 : c_law05_alive () = some true) : c_law05_HostSpelt (s, at') = some true := by
  rw [c_law05_HostSpelt_eq]
  dsimp only
  rw [Z14_eq, h47, Option.bind_some, Bool.not_true, cond_false, c_host_Parse_val, Option.bind_some, c_law05_num_val, Option.bind_some, bne0]
  by_cases c : (parseOf s true).2 ≠ 0
  · rw [decide_eq_true c, cond_true]
  rw [decide_eq_false c, cond_false]
  have h0 : (parseOf s true).2 = 0 := Decidable.not_not.1 c
  by_cases d : s.length > 10000
  · rw [show decide ((s.length : Int) > 10000) = true from decide_eq_true (by omega), cond_true]
  rw [show decide ((s.length : Int) > 10000) = false from decide_eq_false (by omega), cond_false]
  cases s with
  | nil =>
    rw [show decide (((([] : List UInt8).length : Nat) : Int) > 0) = false from rfl, cond_false]
    exact spelt_rest [] at' (by simp) (by simp) h0 _ rfl
  | cons b t =>
    rw [show decide ((((b :: t).length : Nat) : Int) > 0) = true from decide_eq_true (by simp only [List.length_cons]; omega), cond_true, in_zero, cond_true]
    by_cases e : byteI b = 91
    · rw [show ((((List.getD (b :: t) (Int.toNat (0 : Int)) (0 : UInt8)).toNat : Nat) : Int) == 91) = true from beq_iff_eq.2 e, cond_true]
    · rw [show ((((List.getD (b :: t) (Int.toNat (0 : Int)) (0 : UInt8)).toNat : Nat) : Int) == 91) = false from beq_eq_false_iff_ne.2 e, cond_false]
      refine spelt_rest (b :: t) at' (by omega) ?_ h0 _ rfl
      intro e2
      have : b = 91 := by simpa using e2
      exact e (by rw [this]; rfl)
end Go.Abs
