/- Part L8 of the proof: see the last text of the claim. No condition of its own. -/
import Derived.Test.YtddagflhafkbnaaGreatDoorL6
import Derived.Test.YtddagflhafkbnaaGreatDoorL7
set_option linter.all false
namespace Go.Abs
set_option autoImplicit false

theorem lbeq_iff : ∀ (a b : List Int), Ty.beq.lbeq (fun x y => x == y) a b = true ↔ a = b
  | [], [] => by simp [Ty.beq.lbeq]
  | [], y :: b => by simp [Ty.beq.lbeq]
  | x :: a, [] => by simp [Ty.beq.lbeq]
  | x :: a, y :: b => by
    have ih := lbeq_iff a b
    simp only [Ty.beq.lbeq, Bool.and_eq_true, beq_iff_eq, ih, List.cons.injEq]
theorem beqH (a b : D35) : Ty.beq T35 a b = true ↔ a = b := by
  obtain ⟨a1, a2, a3, a4⟩ := a
  obtain ⟨b1, b2, b3, b4⟩ := b
  show ((a1 == b1) && ((a2 == b2) && ((a3 == b3) && Ty.beq.lbeq (fun x y => x == y) a4 b4))) = true ↔ _
  rw [Bool.and_eq_true, Bool.and_eq_true, Bool.and_eq_true, lbeq_iff]
  simp only [beq_iff_eq, Prod.mk.injEq]

def kd (h : D35) : Int := h.1
def wantK (k : Int) (h : D35) : D35 :=
  if k = 0 ∨ k = 5 then (k, (([] : List UInt8), ((0 : Int), z8))) else if k = 2 then (k, (([] : List UInt8), (h.2.2.1, z8))) else if k = 3 then (k, (([] : List UInt8), ((0 : Int), h.2.2.2)))
  else (parseOf h.2.1 (k == 1)).1
def wantOf (h : D35) : D35 := wantK (kd h) h
def kindOK (k : Int) : Prop := k = 0 ∨ k = 1 ∨ k = 2 ∨ k = 3 ∨ k = 4 ∨ k = 5
open Classical in
noncomputable def checkOf (h : D35) : Int := if kindOK (kd h) ∧ h = wantOf h then 0 else 51
open Classical in
theorem beq_dec (a b : D35) : (bif (!(Ty.beq T35 a b)) then some (51 : Int) else some (0 : Int)) = some (if a = b then 0 else 51) := by
  by_cases h : a = b
  · rw [(beqH a b).2 h, Bool.not_true, cond_false, if_pos h]
  · have : Ty.beq T35 a b = false := by
      cases hb : Ty.beq T35 a b with
      | false => rfl
      | true => exact absurd ((beqH a b).1 hb) h
    rw [this, Bool.not_false, cond_true, if_neg h]
end Go.Abs
namespace Go.Abs
set_option autoImplicit false

end Go.Abs
namespace Go.Abs
set_option autoImplicit false

end Go.Abs
namespace Go.Abs
set_option autoImplicit false

theorem labelOf_low {s t : List UInt8} (h : lowS s = lowS t) (last : Bool) : labelOf s last = labelOf t last := by unfold labelOf; rw [h]
theorem labGo_low : ∀ (l l' : List (List UInt8)) (i : Nat), l.map lowS = l'.map lowS → labGo i l = labGo i l'
  | [], [], _, _ => rfl
  | [], y :: l', i, h => by cases h
  | x :: l, [], i, h => by cases h
  | x :: l, y :: l', i, h => by
    rw [List.map_cons, List.map_cons] at h
    have h1 := (List.cons.inj h).1
    have h2 := (List.cons.inj h).2
    have he : l.isEmpty = l'.isEmpty := by
      cases l with
      | nil => cases l' with
        | nil => rfl
        | cons a b => cases h2
      | cons a b => cases l' with
        | nil => cases h2
        | cons c d => rfl
    rw [labGo, labGo, he, labelOf_low h1, labGo_low l l' (i + 1) h2]
theorem ascii_alike (l l' : List Int) (hl : scalL l) (hl' : scalL l') (h : (dcut [] l).map (fun x => lowS (textOf x)) = (dcut [] l').map (fun x => lowS (textOf x))) (he : l = [] ↔ l' = []) (h1 : (textOf l).length ≤ 65536) (h2 : (textOf l').length ≤ 65536) : asciiOf (textOf l) = asciiOf (textOf l') := by
  have hg : labGo 0 ((dcut [] l).map textOf) = labGo 0 ((dcut [] l').map textOf) := labGo_low _ _ 0 (by rw [List.map_map, List.map_map]; exact h)
  have hne : ∀ x : List Int, textOf x = [] ↔ x = [] := by
    intro x
    refine ⟨fun e => ?_, fun e => by rw [e]; rfl⟩
    have := textOf_len_ge x
    rw [e] at this
    exact List.eq_nil_of_length_eq_zero (by simpa using this)
  unfold asciiOf
  rw [valid_text l hl, valid_text l' hl', scalars_text l hl, scalars_text l' hl', hg, if_neg (show ¬ (true = false) by simp), if_neg (show ¬ 65536 < (textOf l).length by omega), if_neg (show ¬ 65536 < (textOf l').length by omega)]
  rw [if_neg (show ¬ (true = false) by simp)]
  by_cases c : l = []
  · rw [if_pos ((hne l).2 c), if_pos ((hne l').2 (he.1 c))]
  · rw [if_neg (fun e => c ((hne l).1 e)), if_neg (fun e => c (he.2 ((hne l').1 e)))]

def upI (x : Int) : Int := if 97 ≤ x ∧ x ≤ 122 then bits Go.BinOp.xor IntKind.u8 x 32 else x
def upB (b : UInt8) : UInt8 := UInt8.ofNat (upI (byteI b)).toNat
def upS (s : List UInt8) : List UInt8 := s.map upB
theorem upI_all : (List.range 26).all (fun n => decide (bits Go.BinOp.xor IntKind.u8 ((n : Int) + 97) 32 = (n : Int) + 65)) = true := by kernel_rfl
theorem upI_spec (x : Int) : upI x = if 97 ≤ x ∧ x ≤ 122 then x - 32 else x := by
  unfold upI
  by_cases h : 97 ≤ x ∧ x ≤ 122
  · rw [if_pos h, if_pos h]
    have := of_decide_eq_true (List.all_eq_true.1 upI_all (x - 97).toNat (List.mem_range.2 (by omega)))
    rw [show (((x - 97).toNat : Nat) : Int) + 97 = x from by omega] at this
    rw [this]; omega
  · rw [if_neg h, if_neg h]
theorem upI_cases (x : Int) : (97 ≤ x ∧ x ≤ 122 ∧ upI x = x - 32) ∨ (¬ (97 ≤ x ∧ x ≤ 122) ∧ upI x = x) := by
  rw [upI_spec]
  by_cases h : 97 ≤ x ∧ x ≤ 122
  · rw [if_pos h]; exact .inl ⟨h.1, h.2, rfl⟩
  · rw [if_neg h]; exact .inr ⟨h, rfl⟩
theorem up_turned (s0 : List UInt8) : ∀ (k i : Nat) (r : List Int), i + k = r.length → r.length ≤ 1073741824 →
    Zu s0 97 122 (r.length : Int) (i : Int) r = some (strOf (r.take i ++ (r.drop i).map upI))
  | 0, i, r, hk, hr => by
    have hi : i = r.length := by omega
    subst hi
    rw [Zu_eq]
    simp [lt_nat]
  | k + 1, i, r, hk, hr => by
    have hi : i < r.length := by omega
    have hw : IntKind.i64.wrap ((i : Int) + 1) = ((i + 1 : Nat) : Int) := by rw [w64 (by omega) (by omega)]; omega
    have hget : List.getD r (Int.toNat (i : Int)) (Ty.zero (.int .u8)) = r[i] := by
      rw [Int.toNat_natCast, List.getD_eq_getElem?_getD, List.getElem?_eq_getElem hi]; rfl
    have hdrop : r.drop i = r[i] :: r.drop (i + 1) := List.drop_eq_getElem_cons hi
    have htake : ∀ l : List Int, (h : i < l.length) → l.take (i + 1) = l.take i ++ [l[i]] := fun l h => List.take_succ_eq_append_getElem h
    rw [Zu_eq]
    simp only [lt_nat, hi, decide_true, cond_true, inside_nat, hget, hw]
    rw [hdrop, List.map_cons]
    have next : Zu s0 97 122 (r.length : Int) ((i + 1 : Nat) : Int) r = some (strOf (r.take i ++ [r[i]] ++ (r.drop (i + 1)).map upI)) := by
      rw [up_turned s0 k (i + 1) r (by omega) hr, htake r hi]
    by_cases h1 : (97 : Int) ≤ r[i]
    · have e1 : decide (r[i] ≥ 97) = true := by simpa using h1
      rw [e1, cond_true]
      by_cases h2 : r[i] ≤ (122 : Int)
      · have e2 : decide (r[i] ≤ 122) = true := by simpa using h2
        rw [e2, cond_true]
        have hl : (List.set r (Int.toNat (i : Int)) (bits Go.BinOp.xor IntKind.u8 r[i] 32)).length = r.length := by simp
        have := up_turned s0 k (i + 1) (List.set r (Int.toNat (i : Int)) (bits Go.BinOp.xor IntKind.u8 r[i] 32)) (by rw [hl]; omega) (by rw [hl]; exact hr)
        rw [hl] at this
        rw [this, Int.toNat_natCast]
        have e3 : upI r[i] = bits Go.BinOp.xor IntKind.u8 r[i] 32 := by unfold upI; rw [if_pos ⟨h1, h2⟩]
        rw [e3, htake _ (by simpa using hi)]
        simp [List.take_set_of_le, List.drop_set_of_lt]
      · have e2 : decide (r[i] ≤ 122) = false := by simpa using h2
        rw [e2, cond_false, next]
        have e3 : upI r[i] = r[i] := by unfold upI; rw [if_neg (fun h => h2 h.2)]
        rw [e3, List.append_assoc]; rfl
    · have e1 : decide (r[i] ≥ 97) = false := by simpa using h1
      rw [e1, cond_false, next]
      have e3 : upI r[i] = r[i] := by unfold upI; rw [if_neg (fun h => h1 h.1)]
      rw [e3, List.append_assoc]; rfl
theorem c_octets_Upper_val (s : List UInt8) (hs : s.length ≤ 1073741824) : c_octets_Upper s = some (upS s) := by
  rw [c_octets_Upper_eq, Zj1_eq, c_octets_turned_eq]
  simp only
  rw [Zt_eq]
  have hl : (bytesOf s).length = s.length := by simp [bytesOf]
  have := up_turned s (bytesOf s).length 0 (bytesOf s) (by omega) (by omega)
  rw [show ((0 : Nat) : Int) = (0 : Int) from rfl] at this
  rw [this]
  simp [strOf, bytesOf, upS, upB, byteI, Function.comp_def]
theorem upI_range {x : Int} (h : 0 ≤ x ∧ x ≤ 255) : 0 ≤ upI x ∧ upI x ≤ 255 := by
  rcases upI_cases x with c | c <;> omega
theorem byteI_upB (b : UInt8) : byteI (upB b) = upI (byteI b) := by
  have := upI_range (byteI_lt b)
  exact byteI_ofInt this.1 this.2
theorem bat_up (s : List UInt8) (k : Nat) : bat (upS s) k = upI (bat s k) := by
  unfold bat upS
  rw [List.getD_eq_getElem?_getD, List.getD_eq_getElem?_getD, List.getElem?_map]
  cases s[k]? with
  | none => rfl
  | some b => exact byteI_upB b
theorem upS_len (s : List UInt8) : (upS s).length = s.length := List.length_map ..
theorem ut1_up (s : List UInt8) (k : Nat) : ut1 (upS s) k = ut1 s k := by
  unfold ut1
  rw [bat_up]
  rcases upI_cases (bat s k) with c | c
  · rw [decide_eq_true (by omega), decide_eq_true (by omega)]
  · rw [c.2]
theorem up_same {x : Int} (h : 128 ≤ x) : upI x = x := by
  rcases upI_cases x with c | c <;> omega
theorem ut2_up (s : List UInt8) (k : Nat) : ut2 (upS s) k = ut2 s k := by
  unfold ut2 c2
  rw [upS_len, bat_up, bat_up]
  by_cases h : 128 ≤ bat s k ∧ 128 ≤ bat s (k + 1)
  · rw [up_same h.1, up_same h.2]
  · have a := upI_cases (bat s k)
    have b := upI_cases (bat s (k + 1))
    rw [decide_eq_false (by omega), decide_eq_false (by omega)]
theorem ut3_up (s : List UInt8) (k : Nat) : ut3 (upS s) k = ut3 s k := by
  unfold ut3 c3
  rw [upS_len, bat_up, bat_up, bat_up]
  by_cases h : 128 ≤ bat s k ∧ 128 ≤ bat s (k + 1) ∧ 128 ≤ bat s (k + 2)
  · rw [up_same h.1, up_same h.2.1, up_same h.2.2]
  · have a := upI_cases (bat s k)
    have b := upI_cases (bat s (k + 1))
    have c := upI_cases (bat s (k + 2))
    rw [decide_eq_false (by omega), decide_eq_false (by omega), Bool.false_and, Bool.false_and]
theorem ut4_up (s : List UInt8) (k : Nat) : ut4 (upS s) k = ut4 s k := by
  unfold ut4 c4
  rw [upS_len, bat_up, bat_up, bat_up, bat_up]
  by_cases h : 128 ≤ bat s k ∧ 128 ≤ bat s (k + 1) ∧ 128 ≤ bat s (k + 2) ∧ 128 ≤ bat s (k + 3)
  · rw [up_same h.1, up_same h.2.1, up_same h.2.2.1, up_same h.2.2.2]
  · have a := upI_cases (bat s k)
    have b := upI_cases (bat s (k + 1))
    have c := upI_cases (bat s (k + 2))
    have d := upI_cases (bat s (k + 3))
    rw [decide_eq_false (by omega), decide_eq_false (by omega), Bool.false_and, Bool.false_and]
theorem runeAt_up (s : List UInt8) (k : Nat) : runeAt (upS s) k = (upI (runeAt s k).1, (runeAt s k).2) := by
  unfold runeAt
  rw [ut1_up, ut2_up, ut3_up, ut4_up]
  by_cases q1 : ut1 s k = true
  · rw [if_pos q1, if_pos q1, bat_up]
  rw [if_neg q1, if_neg q1]
  by_cases q2 : ut2 s k = true
  · rw [if_pos q2, if_pos q2]
    have h := of_decide_eq_true q2
    have e : c2 (upS s) k = c2 s k := by unfold c2; rw [bat_up, bat_up, up_same (by omega), up_same (by omega)]
    rw [e, up_same h.2.2.2]
  rw [if_neg q2, if_neg q2]
  by_cases q3 : ut3 s k = true
  · rw [if_pos q3, if_pos q3]
    unfold ut3 at q3
    rw [Bool.and_eq_true] at q3
    have h := of_decide_eq_true q3.1
    have e : c3 (upS s) k = c3 s k := by unfold c3; rw [bat_up, bat_up, bat_up, up_same (by omega), up_same (by omega), up_same (by omega)]
    rw [e, up_same (by omega)]
  rw [if_neg q3, if_neg q3]
  by_cases q4 : ut4 s k = true
  · rw [if_pos q4, if_pos q4]
    unfold ut4 at q4
    rw [Bool.and_eq_true] at q4
    have h := of_decide_eq_true q4.1
    have e : c4 (upS s) k = c4 s k := by unfold c4; rw [bat_up, bat_up, bat_up, bat_up, up_same (by omega), up_same (by omega), up_same (by omega), up_same (by omega)]
    rw [e, up_same (by omega)]
  rw [if_neg q4, if_neg q4, up_same (by omega)]
theorem wrong_high {s : List UInt8} {k : Nat} (h : (runeAt s k).2.2 = true) : 128 ≤ bat s k := by
  by_cases q : bat s k < 128
  · rw [runeAt_low q] at h; cases h
  · omega
end Go.Abs
namespace Go.Abs
set_option autoImplicit false

theorem secI_lo (b : Int) (h : 3 ≤ (secI b).2.2) : 128 ≤ (secI b).1 ∧ 128 ≤ b := by
  revert h
  unfold secI
  repeat' split
  all_goals (intro h; dsimp only at h ⊢; omega)
theorem contB_up (x : Int) : contB (upI x) = contB x := by
  unfold contB
  have := upI_cases x
  by_cases h : 128 ≤ x ∧ x ≤ 191
  · rw [up_same h.1]
  · rw [decide_eq_false (by omega), decide_eq_false h]
theorem webW_up (s : List UInt8) (k : Nat) (hb : 128 ≤ bat s k) : webW (upS s) k = webW s k := by
  unfold webW
  rw [upS_len, bat_up, up_same hb, bat_up, bat_up, contB_up]
  have e : (k + 1 < s.length ∧ 3 ≤ (secI (bat s k)).2.2 ∧ (secI (bat s k)).1 ≤ upI (bat s (k + 1)) ∧ upI (bat s (k + 1)) ≤ (secI (bat s k)).2.1) ↔ (k + 1 < s.length ∧ 3 ≤ (secI (bat s k)).2.2 ∧ (secI (bat s k)).1 ≤ bat s (k + 1) ∧ bat s (k + 1) ≤ (secI (bat s k)).2.1) := by
    have c := upI_cases (bat s (k + 1))
    constructor
    · rintro ⟨h1, h2, h3, h4⟩
      have := (secI_lo _ h2).1
      exact ⟨h1, h2, by omega, by omega⟩
    · rintro ⟨h1, h2, h3, h4⟩
      have := (secI_lo _ h2).1
      exact ⟨h1, h2, by omega, by omega⟩
  simp only [e]
theorem wwd_up (s : List UInt8) (k : Nat) : wwd (upS s) k = wwd s k := by
  unfold wwd wd
  rw [runeAt_up]
  dsimp only
  by_cases h : (runeAt s k).2.2 = true
  · rw [if_pos h, if_pos h, webW_up s k (wrong_high h)]
  · rw [if_neg h, if_neg h]
theorem wpcs_up (s : List UInt8) : ∀ (n k : Nat), (wpcs (upS s) n k).map (·.2.1) = ((wpcs s n k).map (·.2.1)).map upI
  | 0, _ => rfl
  | n + 1, k => by
    rw [wpcs, wpcs, upS_len, wwd_up]
    split
    · rw [List.map_cons, List.map_cons, List.map_cons, wpcs_up s n, runeAt_up]
    · rfl
theorem webRunes_up (s : List UInt8) : webRunes (upS s) = (webRunes s).map upI := by
  unfold webRunes webOf
  rw [upS_len]; exact wpcs_up s s.length 0
theorem low_up (x : Int) : lowI (upI x) = lowI x := by
  rw [lowI_spec, lowI_spec]
  rcases upI_cases x with c | c
  · rw [c.2.2, if_pos (by omega), if_neg (by omega)]; omega
  · rw [c.2]
theorem dot_up (x : Int) : dotI (upI x) = dotI x := by
  rcases upI_cases x with c | c
  · unfold dotI
    rw [c.2.2, beq_eq_false_iff_ne.2 (show x - 32 ≠ 46 by omega), beq_eq_false_iff_ne.2 (show x - 32 ≠ 12290 by omega), beq_eq_false_iff_ne.2 (show x - 32 ≠ 65294 by omega), beq_eq_false_iff_ne.2 (show x - 32 ≠ 65377 by omega),
      beq_eq_false_iff_ne.2 (show x ≠ 46 by omega), beq_eq_false_iff_ne.2 (show x ≠ 12290 by omega), beq_eq_false_iff_ne.2 (show x ≠ 65294 by omega), beq_eq_false_iff_ne.2 (show x ≠ 65377 by omega)]
  · rw [c.2]
theorem scal_up {x : Int} (h : scal x = true) : scal (upI x) = true := by
  have h := of_decide_eq_true h
  rcases upI_cases x with c | c
  · exact decide_eq_true (by omega)
  · rw [c.2]; exact decide_eq_true h
theorem dcut_map (f : Int → Int) (hf : ∀ x, dotI (f x) = dotI x) : ∀ (l cur : List Int), dcut (cur.map f) (l.map f) = (dcut cur l).map (List.map f)
  | [], cur => rfl
  | r :: l, cur => by
    rw [List.map_cons, dcut, dcut, hf]
    split
    · rw [List.map_cons]
      have := dcut_map f hf l []
      rw [List.map_nil] at this
      rw [this]
    · have := dcut_map f hf l (cur ++ [r])
      rw [List.map_append] at this
      exact this
theorem upS_mem {s : List UInt8} {b : UInt8} (h : b ∈ upS s) : ∃ c ∈ s, byteI b = upI (byteI c) := by
  obtain ⟨c, hc, rfl⟩ := List.mem_map.1 h
  exact ⟨c, hc, byteI_upB c⟩
theorem special_alike {s t : List UInt8} (h : asciiOf (decText s) = asciiOf (decText t)) : specialOf s = specialOf t := by unfold specialOf; rw [h]
theorem webFix_size (s : List UInt8) (h : s.length ≤ 10010) : (textOf (webRunes s)).length ≤ 65536 := by
  have := webFix_len s
  have e : webFix s = textOf (webRunes s) := rfl
  rw [← e]; omega
theorem parse_special (s : List UInt8) (hs : s.length ≤ 65536) (hd : s.head? ≠ some 91) : parseOf s true = specialOf s := by
  unfold parseOf
  rw [if_neg (by omega), if_neg hd, if_pos rfl]
theorem parse_upper (s : List UInt8) (hs : s.length ≤ 10000) (hp : ∀ b ∈ s, byteI b ≠ 37) (hd : s.head? ≠ some 91) : parseOf (upS s) true = parseOf s true := by
  have hp' : ∀ b ∈ upS s, byteI b ≠ 37 := by
    intro b hb
    obtain ⟨c, hc, e⟩ := upS_mem hb
    have := hp c hc
    have := upI_cases (byteI c)
    omega
  have hd' : (upS s).head? ≠ some 91 := by
    cases s with
    | nil => simp [upS]
    | cons b t =>
      intro e
      have e : upB b = 91 := by simpa [upS] using e
      have e2 := byteI_upB b
      rw [e] at e2
      have e3 : byteI 91 = 91 := rfl
      rw [e3] at e2
      have c := upI_cases (byteI b)
      have : byteI b = 91 := by omega
      exact hd (by rw [List.head?_cons, byteI_inj (show byteI b = byteI 91 from this)])
  rw [parse_special s (by omega) hd, parse_special (upS s) (by rw [upS_len]; omega) hd']
  apply special_alike
  rw [decText_noPct s hp, decText_noPct _ hp']
  show asciiOf (textOf (webRunes (upS s))) = asciiOf (textOf (webRunes s))
  have hsc := webRunes_scal s
  have h2 := webFix_size (upS s) (by rw [upS_len]; omega)
  have h1 := webFix_size s (by omega)
  rw [webRunes_up] at h2 ⊢
  have hsc' : scalL ((webRunes s).map upI) := by
    intro r hr
    obtain ⟨x, hx, rfl⟩ := List.mem_map.1 hr
    exact scal_up (hsc x hx)
  refine ascii_alike _ _ hsc' hsc ?_ (by simp) h2 h1
  have hm := dcut_map upI dot_up (webRunes s) []
  rw [List.map_nil] at hm
  rw [hm, List.map_map]
  apply List.map_congr_left
  intro x hx
  have hxs : scalL x := by
    intro r hr
    rcases dcut_mem _ _ x hx r hr with h | h
    · cases h
    · exact hsc r h.1
  have hxs' : scalL (x.map upI) := by
    intro r hr
    obtain ⟨y, hy, rfl⟩ := List.mem_map.1 hr
    exact scal_up (hxs y hy)
  show lowS (textOf (x.map upI)) = lowS (textOf x)
  rw [low_text _ hxs', low_text _ hxs, List.map_map]
  congr 1
  apply List.map_congr_left
  intro y _
  exact low_up y
end Go.Abs
