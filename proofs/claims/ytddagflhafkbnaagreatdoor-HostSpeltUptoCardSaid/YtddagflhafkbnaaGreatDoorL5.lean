/- Part L5 of the proof: see the last text of the claim. No condition of its own. -/
import Derived.Test.YtddagflhafkbnaaGreatDoorL4
set_option linter.all false
namespace Go.Abs
set_option autoImplicit false

def highAt (s : List UInt8) : Nat → Nat → Option Nat
  | 0, _ => none
  | n + 1, k => if 127 < bat s k then some k else highAt s n (k + 1)
def decodeOf (s : List UInt8) : List UInt8 × (Int × Int) := match highAt s s.length 0 with
  | some k => ([], (31, (k : Int)))
  | none => decV s (scalarsOf (s.take (lastB s s.length).toNat)).length s.length (lastB s s.length + 1).toNat 0 128 72 (scalarsOf (s.take (lastB s s.length).toNat))

theorem decode5 (s : List UInt8) (hs : s.length ≤ 1073741824) (f : Nat) (at' : Nat) (hf : s.length ≤ at' + f) (hat : at' ≤ s.length) : Zf3 s (at' : Int) 0 0 128 72 = Ze3 s (at' : Int) 0 0 128 72 [] := by
  rw [Zf3_eq, Ze3_eq]
  rfl
theorem decode_start (s : List UInt8) (hs : s.length ≤ 1073741824) : ∀ (n k : Nat), k + n = s.length → (Zb3 s (s.length : Int) (k : Int) = some (match highAt s n k with
    | some k => ([], (31, (k : Int)))
    | none => decV s (scalarsOf (s.take (lastB s s.length).toNat)).length s.length (lastB s s.length + 1).toNat 0 128 72 (scalarsOf (s.take (lastB s s.length).toNat))))
  | 0, k, h => by
    have hk : k = s.length := by omega
    subst hk
    have hl := lastB_range s s.length
    rw [Zb3_eq, lt_nat, decide_eq_false (Nat.lt_irrefl _), cond_false, c_last_val s hs, Option.bind_some, w64 (x := lastB s s.length + 1) (by omega) (by omega)]
    unfold highAt
    dsimp only
    by_cases c : lastB s s.length + 1 > 0
    · have hn : ((lastB s s.length).toNat : Int) = lastB s s.length := Int.toNat_of_nonneg (by omega)
      have hsl : (scalarsOf (s.take (lastB s s.length).toNat)).length ≤ (lastB s s.length).toNat := by
        have := scalarsOf_len (s.take (lastB s s.length).toNat)
        rw [List.length_take] at this; omega
      rw [decide_eq_true c, cond_true, w64 (by omega) (by omega), show lastB s s.length + 1 - 1 = (((lastB s s.length).toNat : Nat) : Int) from by omega, show cutOk none (some (((lastB s s.length).toNat : Nat) : Int)) s.length = true from by simp [cutOk]; omega, cond_true,
        show cutList none (some (((lastB s s.length).toNat : Nat) : Int)) s = s.take (lastB s s.length).toNat from (by show List.take (Int.toNat (((lastB s s.length).toNat : Nat) : Int)) s = _; rw [Int.toNat_natCast]), show decide ((s.take (lastB s s.length).toNat).length ≤ lim) = true from decide_eq_true (by rw [List.length_take]; simp only [lim]; omega), cond_true, runesOf_val, Zc3_eq]
      rw [show lastB s s.length + 1 = (((lastB s s.length + 1).toNat : Nat) : Int) from by omega]
      have := decode_go s (scalarsOf (s.take (lastB s s.length).toNat)).length hs s.length (lastB s s.length + 1).toNat 0 128 72 (scalarsOf (s.take (lastB s s.length).toNat)) (by omega) (by omega) (by omega) (by omega) (by omega) (by omega) (by omega) (by omega)
      rw [this]
      rw [show (((lastB s s.length + 1).toNat : Nat) : Int).toNat = (lastB s s.length + 1).toNat from by omega]
    · have he : lastB s s.length = -1 := by omega
      rw [decide_eq_false c, cond_false, Zd3_eq, he]
      have h5 := decode5 s hs s.length 0 (by omega) (by omega)
      have h4 := decode_go s 0 hs s.length 0 0 128 72 [] (by omega) (by omega) (by omega) (by omega) (by omega) (by omega) (by omega) (by simp)
      have hz : ((0 : Nat) : Int) = 0 := rfl
      rw [hz] at h5 h4
      rw [show (-1 : Int) + 1 = 0 from rfl, hz, h5, h4]
      rfl
  | n + 1, k, h => by
    have hk : k < s.length := by omega
    have hw : IntKind.i64.wrap ((k : Int) + 1) = ((k + 1 : Nat) : Int) := by rw [w64 (by omega) (by omega)]; omega
    rw [Zb3_eq, lt_nat, decide_eq_true hk, cond_true, inside_nat, decide_eq_true hk, cond_true, Int.toNat_natCast, show (((s.getD k 0).toNat : Nat) : Int) = bat s k from rfl, hw]
    unfold highAt
    by_cases c : 127 < bat s k
    · rw [show decide (bat s k > 127) = true from decide_eq_true c, cond_true, if_pos c]
    · rw [show decide (bat s k > 127) = false from decide_eq_false c, cond_false, if_neg c]
      exact decode_start s hs n (k + 1) (by omega)
theorem c_puny_decode_val (s : List UInt8) (hs : s.length ≤ 1073741824) : c_puny_decode s = some (decodeOf s) := by
  rw [c_puny_decode_eq, Za3_eq]
  exact decode_start s hs s.length 0 (by omega)
def DecodeOf (s : List UInt8) : List UInt8 × (Int × Int) := if 65536 < s.length then ([], (5, 0)) else decodeOf s
theorem c_puny_Decode_val (s : List UInt8) (hs : s.length ≤ 1073741824) : c_puny_Decode s = some (DecodeOf s) := by
  rw [c_puny_Decode_eq, Zd2_eq]
  unfold DecodeOf
  by_cases c : 65536 < s.length
  · rw [show decide ((s.length : Int) > 65536) = true from decide_eq_true (by omega), cond_true, if_pos c]
  · rw [show decide ((s.length : Int) > 65536) = false from decide_eq_false (by omega), cond_false, if_neg c, c_puny_decode_val s hs]; rfl

def azv (n : Int) : Int := (((az36.getD n.toNat 0).toNat : Nat) : Int)
def layV (bias : Int) : Nat → Int → Int → List Int
  | 0, _, _ => []
  | f + 1, q, k => if q < thr k bias then [azv q] else azv (thr k bias + (q - thr k bias) % (36 - thr k bias)) :: layV bias f ((q - thr k bias) / (36 - thr k bias)) (k + 36)
theorem layV_len (bias : Int) : ∀ (f : Nat) (q k : Int), (layV bias f q k).length ≤ f
  | 0, _, _ => by simp [layV]
  | f + 1, q, k => by
    unfold layV
    split
    · simp
    · simp only [List.length_cons]; have := layV_len bias f ((q - thr k bias) / (36 - thr k bias)) (k + 36); omega
theorem in36 (n : Int) (h0 : 0 ≤ n) (h1 : n < 36) : inside n az36.length = true := by
  unfold inside; rw [decide_eq_true h0, decide_eq_true (by simp [az36]; omega)]; rfl
def lid10 : Nat → Int
  | 0 => 0
  | n + 1 => 10 * lid10 n + 9
theorem lay_go (bias : Int) (hb : 0 ≤ bias ∧ bias ≤ 4096) (f : Nat) : ∀ (q k : Int) (r : List Int), 0 ≤ q → q ≤ lid10 f → q ≤ 1099511627776 → 0 ≤ k → k ≤ 1000000 - 36 * (f : Int) → r.length + f ≤ 4294967000 →
    Zn3 q bias k r = some (r ++ layV bias (f + 1) q k) := by
  induction f with
  | zero =>
    intro q k r h0 h1 _ hk0 hk1 hr
    have ht := thr_range k bias
    have h1 : q ≤ 0 := h1
    rw [Zn3_eq, c_puny_threshold_val k bias ⟨hk0, by omega⟩ hb, Option.bind_some]
    unfold layV
    rw [decide_eq_true (by omega : q < thr k bias), cond_true, if_pos (by omega)]
    rw [show ([(97 : UInt8), (98 : UInt8), (99 : UInt8), (100 : UInt8), (101 : UInt8), (102 : UInt8), (103 : UInt8), (104 : UInt8), (105 : UInt8), (106 : UInt8), (107 : UInt8), (108 : UInt8), (109 : UInt8), (110 : UInt8), (111 : UInt8), (112 : UInt8), (113 : UInt8), (114 : UInt8), (115 : UInt8), (116 : UInt8), (117 : UInt8), (118 : UInt8), (119 : UInt8), (120 : UInt8), (121 : UInt8), (122 : UInt8), (48 : UInt8), (49 : UInt8), (50 : UInt8), (51 : UInt8), (52 : UInt8), (53 : UInt8), (54 : UInt8), (55 : UInt8), (56 : UInt8), (57 : UInt8)] : List UInt8) = az36 from rfl, in36 q h0 (by omega), cond_true]
    rw [show decide (r.length + [(((az36.getD q.toNat 0).toNat : Nat) : Int)].length ≤ lim) = true from decide_eq_true (by simp [lim]; omega), cond_true]; rfl
  | succ f ih =>
    intro q k r h0 h1 hb1 hk0 hk1 hr
    have ht := thr_range k bias
    have h1 : q ≤ 10 * lid10 f + 9 := h1
    rw [Zn3_eq, c_puny_threshold_val k bias ⟨hk0, by omega⟩ hb, Option.bind_some]
    rw [show ([(97 : UInt8), (98 : UInt8), (99 : UInt8), (100 : UInt8), (101 : UInt8), (102 : UInt8), (103 : UInt8), (104 : UInt8), (105 : UInt8), (106 : UInt8), (107 : UInt8), (108 : UInt8), (109 : UInt8), (110 : UInt8), (111 : UInt8), (112 : UInt8), (113 : UInt8), (114 : UInt8), (115 : UInt8), (116 : UInt8), (117 : UInt8), (118 : UInt8), (119 : UInt8), (120 : UInt8), (121 : UInt8), (122 : UInt8), (48 : UInt8), (49 : UInt8), (50 : UInt8), (51 : UInt8), (52 : UInt8), (53 : UInt8), (54 : UInt8), (55 : UInt8), (56 : UInt8), (57 : UInt8)] : List UInt8) = az36 from rfl]
    rw [layV]
    generalize thr k bias = t at ht ⊢
    by_cases c : q < t
    · rw [decide_eq_true c, cond_true, if_pos c, in36 q h0 (by omega), cond_true, show decide (r.length + [(((az36.getD q.toNat 0).toNat : Nat) : Int)].length ≤ lim) = true from decide_eq_true (by simp [lim]; omega), cond_true]; rfl
    · have m0 : 0 ≤ (q - t) % (36 - t) := Int.emod_nonneg _ (by omega)
      have m1 : (q - t) % (36 - t) < 36 - t := Int.emod_lt_of_pos _ (by omega)
      have d0 : 0 ≤ (q - t) / (36 - t) := Int.ediv_nonneg (by omega) (by omega)
      have d1 : (q - t) / (36 - t) ≤ (q - t) / 10 := by
        apply Int.le_ediv_of_mul_le (by omega)
        have := Int.ediv_mul_le (q - t) (b := 36 - t) (by omega)
        have h2 : (q - t) / (36 - t) * 10 ≤ (q - t) / (36 - t) * (36 - t) := Int.mul_le_mul_of_nonneg_left (by omega) d0
        omega
      rw [decide_eq_false c, cond_false, if_neg c, w64 (x := 36 - t) (by omega) (by omega), show (36 - t != 0) = true from bne_iff_ne.2 (by omega), cond_true, w64 (x := q - t) (by omega) (by omega), Int.tmod_eq_emod_of_nonneg (by omega), Int.tdiv_eq_ediv_of_nonneg (by omega),
        w64 (x := t + (q - t) % (36 - t)) (by omega) (by omega), w64 (x := (q - t) / (36 - t)) (by omega) (by omega), w64 (x := k + 36) (by omega) (by omega), in36 _ (by omega) (by omega), cond_true,
        show decide (r.length + [(((az36.getD (t + (q - t) % (36 - t)).toNat 0).toNat : Nat) : Int)].length ≤ lim) = true from decide_eq_true (by simp [lim]; omega), cond_true, cond_true]
      rw [ih _ _ _ d0 (by omega) (by omega) (by omega) (by omega) (by simp; omega), List.append_assoc]
      rfl
theorem lid10_13 : 1099511627776 ≤ lid10 13 := by decide
def layOf (q bias : Int) : List Int := layV bias 14 q 36
theorem c_puny_lay_val (r : List Int) (q bias : Int) (h0 : 0 ≤ q) (h1 : q ≤ 1099511627776) (hb : 0 ≤ bias ∧ bias ≤ 4096) (hr : r.length ≤ 4294966000) : c_puny_lay (r, q, bias) = some (r ++ layOf q bias) := by
  have := lid10_13
  rw [c_puny_lay_eq, Zm3_eq]
  exact lay_go bias hb 13 q 36 r h0 (by omega) h1 (by omega) (by omega) (by omega)
end Go.Abs
namespace Go.Abs
set_option autoImplicit false

def minGo (n : Int) : Int → List Int → Int
  | m, [] => m
  | m, r :: l => minGo n (if n ≤ r ∧ r < m then r else m) l
structure EncS where
  told : Nat
  bias : Int
  delta : Int
  out : List Int
def innerV (n : Int) (plain : Nat) : List Int → EncS → EncS
  | [], x => x
  | r :: l, x =>
    if r = n then innerV n plain l ⟨x.told + 1, adaptV x.delta ((x.told + 1 : Nat) : Int) (((x.told : Nat) : Int) == ((plain : Nat) : Int)), 0, x.out ++ layOf x.delta x.bias⟩
    else if r < n then innerV n plain l ⟨x.told, x.bias, x.delta + 1, x.out⟩
    else innerV n plain l x
def outerV (l : List Int) (plain : Nat) : Nat → Int → EncS → List Int
  | 0, _, x => x.out
  | f + 1, n, x =>
    if l.length ≤ x.told then x.out
    else outerV l plain f (minGo n 1114112 l + 1) ⟨(innerV (minGo n 1114112 l) plain l ⟨x.told, x.bias, x.delta + (minGo n 1114112 l - n) * ((x.told + 1 : Nat) : Int), x.out⟩).told,
      (innerV (minGo n 1114112 l) plain l ⟨x.told, x.bias, x.delta + (minGo n 1114112 l - n) * ((x.told + 1 : Nat) : Int), x.out⟩).bias,
      (innerV (minGo n 1114112 l) plain l ⟨x.told, x.bias, x.delta + (minGo n 1114112 l - n) * ((x.told + 1 : Nat) : Int), x.out⟩).delta + 1,
      (innerV (minGo n 1114112 l) plain l ⟨x.told, x.bias, x.delta + (minGo n 1114112 l - n) * ((x.told + 1 : Nat) : Int), x.out⟩).out⟩

theorem innerV_told (n : Int) (plain : Nat) : ∀ (l : List Int) (x : EncS), (innerV n plain l x).told = x.told + l.countP (fun r => r == n)
  | [], x => rfl
  | r :: l, x => by
    unfold innerV
    by_cases c : r = n
    · rw [if_pos c, innerV_told n plain l, List.countP_cons]
      have e : (r == n) = true := beq_iff_eq.2 c
      simp only [e, if_true]; omega
    · have e : (r == n) = false := beq_eq_false_iff_ne.2 c
      rw [if_neg c]
      simp only [List.countP_cons, e]
      split
      · rw [innerV_told n plain l]; rfl
      · rw [innerV_told n plain l]; rfl
def Fine (x : EncS) : Prop := 0 ≤ x.delta ∧ (0 ≤ x.bias ∧ x.bias ≤ 4096)
theorem innerV_fine (n : Int) (plain : Nat) : ∀ (l : List Int) (x : EncS), Fine x → Fine (innerV n plain l x) ∧ (innerV n plain l x).delta ≤ x.delta + l.length ∧ ((∃ r ∈ l, r = n) → (innerV n plain l x).delta ≤ l.length) ∧ (innerV n plain l x).out.length + 14 * x.told ≤ x.out.length + 14 * (innerV n plain l x).told
  | [], x, h => by
    refine ⟨h, ?_, ?_, ?_⟩
    · simp [innerV]
    · rintro ⟨r, hr, _⟩; cases hr
    · unfold innerV; omega
  | r :: l, x, h => by
    unfold innerV
    by_cases c : r = n
    · rw [if_pos c]
      have hb := adaptV_range x.delta ((x.told + 1 : Nat) : Int) (((x.told : Nat) : Int) == ((plain : Nat) : Int)) h.1 (by omega)
      obtain ⟨h1, h2, h3, h4⟩ := innerV_fine n plain l ⟨x.told + 1, adaptV x.delta ((x.told + 1 : Nat) : Int) (((x.told : Nat) : Int) == ((plain : Nat) : Int)), 0, x.out ++ layOf x.delta x.bias⟩ ⟨Int.le_refl _, hb⟩
      have hl := layV_len x.bias 14 x.delta 36
      have hd := h.1
      refine ⟨h1, ?_, fun _ => ?_, ?_⟩
      · dsimp only at h2; simp only [List.length_cons]; omega
      · dsimp only at h2; simp only [List.length_cons]; omega
      · dsimp only at h4; rw [List.length_append] at h4; unfold layOf at h4; unfold layOf; omega
    · rw [if_neg c]
      by_cases d : r < n
      · rw [if_pos d]
        obtain ⟨h1, h2, h3, h4⟩ := innerV_fine n plain l ⟨x.told, x.bias, x.delta + 1, x.out⟩ ⟨by have := h.1; dsimp only; omega, h.2⟩
        refine ⟨h1, ?_, fun ⟨y, hy, e⟩ => ?_, h4⟩
        · dsimp only at h2; simp only [List.length_cons]; omega
        · rcases List.mem_cons.1 hy with rfl | hy
          · exact absurd e c
          · have := h3 ⟨y, hy, e⟩; simp only [List.length_cons]; omega
      · rw [if_neg d]
        obtain ⟨h1, h2, h3, h4⟩ := innerV_fine n plain l x h
        refine ⟨h1, ?_, fun ⟨y, hy, e⟩ => ?_, h4⟩
        · simp only [List.length_cons]; omega
        · rcases List.mem_cons.1 hy with rfl | hy
          · exact absurd e c
          · have := h3 ⟨y, hy, e⟩; simp only [List.length_cons]; omega

theorem minGo_spec (n : Int) : ∀ (l : List Int) (m : Int), minGo n m l ≤ m ∧ (minGo n m l = m ∨ (minGo n m l ∈ l ∧ n ≤ minGo n m l)) ∧ ∀ r ∈ l, n ≤ r → minGo n m l ≤ r
  | [], m => ⟨Int.le_refl _, .inl rfl, fun r hr => by cases hr⟩
  | r :: l, m => by
    unfold minGo
    obtain ⟨h1, h2, h3⟩ := minGo_spec n l (if n ≤ r ∧ r < m then r else m)
    by_cases c : n ≤ r ∧ r < m
    · rw [if_pos c] at h1 h2 h3 ⊢
      refine ⟨by omega, ?_, fun y hy hn => ?_⟩
      · rcases h2 with h2 | h2
        · rw [h2]; exact .inr ⟨by simp, c.1⟩
        · exact .inr ⟨List.mem_cons_of_mem _ h2.1, h2.2⟩
      · rcases List.mem_cons.1 hy with rfl | hy
        · exact h1
        · exact h3 y hy hn
    · rw [if_neg c] at h1 h2 h3 ⊢
      refine ⟨h1, ?_, fun y hy hn => ?_⟩
      · rcases h2 with h2 | h2
        · exact .inl h2
        · exact .inr ⟨List.mem_cons_of_mem _ h2.1, h2.2⟩
      · rcases List.mem_cons.1 hy with rfl | hy
        · omega
        · exact h3 y hy hn
theorem count_lt_split (l : List Int) (n m : Int) (hnm : n ≤ m) (h : ∀ r ∈ l, n ≤ r → m ≤ r) : l.countP (fun r => decide (r < m + 1)) = l.countP (fun r => decide (r < n)) + l.countP (fun r => r == m) := by
  induction l with
  | nil => rfl
  | cons r l ih =>
    have ih := ih (fun y hy => h y (List.mem_cons_of_mem _ hy))
    have hr := h r (by simp)
    simp only [List.countP_cons, ih]
    by_cases a : r < n
    · have e1 : decide (r < m + 1) = true := decide_eq_true (by omega)
      have e2 : decide (r < n) = true := decide_eq_true a
      have e3 : (r == m) = false := beq_eq_false_iff_ne.2 (by omega)
      simp only [e1, e2, e3, if_true, Bool.false_eq_true, if_false]; omega
    · have := hr (by omega)
      have e2 : decide (r < n) = false := decide_eq_false a
      by_cases b : r = m
      · have e1 : decide (r < m + 1) = true := decide_eq_true (by omega)
        have e3 : (r == m) = true := beq_iff_eq.2 b
        simp only [e1, e2, e3, if_true, Bool.false_eq_true, if_false]; omega
      · have e1 : decide (r < m + 1) = false := decide_eq_false (by omega)
        have e3 : (r == m) = false := beq_eq_false_iff_ne.2 b
        simp only [e1, e2, e3, Bool.false_eq_true, if_false]; omega
theorem count_some (l : List Int) (n : Int) (h : l.countP (fun r => decide (r < n)) < l.length) : ∃ r ∈ l, n ≤ r := by
  induction l with
  | nil => simp at h
  | cons r l ih =>
    by_cases a : r < n
    · rw [List.countP_cons, if_pos (by simpa using a), List.length_cons] at h
      obtain ⟨y, hy, e⟩ := ih (by omega)
      exact ⟨y, List.mem_cons_of_mem _ hy, e⟩
    · exact ⟨r, by simp, by omega⟩
theorem min_next (l : List Int) (n : Int) (hl : ∀ r ∈ l, r < 1114112) (h : l.countP (fun r => decide (r < n)) < l.length) :
    n ≤ minGo n 1114112 l ∧ minGo n 1114112 l < 1114112 ∧ minGo n 1114112 l ∈ l ∧ l.countP (fun r => decide (r < minGo n 1114112 l + 1)) = l.countP (fun r => decide (r < n)) + l.countP (fun r => r == minGo n 1114112 l) ∧ 1 ≤ l.countP (fun r => r == minGo n 1114112 l) := by
  obtain ⟨h1, h2, h3⟩ := minGo_spec n l 1114112
  obtain ⟨y, hy, hn⟩ := count_some l n h
  have hm := h3 y hy hn
  have hy' := hl y hy
  rcases h2 with h2 | ⟨h2, h4⟩
  · omega
  · refine ⟨h4, by omega, h2, count_lt_split l n _ h4 h3, ?_⟩
    exact List.countP_pos_iff.2 ⟨_, h2, by simp⟩
end Go.Abs
namespace Go.Abs
set_option autoImplicit false

def small (l : List Int) : List Int := l.filter fun r => decide (r < 128)
theorem min_loop (s : List UInt8) (told plain : Nat) (n bias delta : Int) (l out : List Int) (hl : l.length ≤ 1048576) : ∀ (k i : Nat) (m : Int), i + k = l.length →
    Z03 s (told : Int) (plain : Int) n bias delta m (l.length : Int) (i : Int) l out =
      Z13 s (told : Int) (plain : Int) (minGo n m (l.drop i)) bias (IntKind.i64.wrap (delta + (IntKind.i64.wrap ((IntKind.i64.wrap (IntKind.i32.wrap (minGo n m (l.drop i) - n))) * (IntKind.i64.wrap ((told : Int) + 1)))))) (l.length : Int) 0 l out
  | 0, i, m, h => by
    have : i = l.length := by omega
    subst this
    rw [Z03_eq, lt_nat, decide_eq_false (Nat.lt_irrefl _), cond_false, List.drop_length]; rfl
  | k + 1, i, m, h => by
    have hi : i < l.length := by omega
    have hw : IntKind.i64.wrap ((i : Int) + 1) = ((i + 1 : Nat) : Int) := by rw [w64 (by omega) (by omega)]; omega
    have hg : List.getD l (Int.toNat (i : Int)) (Ty.zero (.int .i32)) = l[i] := by
      rw [Int.toNat_natCast, List.getD_eq_getElem?_getD, List.getElem?_eq_getElem hi]; rfl
    rw [Z03_eq, lt_nat, decide_eq_true hi, cond_true, inside_nat, decide_eq_true hi, cond_true, hg, hw, List.drop_eq_getElem_cons hi, minGo]
    by_cases a : n ≤ l[i]
    · rw [show decide (l[i] ≥ n) = true from decide_eq_true a, cond_true]
      by_cases b : l[i] < m
      · rw [decide_eq_true b, cond_true, if_pos ⟨a, b⟩, min_loop s told plain n bias delta l out hl k (i + 1) _ (by omega)]
      · rw [decide_eq_false b, cond_false, if_neg (fun h => b h.2), min_loop s told plain n bias delta l out hl k (i + 1) _ (by omega)]
    · rw [show decide (l[i] ≥ n) = false from decide_eq_false a, cond_false, if_neg (fun h => a h.1), min_loop s told plain n bias delta l out hl k (i + 1) _ (by omega)]

theorem inner_loop (s : List UInt8) (plain : Nat) (n : Int) (l : List Int) (hl : l.length ≤ 65536) (hn : 0 ≤ n ∧ n ≤ 1114112) : ∀ (k i : Nat) (x : EncS), i + k = l.length → Fine x → x.delta + k ≤ 1099511627776 → x.told + k ≤ 200000 → x.out.length + 14 * k ≤ 100000000 →
    Z13 s (x.told : Int) (plain : Int) n x.bias x.delta (l.length : Int) (i : Int) l x.out =
      Zz2 s ((innerV n plain (l.drop i) x).told : Int) (plain : Int) (IntKind.i32.wrap (n + 1)) (innerV n plain (l.drop i) x).bias (IntKind.i64.wrap ((innerV n plain (l.drop i) x).delta + 1)) l (innerV n plain (l.drop i) x).out
  | 0, i, x, h, _, _, _, _ => by
    have : i = l.length := by omega
    subst this
    rw [Z13_eq, lt_nat, decide_eq_false (Nat.lt_irrefl _), cond_false, List.drop_length]; rfl
  | k + 1, i, x, h, hf, hd, ht, ho => by
    have hi : i < l.length := by omega
    have hw : IntKind.i64.wrap ((i : Int) + 1) = ((i + 1 : Nat) : Int) := by rw [w64 (by omega) (by omega)]; omega
    have hg : List.getD l (Int.toNat (i : Int)) (Ty.zero (.int .i32)) = l[i] := by
      rw [Int.toNat_natCast, List.getD_eq_getElem?_getD, List.getElem?_eq_getElem hi]; rfl
    obtain ⟨hd0, hb⟩ := hf
    rw [Z13_eq, lt_nat, decide_eq_true hi, cond_true, inside_nat, decide_eq_true hi, cond_true, hg, List.drop_eq_getElem_cons hi, innerV]
    by_cases a : l[i] < n
    · rw [decide_eq_true a, cond_true, if_neg (by omega), if_pos a, w64 (x := x.delta + 1) (by omega) (by omega), Z23_eq, show (l[i] == n) = false from beq_eq_false_iff_ne.2 (by omega), cond_false, hw]
      exact inner_loop s plain n l hl hn k (i + 1) ⟨x.told, x.bias, x.delta + 1, x.out⟩ (by omega) ⟨by dsimp only; omega, hb⟩ (by dsimp only; omega) (by dsimp only; omega) (by dsimp only; omega)
    · rw [decide_eq_false a, cond_false, Z23_eq]
      by_cases b : l[i] = n
      · have hlay := layV_len x.bias 14 x.delta 36
        have had := adaptV_range x.delta ((x.told + 1 : Nat) : Int) (((x.told : Nat) : Int) == ((plain : Nat) : Int)) hd0 (by omega)
        have hw2 : IntKind.i64.wrap ((x.told : Int) + 1) = ((x.told + 1 : Nat) : Int) := by rw [w64 (by omega) (by omega)]; omega
        rw [show (l[i] == n) = true from beq_iff_eq.2 b, cond_true, if_pos b, c_puny_lay_val _ _ _ hd0 (by omega) hb (by omega), Option.bind_some, hw2, c_puny_adapt_val _ _ _ hd0 (by omega) (by omega) (by omega), Option.bind_some, hw]
        exact inner_loop s plain n l hl hn k (i + 1) ⟨x.told + 1, adaptV x.delta ((x.told + 1 : Nat) : Int) (((x.told : Nat) : Int) == ((plain : Nat) : Int)), 0, x.out ++ layOf x.delta x.bias⟩ (by omega) ⟨Int.le_refl _, had⟩ (by dsimp only; omega) (by dsimp only; omega) (by dsimp only; rw [List.length_append]; unfold layOf; omega)
      · rw [show (l[i] == n) = false from beq_eq_false_iff_ne.2 b, cond_false, if_neg b, if_neg a, hw]
        exact inner_loop s plain n l hl hn k (i + 1) x (by omega) ⟨hd0, hb⟩ (by omega) (by omega) (by omega)

def encFin (out : List Int) : List UInt8 × Int := if (decodeOf (strOf out)).2.1 = 32 then ([], 32) else (strOf out, 0)
theorem outer_loop (s : List UInt8) (plain : Nat) (l : List Int) (hl : l.length ≤ 65536) (hr : ∀ r ∈ l, 0 ≤ r ∧ r < 1114112) (f : Nat) : ∀ (n : Int) (x : EncS), l.length ≤ x.told + f → x.told = l.countP (fun r => decide (r < n)) → Fine x → x.delta ≤ 65537 → x.out.length ≤ 65537 + 14 * x.told → 0 ≤ n → n ≤ 1114112 →
    Zz2 s (x.told : Int) (plain : Int) n x.bias x.delta l x.out = some (encFin (outerV l plain f n x)) := by
  have fin : ∀ (n : Int) (x : EncS), l.length ≤ x.told → x.out.length ≤ 65537 + 14 * x.told → x.told ≤ 65536 → Zz2 s (x.told : Int) (plain : Int) n x.bias x.delta l x.out = some (encFin x.out) := by
    intro n x h ho ht
    have hso : (strOf x.out).length = x.out.length := by unfold strOf; rw [List.length_map]
    rw [Zz2_eq, lt_nat, decide_eq_false (by omega), cond_false, c_puny_decode_val _ (by omega), Option.bind_some]
    unfold encFin
    by_cases c : (decodeOf (strOf x.out)).2.1 = 32
    · rw [show ((decodeOf (strOf x.out)).2.1 == 32) = true from beq_iff_eq.2 c, cond_true, if_pos c, c]
    · rw [show ((decodeOf (strOf x.out)).2.1 == 32) = false from beq_eq_false_iff_ne.2 c, cond_false, if_neg c]
  have cle : ∀ n : Int, l.countP (fun r => decide (r < n)) ≤ l.length := fun n => List.countP_le_length
  induction f with
  | zero =>
    intro n x h1 h2 _ _ ho _ _
    have := cle n
    exact fin n x (by omega) ho (by omega)
  | succ f ih =>
    intro n x h1 h2 hf hd ho hn0 hn1
    have hc := cle n
    unfold outerV
    by_cases c : l.length ≤ x.told
    · rw [if_pos c]; exact fin n x c ho (by omega)
    · rw [if_neg c]
      obtain ⟨m1, m2, m3, m4, m5⟩ := min_next l n (fun r h => (hr r h).2) (by omega)
      have hml := min_loop s x.told plain n x.bias x.delta l x.out (by omega) l.length 0 1114112 (by omega)
      rw [List.drop_zero] at hml
      generalize minGo n 1114112 l = m at m1 m2 m3 m4 m5 hml ⊢
      have hp := mul_le (a := m - n) (b := ((x.told + 1 : Nat) : Int)) (A := 1114112) (B := 65537) (by omega) (by omega) (by omega) (by omega)
      have hdx := hf.1
      have hw2 : IntKind.i64.wrap ((x.told : Int) + 1) = ((x.told + 1 : Nat) : Int) := by rw [w64 (by omega) (by omega)]; omega
      rw [Zz2_eq, lt_nat, decide_eq_true (by omega), cond_true]
      rw [show ((0 : Nat) : Int) = 0 from rfl] at hml
      rw [hml, w32 (by omega) (by omega), w64 (x := m - n) (by omega) (by omega), hw2, w64 (x := (m - n) * ((x.told + 1 : Nat) : Int)) (by omega) (by omega), w64 (x := x.delta + (m - n) * ((x.told + 1 : Nat) : Int)) (by omega) (by omega)]
      have hin := inner_loop s plain m l hl ⟨by omega, by omega⟩ l.length 0 ⟨x.told, x.bias, x.delta + (m - n) * ((x.told + 1 : Nat) : Int), x.out⟩ (by omega) ⟨by dsimp only; omega, hf.2⟩ (by dsimp only; omega) (by dsimp only; omega) (by dsimp only; omega)
      rw [List.drop_zero, show ((0 : Nat) : Int) = 0 from rfl] at hin
      obtain ⟨f1, f2, f3, f4⟩ := innerV_fine m plain l ⟨x.told, x.bias, x.delta + (m - n) * ((x.told + 1 : Nat) : Int), x.out⟩ ⟨by dsimp only; omega, hf.2⟩
      have f3 := f3 ⟨m, m3, rfl⟩
      have ft := innerV_told m plain l ⟨x.told, x.bias, x.delta + (m - n) * ((x.told + 1 : Nat) : Int), x.out⟩
      refine hin.trans ?_
      generalize innerV m plain l ⟨x.told, x.bias, x.delta + (m - n) * ((x.told + 1 : Nat) : Int), x.out⟩ = y at f1 f2 f3 f4 ft ⊢
      dsimp only at f4 ft
      have hd1 := f1.1
      have hcl := cle (m + 1)
      rw [w32 (by omega) (by omega), w64 (by omega) (by omega)]
      exact ih (m + 1) ⟨y.told, y.bias, y.delta + 1, y.out⟩ (by dsimp only; omega) (by dsimp only; omega) ⟨by dsimp only; omega, f1.2⟩ (by dsimp only; omega) (by dsimp only; omega) (by omega) (by omega)

theorem small_loop (s : List UInt8) (l : List Int) (hl : l.length ≤ 65536) (hr : ∀ r ∈ l, 0 ≤ r ∧ r < 1114112) : ∀ (k i : Nat) (out : List Int), i + k = l.length → out.length ≤ i →
    Zx2 s (l.length : Int) (i : Int) l out = Zy2 s ((out ++ small (l.drop i)).length : Int) ((out ++ small (l.drop i)).length : Int) l (if (out ++ small (l.drop i)).length = 0 then out ++ small (l.drop i) else (out ++ small (l.drop i)) ++ [45])
  | 0, i, out, h, ho => by
    have : i = l.length := by omega
    subst this
    rw [Zx2_eq, lt_nat, decide_eq_false (Nat.lt_irrefl _), cond_false, List.drop_length]
    rw [show out ++ small [] = out from by simp [small]]
    by_cases c : out.length = 0
    · rw [show decide ((out.length : Int) > 0) = false from decide_eq_false (by omega), cond_false, if_pos c]
    · rw [show decide ((out.length : Int) > 0) = true from decide_eq_true (by omega), cond_true, if_neg c, show decide (out.length + [(45 : Int)].length ≤ lim) = true from decide_eq_true (by simp [lim]; omega), cond_true]
  | k + 1, i, out, h, ho => by
    have hi : i < l.length := by omega
    have hw : IntKind.i64.wrap ((i : Int) + 1) = ((i + 1 : Nat) : Int) := by rw [w64 (by omega) (by omega)]; omega
    have hg : List.getD l (Int.toNat (i : Int)) (Ty.zero (.int .i32)) = l[i] := by
      rw [Int.toNat_natCast, List.getD_eq_getElem?_getD, List.getElem?_eq_getElem hi]; rfl
    have hx := hr l[i] (List.getElem_mem hi)
    have hs : small (l.drop i) = if l[i] < 128 then l[i] :: small (l.drop (i + 1)) else small (l.drop (i + 1)) := by
      unfold small
      rw [List.drop_eq_getElem_cons hi, List.filter_cons]
      by_cases a : l[i] < 128
      · rw [if_pos (decide_eq_true a), if_pos a]
      · rw [if_neg (by simpa using a), if_neg a]
    rw [Zx2_eq, lt_nat, decide_eq_true hi, cond_true, inside_nat, decide_eq_true hi, cond_true, hg, hw, hs]
    by_cases a : l[i] < 128
    · rw [decide_eq_true a, cond_true, if_pos a, w8 hx.1 (by omega), show decide (out.length + [l[i]].length ≤ lim) = true from decide_eq_true (by simp [lim]; omega), cond_true, small_loop s l hl hr k (i + 1) _ (by omega) (by simp; omega), List.append_assoc]
      rfl
    · rw [decide_eq_false a, cond_false, if_neg a, small_loop s l hl hr k (i + 1) _ (by omega) (by omega)]

def encOut (l : List Int) : List Int := outerV l (small l).length l.length 128 ⟨(small l).length, 72, 0, if (small l).length = 0 then small l else small l ++ [45]⟩
def EncodeOf (s : List UInt8) : List UInt8 × Int := if (validOf s).1 = false then ([], 21) else if 65536 < s.length then ([], 5) else encFin (encOut (scalarsOf s))
theorem scal_range {r : Int} (h : scal r = true) : 0 ≤ r ∧ r < 1114112 := by
  have := of_decide_eq_true h; omega
theorem scalars_scal (s : List UInt8) : ∀ r ∈ scalarsOf s, scal r = true := by
  have : ∀ (n k : Nat), ∀ x ∈ pcs s n k, scal x.2.1 = true := by
    intro n
    induction n with
    | zero => intro k x h; cases h
    | succ n ih =>
      intro k x h
      unfold pcs at h
      split at h
      · rcases List.mem_cons.1 h with rfl | h
        · dsimp only; exact runeAt_scal s k
        · exact ih _ x h
      · cases h
  intro r hr
  obtain ⟨x, hx, rfl⟩ := List.mem_map.1 hr
  exact this _ _ x hx
theorem small_count (l : List Int) : (small l).length = l.countP (fun r => decide (r < 128)) := by
  unfold small; rw [List.countP_eq_length_filter]
theorem c_puny_Encode_val (s : List UInt8) : c_puny_Encode s = some (EncodeOf s) := by
  rw [c_puny_Encode_eq, Zw2_eq, c_utf_Valid_val, Option.bind_some]
  unfold EncodeOf
  cases hv : (validOf s).1 with
  | false => rw [Bool.not_false, cond_true, if_pos rfl]
  | true =>
    rw [Bool.not_true, cond_false, if_neg (by simp)]
    by_cases c : 65536 < s.length
    · rw [show decide ((s.length : Int) > 65536) = true from decide_eq_true (by omega), cond_true, if_pos c]
    · rw [show decide ((s.length : Int) > 65536) = false from decide_eq_false (by omega), cond_false, if_neg c, show decide (s.length ≤ lim) = true from decide_eq_true (by simp only [lim]; omega), cond_true, runesOf_val]
      have hl := scalarsOf_len s
      have hr : ∀ r ∈ scalarsOf s, 0 ≤ r ∧ r < 1114112 := fun r h => scal_range (scalars_scal s r h)
      generalize scalarsOf s = l at hl hr ⊢
      have h1 := small_loop s l (by omega) hr l.length 0 [] (by omega) (by simp)
      rw [List.drop_zero, List.nil_append, show ((0 : Nat) : Int) = 0 from rfl] at h1
      have hsl : (small l).length ≤ l.length := by rw [small_count]; exact List.countP_le_length
      rw [h1, Zy2_eq]
      exact outer_loop s (small l).length l (by omega) hr l.length 128 ⟨(small l).length, 72, 0, if (small l).length = 0 then small l else small l ++ [45]⟩ (by dsimp only; omega) (small_count l) ⟨by dsimp only; omega, by dsimp only; omega⟩ (by dsimp only; omega) (by dsimp only; split; omega; rw [List.length_append]; simp only [List.length_cons, List.length_nil]; omega) (by omega) (by omega)
end Go.Abs
namespace Go.Abs
set_option autoImplicit false

theorem ofInt_byteI (b : UInt8) : UInt8.ofNat (byteI b).toNat = b := by
  unfold byteI; rw [Int.toNat_natCast]; exact UInt8.ofNat_toNat
theorem byteI_ofInt {x : Int} (h0 : 0 ≤ x) (h1 : x ≤ 255) : byteI (UInt8.ofNat x.toNat) = x := by
  unfold byteI
  have e : (UInt8.ofNat x.toNat).toNat = x.toNat := by rw [UInt8.toNat_ofNat']; omega
  rw [e]; omega
theorem byteI_inj {a b : UInt8} (h : byteI a = byteI b) : a = b := by
  rw [← ofInt_byteI a, h, ofInt_byteI]

def rbs (r : Int) : List UInt8 := strOf (bytesI r)
theorem rbs_length (r : Int) : (rbs r).length = (bytesI r).length := by unfold rbs strOf; rw [List.length_map]
theorem rbs_len (r : Int) : 1 ≤ (rbs r).length ∧ (rbs r).length ≤ 4 := by rw [rbs_length]; exact bytesI_le4 r

theorem runeAt1 (s : List UInt8) (k : Nat) (r : Int) (h : r < 128) (b0 : bat s k = r) : runeAt s k = (r, (1, false)) := by
  unfold runeAt
  rw [if_pos (show ut1 s k = true from decide_eq_true (by omega)), b0]
theorem not_ut1 {s : List UInt8} {k : Nat} (h : 128 ≤ bat s k) : ¬ ut1 s k = true := fun e => by
  have := of_decide_eq_true e; omega
theorem runeAt2 (s : List UInt8) (k : Nat) (r : Int) (h0 : 128 ≤ r) (h1 : r < 2048) (hk : k + 1 < s.length) (b0 : bat s k = 192 + r / 64) (b1 : bat s (k + 1) = 128 + r % 64) : runeAt s k = (r, (2, false)) := by
  have hc : c2 s k = r := by unfold c2; rw [b0, b1]; omega
  unfold runeAt
  rw [if_neg (not_ut1 (by omega)), if_pos (show ut2 s k = true from decide_eq_true (by rw [hc, b0, b1]; omega)), hc]
theorem not_ut2 {s : List UInt8} {k : Nat} (h : 224 ≤ bat s k) : ¬ ut2 s k = true := fun e => by
  have := of_decide_eq_true e; omega
theorem not_ut3 {s : List UInt8} {k : Nat} (h : 240 ≤ bat s k) : ¬ ut3 s k = true := fun e => by
  unfold ut3 at e
  rw [Bool.and_eq_true] at e
  have := of_decide_eq_true e.1; omega
theorem runeAt3 (s : List UInt8) (k : Nat) (r : Int) (hs : scal r = true) (h0 : 2048 ≤ r) (h1 : r < 65536) (hk : k + 2 < s.length) (b0 : bat s k = 224 + r / 4096) (b1 : bat s (k + 1) = 128 + r / 64 % 64) (b2 : bat s (k + 2) = 128 + r % 64) : runeAt s k = (r, (3, false)) := by
  have hc : c3 s k = r := by unfold c3; rw [b0, b1, b2]; omega
  unfold runeAt
  rw [if_neg (not_ut1 (by omega)), if_neg (not_ut2 (by omega)), if_pos (show ut3 s k = true from by unfold ut3; rw [hc, hs, Bool.and_true]; exact decide_eq_true (by rw [b0, b1, b2]; omega)), hc]
theorem runeAt4 (s : List UInt8) (k : Nat) (r : Int) (hs : scal r = true) (h0 : 65536 ≤ r) (h1 : r < 1114112) (hk : k + 3 < s.length) (b0 : bat s k = 240 + r / 262144) (b1 : bat s (k + 1) = 128 + r / 4096 % 64) (b2 : bat s (k + 2) = 128 + r / 64 % 64) (b3 : bat s (k + 3) = 128 + r % 64) : runeAt s k = (r, (4, false)) := by
  have hc : c4 s k = r := by unfold c4; rw [b0, b1, b2, b3]; omega
  unfold runeAt
  rw [if_neg (not_ut1 (by omega)), if_neg (not_ut2 (by omega)), if_neg (not_ut3 (by omega)), if_pos (show ut4 s k = true from by unfold ut4; rw [hc, hs, Bool.and_true]; exact decide_eq_true (by rw [b0, b1, b2, b3]; omega)), hc]

theorem rbs1 {r : Int} (a : r < 128) : rbs r = [UInt8.ofNat r.toNat] := by unfold rbs bytesI; rw [if_pos a]; rfl
theorem rbs2 {r : Int} (a : ¬ r < 128) (b : r < 2048) : rbs r = [UInt8.ofNat (192 + r / 64).toNat, UInt8.ofNat (128 + r % 64).toNat] := by unfold rbs bytesI; rw [if_neg a, if_pos b]; rfl
theorem rbs3 {r : Int} (a : ¬ r < 128) (b : ¬ r < 2048) (c : r < 65536) : rbs r = [UInt8.ofNat (224 + r / 4096).toNat, UInt8.ofNat (128 + r / 64 % 64).toNat, UInt8.ofNat (128 + r % 64).toNat] := by unfold rbs bytesI; rw [if_neg a, if_neg b, if_pos c]; rfl
theorem rbs4 {r : Int} (a : ¬ r < 128) (b : ¬ r < 2048) (c : ¬ r < 65536) : rbs r = [UInt8.ofNat (240 + r / 262144).toNat, UInt8.ofNat (128 + r / 4096 % 64).toNat, UInt8.ofNat (128 + r / 64 % 64).toNat, UInt8.ofNat (128 + r % 64).toNat] := by unfold rbs bytesI; rw [if_neg a, if_neg b, if_neg c]; rfl

theorem runeAt_enc (r : Int) (h : scal r = true) (t : List UInt8) : runeAt (rbs r ++ t) 0 = (r, ((((rbs r).length : Nat) : Int), false)) := by
  have hr := scal_range h
  by_cases a : r < 128
  · rw [rbs1 a]
    exact runeAt1 _ 0 r a (byteI_ofInt (by omega) (by omega))
  by_cases b : r < 2048
  · rw [rbs2 a b]
    exact runeAt2 _ 0 r (by omega) b (by simp) (byteI_ofInt (by omega) (by omega)) (byteI_ofInt (by omega) (by omega))
  by_cases c : r < 65536
  · rw [rbs3 a b c]
    exact runeAt3 _ 0 r h (by omega) c (by simp) (byteI_ofInt (by omega) (by omega)) (byteI_ofInt (by omega) (by omega)) (byteI_ofInt (by omega) (by omega))
  · rw [rbs4 a b c]
    exact runeAt4 _ 0 r h (by omega) (by omega) (by simp) (byteI_ofInt (by omega) (by omega)) (byteI_ofInt (by omega) (by omega)) (byteI_ofInt (by omega) (by omega)) (byteI_ofInt (by omega) (by omega))
theorem runeAt_encK (s : List UInt8) (k : Nat) (r : Int) (h : scal r = true) (t : List UInt8) (hk : k ≤ s.length) (e : s.drop k = rbs r ++ t) : runeAt s k = (r, ((((rbs r).length : Nat) : Int), false)) := by
  rw [← runeAt_drop s k hk, e]; exact runeAt_enc r h t

theorem drop_enc (s : List UInt8) (k : Nat) (hk : k < s.length) (h : (runeAt s k).2.2 = false) : s.drop k = rbs (runeAt s k).1 ++ s.drop (k + wd s k) := by
  have hb0 := bat_lt s k
  have hb1 := bat_lt s (k + 1)
  have hb2 := bat_lt s (k + 2)
  have hb3 := bat_lt s (k + 3)
  obtain ⟨d0, e0⟩ := drop_bat s k hk
  have f0 : s[k] = UInt8.ofNat (bat s k).toNat := by rw [← e0, ofInt_byteI]
  unfold wd
  by_cases q1 : ut1 s k = true
  · have hr : runeAt s k = (bat s k, (1, false)) := by unfold runeAt; rw [if_pos q1]
    have := of_decide_eq_true q1
    rw [hr, rbs1 this, d0, f0]; rfl
  by_cases q2 : ut2 s k = true
  · have hr : runeAt s k = (c2 s k, (2, false)) := by unfold runeAt; rw [if_neg q1, if_pos q2]
    obtain ⟨g1, g2, g3, g4⟩ := of_decide_eq_true q2
    obtain ⟨d1, e1⟩ := drop_bat s (k + 1) g1
    have f1 : s[k + 1] = UInt8.ofNat (bat s (k + 1)).toNat := by rw [← e1, ofInt_byteI]
    have hc : c2 s k < 2048 := by unfold c2; omega
    have h1 : 192 + c2 s k / 64 = bat s k := by unfold c2; omega
    have h2 : 128 + c2 s k % 64 = bat s (k + 1) := by unfold c2; omega
    rw [hr, rbs2 (by omega) hc, h1, h2, d0, d1, f0, f1]; rfl
  by_cases q3 : ut3 s k = true
  · have hr : runeAt s k = (c3 s k, (3, false)) := by unfold runeAt; rw [if_neg q1, if_neg q2, if_pos q3]
    unfold ut3 at q3
    rw [Bool.and_eq_true] at q3
    obtain ⟨g1, g2, g3, g4, g5⟩ := of_decide_eq_true q3.1
    obtain ⟨d1, e1⟩ := drop_bat s (k + 1) (by omega)
    obtain ⟨d2, e2⟩ := drop_bat s (k + 2) g1
    have f1 : s[k + 1] = UInt8.ofNat (bat s (k + 1)).toNat := by rw [← e1, ofInt_byteI]
    have f2 : s[k + 2] = UInt8.ofNat (bat s (k + 2)).toNat := by rw [← e2, ofInt_byteI]
    have hc : c3 s k < 65536 := by unfold c3; omega
    have h1 : 224 + c3 s k / 4096 = bat s k := by unfold c3; omega
    have h2 : 128 + c3 s k / 64 % 64 = bat s (k + 1) := by unfold c3; omega
    have h3 : 128 + c3 s k % 64 = bat s (k + 2) := by unfold c3; omega
    rw [hr, rbs3 (by omega) (by omega) hc, h1, h2, h3, d0, d1, d2, f0, f1, f2]; rfl
  by_cases q4 : ut4 s k = true
  · have hr : runeAt s k = (c4 s k, (4, false)) := by unfold runeAt; rw [if_neg q1, if_neg q2, if_neg q3, if_pos q4]
    unfold ut4 at q4
    rw [Bool.and_eq_true] at q4
    obtain ⟨g1, g2, g3, g4, g5, g6⟩ := of_decide_eq_true q4.1
    obtain ⟨d1, e1⟩ := drop_bat s (k + 1) (by omega)
    obtain ⟨d2, e2⟩ := drop_bat s (k + 2) (by omega)
    obtain ⟨d3, e3⟩ := drop_bat s (k + 3) g1
    have f1 : s[k + 1] = UInt8.ofNat (bat s (k + 1)).toNat := by rw [← e1, ofInt_byteI]
    have f2 : s[k + 2] = UInt8.ofNat (bat s (k + 2)).toNat := by rw [← e2, ofInt_byteI]
    have f3 : s[k + 3] = UInt8.ofNat (bat s (k + 3)).toNat := by rw [← e3, ofInt_byteI]
    have h1 : 240 + c4 s k / 262144 = bat s k := by unfold c4; omega
    have h2 : 128 + c4 s k / 4096 % 64 = bat s (k + 1) := by unfold c4; omega
    have h3 : 128 + c4 s k / 64 % 64 = bat s (k + 2) := by unfold c4; omega
    have h4 : 128 + c4 s k % 64 = bat s (k + 3) := by unfold c4; omega
    rw [hr, rbs4 (by omega) (by omega) (by omega), h1, h2, h3, h4, d0, d1, d2, d3, f0, f1, f2, f3]; rfl
  · exfalso
    have hr : runeAt s k = (65533, (1, true)) := by unfold runeAt; rw [if_neg q1, if_neg q2, if_neg q3, if_neg q4]
    rw [hr] at h; cases h
end Go.Abs
namespace Go.Abs
set_option autoImplicit false

def pvs (s : List UInt8) (n k : Nat) : List Int := (pcs s n k).map (·.2.1)
theorem textOf_cons (r : Int) (l : List Int) : textOf (r :: l) = rbs r ++ textOf l := by
  unfold textOf rbs strOf runesB; rw [List.flatMap_cons, List.map_append]
theorem textOf_nil : textOf [] = [] := rfl
theorem textOf_append : ∀ a b : List Int, textOf (a ++ b) = textOf a ++ textOf b
  | [], b => rfl
  | r :: a, b => by rw [List.cons_append, textOf_cons, textOf_cons, textOf_append a b, List.append_assoc]
theorem textOf_len : ∀ l : List Int, (textOf l).length ≤ 4 * l.length
  | [] => by simp [textOf_nil]
  | r :: l => by
    have := textOf_len l
    have := rbs_len r
    rw [textOf_cons, List.length_append, List.length_cons]; omega
theorem textOf_len_ge : ∀ l : List Int, l.length ≤ (textOf l).length
  | [] => by simp [textOf_nil]
  | r :: l => by
    have := textOf_len_ge l
    have := rbs_len r
    rw [textOf_cons, List.length_append, List.length_cons]; omega
def scalL (l : List Int) : Prop := ∀ r ∈ l, scal r = true
theorem scalL_tail {r : Int} {l : List Int} (h : scalL (r :: l)) : scal r = true ∧ scalL l := ⟨h r (by simp), fun x hx => h x (by simp [hx])⟩
theorem scalL_scalars (s : List UInt8) : scalL (scalarsOf s) := scalars_scal s

theorem pvs_text : ∀ (l : List Int) (s : List UInt8) (n k : Nat), scalL l → s.length ≤ k + n → k ≤ s.length → s.drop k = textOf l → pvs s n k = l ∧ firstBad (pcs s n k) = none
  | [], s, n, k, hl, hn, hk, e => by
    have : k = s.length := by
      have := congrArg List.length e
      rw [List.length_drop, textOf_nil, List.length_nil] at this; omega
    subst this
    unfold pvs
    cases n with
    | zero => exact ⟨rfl, rfl⟩
    | succ n => rw [pcs, if_neg (Nat.lt_irrefl _)]; exact ⟨rfl, rfl⟩
  | r :: l, s, n, k, hl, hn, hk, e => by
    obtain ⟨h1, h2⟩ := scalL_tail hl
    have hb := rbs_len r
    rw [textOf_cons] at e
    have hlen := congrArg List.length e
    rw [List.length_drop, List.length_append] at hlen
    have hr := runeAt_encK s k r h1 _ hk e
    have hw : wd s k = (rbs r).length := by unfold wd; rw [hr]; simp
    have e2 : s.drop (k + (rbs r).length) = textOf l := by rw [← List.drop_drop, e, List.drop_left]
    cases n with
    | zero => omega
    | succ n =>
      obtain ⟨i1, i2⟩ := pvs_text l s n (k + (rbs r).length) h2 (by omega) (by omega) e2
      unfold pvs at i1 ⊢
      rw [pcs, if_pos (by omega), hw, hr, List.map_cons, i1]
      exact ⟨rfl, i2⟩
theorem scalars_text (l : List Int) (h : scalL l) : scalarsOf (textOf l) = l := (pvs_text l (textOf l) _ 0 h (by omega) (by omega) rfl).1
theorem valid_text (l : List Int) (h : scalL l) : (validOf (textOf l)).1 = true := by
  unfold validOf piecesOf
  rw [(pvs_text l (textOf l) _ 0 h (by omega) (by omega) rfl).2]
theorem text_go (s : List UInt8) : ∀ (n k : Nat), s.length ≤ k + n → k ≤ s.length → firstBad (pcs s n k) = none → textOf (pvs s n k) = s.drop k
  | 0, k, hn, hk, h => by
    rw [List.drop_eq_nil_of_le (by omega)]; rfl
  | n + 1, k, hn, hk, h => by
    rw [pcs] at h
    unfold pvs
    rw [pcs]
    by_cases c : k < s.length
    · obtain ⟨w1, w2, w3, _⟩ := wd_bound s k c
      have e1 : s.length ≤ k + wd s k + n := by clear h; omega
      rw [if_pos c] at h ⊢
      have key : ∀ (x : Nat × (Int × (Int × Bool))) (l : List (Nat × (Int × (Int × Bool)))), firstBad (x :: l) = none → x.2.2.2 = false ∧ firstBad l = none := by
        intro x l hx
        rw [firstBad] at hx
        cases hb : x.2.2.2 with
        | false => rw [hb] at hx; exact ⟨rfl, hx⟩
        | true => rw [hb] at hx; cases hx
      obtain ⟨h2, h⟩ := key _ _ h
      dsimp only at h2
      have ih := text_go s n (k + wd s k) e1 w3 h
      have hd := drop_enc s k c h2
      unfold pvs at ih
      rw [List.map_cons]
      dsimp only
      generalize hA : s.drop (k + wd s k) = A at hd ih
      generalize (runeAt s k).1 = r at hd ⊢
      rw [hd, textOf_cons, ih]
    · rw [if_neg c, List.drop_eq_nil_of_le (by omega)]; rfl
theorem textOf_scalars (s : List UInt8) (h : (validOf s).1 = true) : textOf (scalarsOf s) = s := by
  have : firstBad (pcs s s.length 0) = none := by
    unfold validOf piecesOf at h
    cases hf : firstBad (pcs s s.length 0) with
    | none => rfl
    | some k => rw [hf] at h; cases h
  exact text_go s s.length 0 (by omega) (by omega) this

theorem valid_of (r : Int) (h : scal r = true) : Utf8.valid r = true := by
  have h := of_decide_eq_true h
  unfold Utf8.valid
  simp only [Bool.or_eq_true, Bool.and_eq_true, decide_eq_true_eq]; omega
theorem ofN {x : Int} {n : Nat} (h : x = (n : Int)) : UInt8.ofNat x.toNat = UInt8.ofNat n := by rw [h, Int.toNat_natCast]
theorem encRune_eq (r : Int) (h : scal r = true) : encRune r = rbs r := by
  have hr := scal_range h
  have hv := valid_of r h
  unfold encRune Utf8.encode
  rw [if_pos hv]
  by_cases a : r.toNat < 128
  · rw [rbs1 (by omega), if_pos a]
  · rw [if_neg a]
    by_cases b : r.toNat < 2048
    · rw [rbs2 (by omega) (by omega), if_pos b, ofN (n := 192 + r.toNat / 64) (by omega), ofN (n := 128 + r.toNat % 64) (by omega)]
    · rw [if_neg b]
      by_cases c : r.toNat < 65536
      · rw [rbs3 (by omega) (by omega) (by omega), if_pos c, ofN (n := 224 + r.toNat / 4096) (by omega), ofN (n := 128 + r.toNat / 64 % 64) (by omega), ofN (n := 128 + r.toNat % 64) (by omega)]
      · rw [if_neg c, rbs4 (by omega) (by omega) (by omega), ofN (n := 240 + r.toNat / 262144) (by omega), ofN (n := 128 + r.toNat / 4096 % 64) (by omega), ofN (n := 128 + r.toNat / 64 % 64) (by omega), ofN (n := 128 + r.toNat % 64) (by omega)]
theorem lowI_all : (List.range 26).all (fun n => decide (bits Go.BinOp.xor IntKind.u8 ((n : Int) + 65) 32 = (n : Int) + 97)) = true := by kernel_rfl
theorem lowI_spec (x : Int) : lowI x = if 65 ≤ x ∧ x ≤ 90 then x + 32 else x := by
  unfold lowI
  by_cases h : 65 ≤ x ∧ x ≤ 90
  · rw [if_pos h, if_pos h]
    have := of_decide_eq_true (List.all_eq_true.1 lowI_all (x - 65).toNat (List.mem_range.2 (by omega)))
    rw [show (((x - 65).toNat : Nat) : Int) + 65 = x from by omega] at this
    rw [this]; omega
  · rw [if_neg h, if_neg h]
theorem lowI_high {x : Int} (h : 128 ≤ x) : lowI x = x := by rw [lowI_spec, if_neg (by omega)]
theorem lowI_range {x : Int} (h : 0 ≤ x ∧ x ≤ 255) : 0 ≤ lowI x ∧ lowI x ≤ 255 := by rw [lowI_spec]; split <;> omega
theorem byteI_lowB (b : UInt8) : byteI (lowB b) = lowI (byteI b) := by
  have := lowI_range (byteI_lt b)
  exact byteI_ofInt this.1 this.2
def lowS (s : List UInt8) : List UInt8 := s.map lowB
theorem lowS_len (s : List UInt8) : (lowS s).length = s.length := List.length_map ..
theorem lowS_append (a b : List UInt8) : lowS (a ++ b) = lowS a ++ lowS b := List.map_append
theorem lowB_high {x : Int} (h0 : 128 ≤ x) (h1 : x ≤ 255) : lowB (UInt8.ofNat x.toNat) = UInt8.ofNat x.toNat :=
  byteI_inj (by rw [byteI_lowB, byteI_ofInt (by omega) h1, lowI_high h0])
theorem low_rbs (r : Int) (h : scal r = true) : lowS (rbs r) = rbs (lowI r) := by
  have hr := scal_range h
  by_cases a : r < 128
  · have : lowI r < 128 := by rw [lowI_spec]; split <;> omega
    have h2 : 0 ≤ lowI r := by rw [lowI_spec]; split <;> omega
    rw [rbs1 a, rbs1 this]
    unfold lowS
    rw [List.map_cons, List.map_nil]
    congr 1
    exact byteI_inj (by rw [byteI_lowB, byteI_ofInt hr.1 (by omega), byteI_ofInt h2 (by omega)])
  · rw [lowI_high (by omega)]
    by_cases b : r < 2048
    · rw [rbs2 a b]; unfold lowS
      rw [List.map_cons, List.map_cons, List.map_nil, lowB_high (by omega) (by omega), lowB_high (by omega) (by omega)]
    by_cases c : r < 65536
    · rw [rbs3 a b c]; unfold lowS
      rw [List.map_cons, List.map_cons, List.map_cons, List.map_nil, lowB_high (by omega) (by omega), lowB_high (by omega) (by omega), lowB_high (by omega) (by omega)]
    · rw [rbs4 a b c]; unfold lowS
      rw [List.map_cons, List.map_cons, List.map_cons, List.map_cons, List.map_nil, lowB_high (by omega) (by omega), lowB_high (by omega) (by omega), lowB_high (by omega) (by omega), lowB_high (by omega) (by omega)]
theorem low_text : ∀ l : List Int, scalL l → lowS (textOf l) = textOf (l.map lowI)
  | [], _ => rfl
  | r :: l, h => by
    obtain ⟨h1, h2⟩ := scalL_tail h
    rw [textOf_cons, lowS_append, low_rbs r h1, low_text l h2, List.map_cons, textOf_cons]
end Go.Abs
namespace Go.Abs
set_option autoImplicit false

def okI (c : Int) : Prop := 0 ≤ c ∧ c < 128 ∧ c ≠ 46 ∧ ¬ (65 ≤ c ∧ c ≤ 90)
instance (c : Int) : Decidable (okI c) := by unfold okI; infer_instance
theorem outerV_len (plain : Nat) (l : List Int) (hl : l.length ≤ 65536) (hr : ∀ r ∈ l, 0 ≤ r ∧ r < 1114112) (f : Nat) : ∀ (n : Int) (x : EncS), x.told = l.countP (fun r => decide (r < n)) → Fine x → x.out.length ≤ 65537 + 14 * x.told → 0 ≤ n → n ≤ 1114112 →
    (outerV l plain f n x).length ≤ 65537 + 14 * l.length := by
  have cle : ∀ n : Int, l.countP (fun r => decide (r < n)) ≤ l.length := fun n => List.countP_le_length
  induction f with
  | zero =>
    intro n x h2 _ ho _ _
    have := cle n
    show x.out.length ≤ _
    omega
  | succ f ih =>
    intro n x h2 hf ho hn0 hn1
    have hc := cle n
    unfold outerV
    by_cases c : l.length ≤ x.told
    · rw [if_pos c]; omega
    · rw [if_neg c]
      obtain ⟨m1, m2, m3, m4, m5⟩ := min_next l n (fun r h => (hr r h).2) (by omega)
      generalize minGo n 1114112 l = m at m1 m2 m3 m4 m5 ⊢
      have hp := mul_le (a := m - n) (b := ((x.told + 1 : Nat) : Int)) (A := 1114112) (B := 65537) (by omega) (by omega) (by omega) (by omega)
      have hdx := hf.1
      obtain ⟨f1, f2, f3, f4⟩ := innerV_fine m plain l ⟨x.told, x.bias, x.delta + (m - n) * ((x.told + 1 : Nat) : Int), x.out⟩ ⟨by dsimp only; omega, hf.2⟩
      have ft := innerV_told m plain l ⟨x.told, x.bias, x.delta + (m - n) * ((x.told + 1 : Nat) : Int), x.out⟩
      generalize innerV m plain l ⟨x.told, x.bias, x.delta + (m - n) * ((x.told + 1 : Nat) : Int), x.out⟩ = y at f1 f2 f3 f4 ft ⊢
      dsimp only at f4 ft
      have hd1 := f1.1
      exact ih (m + 1) ⟨y.told, y.bias, y.delta + 1, y.out⟩ (by dsimp only; omega) ⟨by dsimp only; omega, f1.2⟩ (by dsimp only; omega) (by omega) (by omega)
theorem encOut_len (l : List Int) (hl : l.length ≤ 65536) (hr : ∀ r ∈ l, 0 ≤ r ∧ r < 1114112) : (encOut l).length ≤ 1048576 := by
  have hsl : (small l).length ≤ l.length := by rw [small_count]; exact List.countP_le_length
  have := outerV_len (small l).length l hl hr l.length 128 ⟨(small l).length, 72, 0, if (small l).length = 0 then small l else small l ++ [45]⟩ (small_count l) ⟨by dsimp only; omega, by dsimp only; omega⟩ (by dsimp only; split; omega; rw [List.length_append]; simp only [List.length_cons, List.length_nil]; omega) (by omega) (by omega)
  unfold encOut; omega
theorem encFin_cases (out : List Int) : ((encFin out).2 ≠ 0 ∧ (encFin out).1 = []) ∨ encFin out = (strOf out, 0) := by
  unfold encFin; split
  · exact .inl ⟨by simp, rfl⟩
  · exact .inr rfl
theorem EncodeOf_cases (s : List UInt8) : ((EncodeOf s).2 ≠ 0 ∧ (EncodeOf s).1 = []) ∨ (EncodeOf s = (strOf (encOut (scalarsOf s)), 0) ∧ (validOf s).1 = true ∧ s.length ≤ 65536) := by
  unfold EncodeOf
  split
  · exact .inl ⟨by simp, rfl⟩
  · rename_i hv
    split
    · exact .inl ⟨by simp, rfl⟩
    · rename_i hl
      rcases encFin_cases (encOut (scalarsOf s)) with h | h
      · exact .inl h
      · exact .inr ⟨h, by simpa using hv, by omega⟩
theorem EncodeOf_len (s : List UInt8) : (EncodeOf s).1.length ≤ 1048576 := by
  rcases EncodeOf_cases s with ⟨_, e⟩ | ⟨e, _, hl⟩
  · rw [e]; simp
  · rw [e]
    have h1 := scalarsOf_len s
    have := encOut_len (scalarsOf s) (by omega) (fun r h => scal_range (scalars_scal s r h))
    simp only [strOf, List.length_map]; exact this

def xn : List UInt8 := [120, 110, 45, 45]
def LabelOf (s : List UInt8) : List UInt8 × Int := if (EncodeOf s).2 ≠ 0 then ([], (EncodeOf s).2) else if basicB s = true then (s, 0) else (xn ++ (EncodeOf s).1, 0)
theorem bne0 {x : Int} : (x != 0) = decide (x ≠ 0) := by
  by_cases h : x = 0
  · rw [h]; rfl
  · rw [decide_eq_true h]; exact bne_iff_ne.2 h
theorem c_puny_Label_val (s : List UInt8) : c_puny_Label s = some (LabelOf s) := by
  have hl := EncodeOf_len s
  rw [c_puny_Label_eq, Z82_eq, c_puny_Encode_val, Option.bind_some, bne0]
  unfold LabelOf
  by_cases a : (EncodeOf s).2 ≠ 0
  · rw [decide_eq_true a, cond_true, if_pos a]
  · rw [decide_eq_false a, cond_false, if_neg a, c_puny_basic_val, Option.bind_some]
    cases basicB s with
    | true => rw [cond_true, if_pos rfl]
    | false =>
      rw [cond_false, if_neg (by simp), show decide (([120, 110, 45, 45] : List UInt8).length + (EncodeOf s).1.length ≤ 2 ^ 62) = true from decide_eq_true (by simp only [List.length_cons, List.length_nil]; omega), cond_true]; rfl
theorem LabelOf_len (s : List UInt8) : (LabelOf s).1.length ≤ 1048580 := by
  have hl := EncodeOf_len s
  unfold LabelOf
  split
  · simp
  · rename_i h
    split
    · rcases EncodeOf_cases s with ⟨h1, _⟩ | ⟨_, _, h2⟩
      · exact absurd h1 h
      · dsimp only; omega
    · simp only [xn, List.length_append, List.length_cons, List.length_nil]; omega

end Go.Abs
namespace Go.Abs
set_option autoImplicit false

def UnlabelOf (s : List UInt8) : List UInt8 × Int :=
  if s.length < 4 then (s, 0) else if lowS (s.take 4) ≠ xn then (s, 0)
  else if (DecodeOf (s.drop 4)).2.1 ≠ 0 then ([], (DecodeOf (s.drop 4)).2.1)
  else if (LabelOf (DecodeOf (s.drop 4)).1).2 ≠ 0 then ([], 31)
  else if basicB (DecodeOf (s.drop 4)).1 = true then ([], 31)
  else if lowS (LabelOf (DecodeOf (s.drop 4)).1).1 ≠ lowS s then ([], 31)
  else ((DecodeOf (s.drop 4)).1, 0)
theorem c_octets_Same_val (a b : List UInt8) (ha : a.length ≤ 1073741824) (hb : b.length ≤ 1073741824) : c_octets_Same (a, b) = some (lowS a == lowS b) := by
  rw [c_octets_Same_eq, Zf2_eq]
  simp only
  rw [c_octets_Lower_val a ha, Option.bind_some, c_octets_Lower_val b hb, Option.bind_some]; rfl
theorem c_puny_Unlabel_val (s : List UInt8) (hs : s.length ≤ 1073741824) : c_puny_Unlabel s = some (UnlabelOf s) := by
  rw [c_puny_Unlabel_eq, Zt1_eq]
  unfold UnlabelOf
  by_cases a : s.length < 4
  · rw [show decide ((s.length : Int) < 4) = true from decide_eq_true (by omega), cond_true, if_pos a]
  · rw [show decide ((s.length : Int) < 4) = false from decide_eq_false (by omega), cond_false, if_neg a, show cutOk none (some (4 : Int)) s.length = true from by simp [cutOk]; omega, cond_true,
      show cutList none (some (4 : Int)) s = s.take 4 from rfl, c_octets_Lower_val _ (by rw [List.length_take]; omega), Option.bind_some, show (List.map lowB (List.take 4 s)) = lowS (s.take 4) from rfl]
    by_cases b : lowS (s.take 4) = xn
    · rw [show (!(lowS (s.take 4) == ([120, 110, 45, 45] : List UInt8))) = false from by rw [b]; rfl, cond_false, if_neg (fun h => h b), show cutOk (some (4 : Int)) none s.length = true from cut_from (f := 4) (by omega), cond_true,
        show cutList (some (4 : Int)) none s = s.drop 4 from rfl, c_puny_Decode_val _ (by rw [List.length_drop]; omega), Option.bind_some, bne0]
      by_cases c : (DecodeOf (s.drop 4)).2.1 ≠ 0
      · rw [decide_eq_true c, cond_true, if_pos c]
      · rw [decide_eq_false c, cond_false, if_neg c, c_puny_Label_val, Option.bind_some, bne0]
        by_cases d : (LabelOf (DecodeOf (s.drop 4)).1).2 ≠ 0
        · rw [decide_eq_true d, cond_true, if_pos d]
        · have := LabelOf_len (DecodeOf (s.drop 4)).1
          rw [decide_eq_false d, cond_false, if_neg d, c_puny_basic_val, Option.bind_some]
          cases basicB (DecodeOf (s.drop 4)).1 with
          | true => rw [cond_true, if_pos rfl]
          | false =>
            rw [cond_false, if_neg (by simp), c_octets_Same_val _ _ (by omega) hs, Option.bind_some]
            by_cases e : lowS (LabelOf (DecodeOf (s.drop 4)).1).1 = lowS s
            · rw [e, if_neg (fun h => h rfl), show (!(lowS s == lowS s)) = false from by simp, cond_false]
            · rw [if_pos e, show (!(lowS (LabelOf (DecodeOf (s.drop 4)).1).1 == lowS s)) = true from by simp [e], cond_true]
    · rw [show (!(lowS (s.take 4) == ([120, 110, 45, 45] : List UInt8))) = true from by simp only [Bool.not_eq_true', beq_eq_false_iff_ne]; exact b, cond_true, if_pos b]
def isXn (s : List UInt8) : Bool := decide (4 ≤ s.length) && (s.take 4 == xn)
def labelEnd (t : List UInt8) (last : Bool) : List UInt8 × Int :=
  if 63 < t.length then ([], 53) else if t = [] ∧ last = false then ([], 53)
  else if isXn t = true then (if (UnlabelOf t).2 ≠ 0 then ([], 53) else if has (UnlabelOf t).1 65533 = true then ([], 53) else if dotted (UnlabelOf t).1 = true then ([], 53) else (t, 0))
  else (t, 0)
def labelOf (s : List UInt8) (last : Bool) : List UInt8 × Int :=
  if basicB (lowS s) = false ∧ has (lowS s) 65533 = false then (if (LabelOf (lowS s)).2 ≠ 0 then ([], 53) else labelEnd (LabelOf (lowS s)).1 last)
  else if has (lowS s) 65533 = true then ([], 53) else labelEnd (lowS s) last
theorem label_tail (t : List UInt8) (ht : t.length ≤ 1073741824) : ((c_strings_HasPrefix (t, ([(120 : UInt8), (110 : UInt8), (45 : UInt8), (45 : UInt8)] : List UInt8))).bind fun y0 =>
            bif y0 then
              (c_puny_Unlabel t).bind fun y1 =>
                bif (y1.2 != (0 : Int)) then
                  some (([] : List UInt8), (53 : Int))
                else
                  (c_host_hasRune (y1.1, (65533 : Int))).bind fun y2 =>
                    bif y2 then
                      some (([] : List UInt8), (53 : Int))
                    else
                      (c_strings_IndexFunc__host_dot (y1.1, ())).bind fun y3 =>
                        bif (decide (y3 ≥ (0 : Int))) then
                          some (([] : List UInt8), (53 : Int))
                        else
                          some (t, (0 : Int))
            else
              some (t, (0 : Int))) = some (if isXn t = true then (if (UnlabelOf t).2 ≠ 0 then ([], 53) else if has (UnlabelOf t).1 65533 = true then ([], 53) else if dotted (UnlabelOf t).1 = true then ([], 53) else (t, 0))
  else (t, 0)) := by
  rw [c_strings_HasPrefix_val t _ ht (by simp), Option.bind_some, show (decide (([(120 : UInt8), (110 : UInt8), (45 : UInt8), (45 : UInt8)] : List UInt8).length ≤ t.length) && (t.take ([(120 : UInt8), (110 : UInt8), (45 : UInt8), (45 : UInt8)] : List UInt8).length == [(120 : UInt8), (110 : UInt8), (45 : UInt8), (45 : UInt8)])) = isXn t from rfl]
  cases isXn t with
  | false => rfl
  | true =>
    rw [cond_true, if_pos rfl, c_puny_Unlabel_val t ht, Option.bind_some, bne0]
    by_cases c : (UnlabelOf t).2 ≠ 0
    · rw [decide_eq_true c, cond_true, if_pos c]
    · rw [decide_eq_false c, cond_false, if_neg c, c_host_hasRune_val, Option.bind_some]
      cases has (UnlabelOf t).1 65533 with
      | true => rw [cond_true, if_pos rfl]
      | false =>
        obtain ⟨y, h1, h2⟩ := c_dotIdx_val (UnlabelOf t).1
        rw [cond_false, if_neg (by simp), h1, Option.bind_some, h2]
        cases dotted (UnlabelOf t).1 with
        | true => rw [cond_true, if_pos rfl]
        | false => rw [cond_false, if_neg (by simp)]
theorem label_end (t : List UInt8) (last : Bool) (ht : t.length ≤ 1073741824) : Zr1 t last false = some (labelEnd t last) := by
  rw [Zr1_eq, cond_false]
  unfold labelEnd
  by_cases a : 63 < t.length
  · rw [show decide ((t.length : Int) > 63) = true from decide_eq_true (by omega), cond_true, if_pos a]
  · rw [show decide ((t.length : Int) > 63) = false from decide_eq_false (by omega), cond_false, if_neg a, label_tail t ht]
    cases t with
    | nil =>
      rw [show (([] : List UInt8) == []) = true from rfl, cond_true]
      cases last with
      | false => rw [Bool.not_false, cond_true, if_pos ⟨rfl, rfl⟩]
      | true => rw [Bool.not_true, cond_false, if_neg (show ¬ (([] : List UInt8) = [] ∧ true = false) from fun h => by cases h.2)]
    | cons b t => rw [show ((b :: t) == []) = false from rfl, cond_false, if_neg (show ¬ (b :: t = [] ∧ last = false) from fun h => by cases h.1)]
theorem c_host_label_val (s : List UInt8) (last : Bool) (hs : s.length ≤ 1073741824) : c_host_label (s, last) = some (labelOf s last) := by
  have h1 := lowS_len s
  have h2 := LabelOf_len (lowS s)
  rw [c_host_label_eq, Zq1_eq]
  simp only
  rw [c_octets_Lower_val s hs, Option.bind_some, show List.map lowB s = lowS s from rfl, c_host_hasRune_val, Option.bind_some, c_host_basic_val, Option.bind_some, c_puny_Label_val, Option.bind_some, bne0]
  unfold labelOf
  cases basicB (lowS s) with
  | true =>
    rw [Bool.not_true, cond_false, if_neg (fun h => by cases h.1)]
    cases has (lowS s) 65533 with
    | true => rw [if_pos rfl, Zr1_eq, cond_true]
    | false => rw [if_neg (by simp), label_end _ _ (by omega)]
  | false =>
    rw [Bool.not_false, cond_true]
    cases has (lowS s) 65533 with
    | true => rw [Bool.not_true, cond_false, if_neg (fun h => by cases h.2), if_pos rfl, Zr1_eq, cond_true]
    | false =>
      rw [Bool.not_false, cond_true, if_pos ⟨rfl, rfl⟩]
      by_cases c : (LabelOf (lowS s)).2 ≠ 0
      · rw [decide_eq_true c, cond_true, if_pos c]
      · rw [decide_eq_false c, cond_false, if_neg c, label_end _ _ (by omega)]
end Go.Abs
