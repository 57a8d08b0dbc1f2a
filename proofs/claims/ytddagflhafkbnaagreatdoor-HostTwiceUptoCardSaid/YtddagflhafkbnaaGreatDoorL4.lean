/- Part L4 of the proof: see the last text of the claim. No condition of its own. -/
import Derived.Test.YtddagflhafkbnaaGreatDoorL3
import Derived.Test.YtddagflhafkbnaaGreatDoorK8
set_option linter.all false
/- percent: the program's. -/
namespace Go.Abs
set_option autoImplicit false

def caps : List UInt8 := [48, 49, 50, 51, 52, 53, 54, 55, 56, 57, 65, 66, 67, 68, 69, 70]
/-! encoding -/
end Go.Abs
/- Small letters and others in a text. -/
namespace Go.Abs
set_option autoImplicit false

theorem piece_high (s : List UInt8) (k : Nat) (hk : k < s.length) (h : ¬ ut1 s k = true) : 128 ≤ (runeAt s k).1 ∧ ∀ j, j < wd s k → 128 ≤ bat s (k + j) := by
  have hb0 : 128 ≤ bat s k := by
    unfold ut1 at h
    rw [decide_eq_true_eq] at h; omega
  unfold wd runeAt
  rw [if_neg h]
  by_cases q2 : ut2 s k = true
  · rw [if_pos q2]
    have := of_decide_eq_true q2
    refine ⟨this.2.2.2, fun j hj => ?_⟩
    have hj : j < 2 := hj
    have e : j = 0 ∨ j = 1 := by omega
    rcases e with rfl | rfl
    · exact hb0
    · omega
  rw [if_neg q2]
  by_cases q3 : ut3 s k = true
  · rw [if_pos q3]
    unfold ut3 at q3
    rw [Bool.and_eq_true] at q3
    have := of_decide_eq_true q3.1
    refine ⟨by have := this.2.2.2.2; dsimp only; omega, fun j hj => ?_⟩
    have hj : j < 3 := hj
    have e : j = 0 ∨ j = 1 ∨ j = 2 := by omega
    rcases e with rfl | rfl | rfl
    · exact hb0
    · omega
    · omega
  rw [if_neg q3]
  by_cases q4 : ut4 s k = true
  · rw [if_pos q4]
    unfold ut4 at q4
    rw [Bool.and_eq_true] at q4
    have := of_decide_eq_true q4.1
    refine ⟨by have := this.2.2.2.2.2; dsimp only; omega, fun j hj => ?_⟩
    have hj : j < 4 := hj
    have e : j = 0 ∨ j = 1 ∨ j = 2 ∨ j = 3 := by omega
    rcases e with rfl | rfl | rfl | rfl
    · exact hb0
    · omega
    · omega
    · omega
  rw [if_neg q4]
  refine ⟨by dsimp only; omega, fun j hj => ?_⟩
  have hj : j < 1 := hj
  have e : j = 0 := by omega
  subst e; exact hb0
theorem piece_low (s : List UInt8) (k : Nat) (h : ut1 s k = true) : (runeAt s k).1 = bat s k ∧ wd s k = 1 := by
  unfold wd runeAt; rw [if_pos h]; exact ⟨rfl, rfl⟩

theorem drop_bat (s : List UInt8) (k : Nat) (hk : k < s.length) : s.drop k = s[k] :: s.drop (k + 1) ∧ byteI s[k] = bat s k := by
  refine ⟨List.drop_eq_getElem_cons hk, ?_⟩
  unfold bat; rw [List.getD_eq_getElem?_getD, List.getElem?_eq_getElem hk]; rfl
theorem any_high (s : List UInt8) : ∀ (n k : Nat), s.length ≤ k + n → ((pcs s n k).map (·.2.1)).any (fun x => decide (127 < x)) = (s.drop k).any (fun b => decide (127 < byteI b))
  | 0, k, h => by rw [List.drop_eq_nil_of_le (by omega)]; rfl
  | n + 1, k, h => by
    unfold pcs
    by_cases c : k < s.length
    · have hw := wd_bound s k c
      obtain ⟨h1, h2⟩ := drop_bat s k c
      rw [if_pos c, List.map_cons, List.any_cons, any_high s n (k + wd s k) (by omega), h1, List.any_cons, h2]
      dsimp only
      by_cases q : ut1 s k = true
      · obtain ⟨e1, e2⟩ := piece_low s k q
        rw [e2, e1]
      · obtain ⟨e1, e2⟩ := piece_high s k c q
        have hb := e2 0 (by omega)
        rw [Nat.add_zero] at hb
        rw [decide_eq_true (show 127 < (runeAt s k).1 by omega), decide_eq_true (show 127 < bat s k by omega), Bool.true_or, Bool.true_or]
    · rw [if_neg c, List.drop_eq_nil_of_le (by omega)]; rfl
def basicB (s : List UInt8) : Bool := !(s.any fun b => decide (127 < byteI b))

/-- Some rune, looked for from the begin on. -/
def IdxOK (b : Bool) (o : Option Int) : Prop := ∃ y : Int, o = some y ∧ decide (y ≥ 0) = b
theorem idx_lt {b : Bool} {y : Int} (h : decide (y ≥ 0) = b) : decide (y < 0) = !b := by
  subst h
  by_cases c : y ≥ 0
  · rw [decide_eq_true c, decide_eq_false (by omega)]; rfl
  · rw [decide_eq_false c, decide_eq_true (by omega)]; rfl
theorem hostIdx_go (s : List UInt8) : ∀ (n k : Nat), s.length ≤ k + n → k ≤ s.length → IdxOK (((pcs s n k).map (·.2.1)).any fun x => decide (127 < x)) (p_strings_indexFunc_1 s () true s k)
  | 0, k, h, hk => by
    rw [p_strings_indexFunc_1_eq, decide_eq_false (by omega), cond_false]
    exact ⟨-1, rfl, rfl⟩
  | n + 1, k, h, hk => by
    rw [p_strings_indexFunc_1_eq]
    unfold pcs
    by_cases c : k < s.length
    · have hw := wd_bound s k c
      rw [decide_eq_true c, cond_true, if_pos c, c_host_basic_1_eq, p_host_basic_1_0_eq, Option.bind_some, decRune_rune, decRune_wd, List.map_cons, List.any_cons]
      dsimp only
      by_cases d : (127 : Int) < (runeAt s k).1
      · rw [show decide ((runeAt s k).1 > 127) = true from decide_eq_true d, show (true == true) = true from rfl, cond_true, Bool.true_or]
        exact ⟨_, rfl, decide_eq_true (by omega)⟩
      · rw [show decide ((runeAt s k).1 > 127) = false from decide_eq_false d, show (false == true) = false from rfl, cond_false, Bool.false_or]
        exact hostIdx_go s n (k + wd s k) (by omega) (by omega)
    · rw [decide_eq_false c, cond_false, if_neg c]
      exact ⟨-1, rfl, rfl⟩
theorem c_host_basic_val (s : List UInt8) : c_host_basic s = some (basicB s) := by
  rw [c_host_basic_eq, p_host_basic_0_eq, c_strings_IndexFunc_eq, p_strings_IndexFunc_0_eq, c_strings_indexFunc_eq, p_strings_indexFunc_0_eq]
  obtain ⟨y, h1, h2⟩ := hostIdx_go s s.length 0 (by omega) (by omega)
  rw [any_high s s.length 0 (by omega), List.drop_zero] at h2
  simp only
  rw [h1]
  simp only [Option.bind_some]
  rw [idx_lt h2]; rfl
theorem punyIdx_go (s : List UInt8) : ∀ (n k : Nat), s.length ≤ k + n → k ≤ s.length → IdxOK (((pcs s n k).map (·.2.1)).any fun x => decide (127 < x)) (p_strings_indexFunc__puny_basic_1_1 s () true s k)
  | 0, k, h, hk => by
    rw [p_strings_indexFunc__puny_basic_1_1_eq, decide_eq_false (by omega), cond_false]
    exact ⟨-1, rfl, rfl⟩
  | n + 1, k, h, hk => by
    rw [p_strings_indexFunc__puny_basic_1_1_eq]
    unfold pcs
    by_cases c : k < s.length
    · have hw := wd_bound s k c
      rw [decide_eq_true c, cond_true, if_pos c, c_puny_basic_1_eq, p_puny_basic_1_0_eq, Option.bind_some, decRune_rune, decRune_wd, List.map_cons, List.any_cons]
      dsimp only
      by_cases d : (127 : Int) < (runeAt s k).1
      · rw [show decide ((runeAt s k).1 > 127) = true from decide_eq_true d, show (true == true) = true from rfl, cond_true, Bool.true_or]
        exact ⟨_, rfl, decide_eq_true (by omega)⟩
      · rw [show decide ((runeAt s k).1 > 127) = false from decide_eq_false d, show (false == true) = false from rfl, cond_false, Bool.false_or]
        exact punyIdx_go s n (k + wd s k) (by omega) (by omega)
    · rw [decide_eq_false c, cond_false, if_neg c]
      exact ⟨-1, rfl, rfl⟩
theorem c_puny_basic_val (s : List UInt8) : c_puny_basic s = some (basicB s) := by
  rw [c_puny_basic_eq, p_puny_basic_0_eq, c_strings_IndexFunc__puny_basic_1_eq, p_strings_IndexFunc__puny_basic_1_0_eq, c_strings_indexFunc__puny_basic_1_eq, p_strings_indexFunc__puny_basic_1_0_eq]
  obtain ⟨y, h1, h2⟩ := punyIdx_go s s.length 0 (by omega) (by omega)
  rw [any_high s s.length 0 (by omega), List.drop_zero] at h2
  simp only
  rw [h1]
  simp only [Option.bind_some]
  rw [idx_lt h2]; rfl

/-! dots -/
def dotI (x : Int) : Bool := x == 46 || (x == 12290 || (x == 65294 || x == 65377))
theorem c_host_dot_val (x : Int) : c_host_dot x = some (dotI x) := by
  rw [c_host_dot_eq, p_host_dot_0_eq]
  unfold dotI
  cases (x == 46) <;> cases (x == 12290) <;> cases (x == 65294) <;> rfl
theorem dotIdx_go (s : List UInt8) : ∀ (n k : Nat), s.length ≤ k + n → k ≤ s.length → IdxOK (((pcs s n k).map (·.2.1)).any dotI) (p_strings_indexFunc__host_dot_1 s () true s k)
  | 0, k, h, hk => by
    rw [p_strings_indexFunc__host_dot_1_eq, decide_eq_false (by omega), cond_false]
    exact ⟨-1, rfl, rfl⟩
  | n + 1, k, h, hk => by
    rw [p_strings_indexFunc__host_dot_1_eq]
    unfold pcs
    by_cases c : k < s.length
    · have hw := wd_bound s k c
      rw [decide_eq_true c, cond_true, if_pos c, c_host_dot_val, Option.bind_some, decRune_rune, decRune_wd, List.map_cons, List.any_cons]
      dsimp only
      cases dotI (runeAt s k).1 with
      | true =>
        rw [show (true == true) = true from rfl, cond_true, Bool.true_or]
        exact ⟨_, rfl, decide_eq_true (by omega)⟩
      | false =>
        rw [show (false == true) = false from rfl, cond_false, Bool.false_or]
        exact dotIdx_go s n (k + wd s k) (by omega) (by omega)
    · rw [decide_eq_false c, cond_false, if_neg c]
      exact ⟨-1, rfl, rfl⟩
def dotted (s : List UInt8) : Bool := (scalarsOf s).any dotI
theorem c_dotIdx_val (s : List UInt8) : IdxOK (dotted s) (c_strings_IndexFunc__host_dot (s, ())) := by
  rw [c_strings_IndexFunc__host_dot_eq, p_strings_IndexFunc__host_dot_0_eq, c_strings_indexFunc__host_dot_eq, p_strings_indexFunc__host_dot_0_eq]
  obtain ⟨y, h1, h2⟩ := dotIdx_go s s.length 0 (by omega) (by omega)
  simp only
  rw [h1]
  exact ⟨y, rfl, h2⟩
end Go.Abs
/- What is forbidden in hosts. -/
namespace Go.Abs
set_option autoImplicit false

/-! a rune among them -/
/-! strings.ContainsAny of them -/
end Go.Abs
/- puny: thresholds, the bias, numbers. -/
namespace Go.Abs
set_option autoImplicit false

def thr (k bias : Int) : Int := if k ≤ bias then 1 else if bias + 26 ≤ k then 26 else k - bias
theorem thr_range (k bias : Int) : 1 ≤ thr k bias ∧ thr k bias ≤ 26 := by
  unfold thr; split
  · omega
  · split <;> omega
theorem c_puny_threshold_val (k bias : Int) (h1 : 0 ≤ k ∧ k ≤ 1099511627776) (h2 : 0 ≤ bias ∧ bias ≤ 4096) : c_puny_threshold (k, bias) = some (thr k bias) := by
  rw [c_puny_threshold_eq, p_puny_threshold_0_eq]
  simp only
  rw [w64 (x := bias + 26) (by omega) (by omega), w64 (x := k - bias) (by omega) (by omega)]
  unfold thr
  by_cases a : k ≤ bias
  · rw [decide_eq_true a, cond_true, if_pos a]
  · rw [decide_eq_false a, cond_false, if_neg a]
    by_cases b : bias + 26 ≤ k
    · rw [show decide (k ≥ bias + 26) = true from decide_eq_true b, cond_true, if_pos b]
    · rw [show decide (k ≥ bias + 26) = false from decide_eq_false b, cond_false, if_neg b]

def adaptGo : Nat → Int → Int → Int
  | 0, d, k => k + 36 * d / (d + 38)
  | n + 1, d, k => if 455 < d then adaptGo n (d / 35) (k + 36) else k + 36 * d / (d + 38)
def adaptV (delta points : Int) (first : Bool) : Int :=
  let d := if first = true then delta / 700 else delta / 2
  adaptGo 11 (d + d / points) 0
theorem adaptGo_range : ∀ (n : Nat) (d k : Int), 0 ≤ d → 0 ≤ k → 0 ≤ adaptGo n d k ∧ adaptGo n d k ≤ k + 36 * n + 36
  | 0, d, k, hd, hk => by
    unfold adaptGo
    have h1 : 0 ≤ 36 * d / (d + 38) := Int.ediv_nonneg (by omega) (by omega)
    have h2 : 36 * d / (d + 38) ≤ 36 := by
      apply Int.le_of_lt_add_one
      apply Int.ediv_lt_of_lt_mul (by omega); omega
    omega
  | n + 1, d, k, hd, hk => by
    unfold adaptGo
    split
    · have := adaptGo_range n (d / 35) (k + 36) (by omega) (by omega); omega
    · have h1 : 0 ≤ 36 * d / (d + 38) := Int.ediv_nonneg (by omega) (by omega)
      have h2 : 36 * d / (d + 38) ≤ 36 := by
        apply Int.le_of_lt_add_one
        apply Int.ediv_lt_of_lt_mul (by omega); omega
      omega
theorem quot36 (d : Int) (hd : 0 ≤ d) : 0 ≤ 36 * d / (d + 38) ∧ 36 * d / (d + 38) ≤ 36 := by
  refine ⟨Int.ediv_nonneg (by omega) (by omega), ?_⟩
  apply Int.le_of_lt_add_one
  apply Int.ediv_lt_of_lt_mul (by omega); omega
theorem adapt2_stop (pts : Int) (fst : Bool) (d k : Int) (hd : 0 ≤ d) (hn : d ≤ 455) (hk : 0 ≤ k) (hk2 : k ≤ 100000) : p_puny_adapt_2 d pts fst k = some (k + 36 * d / (d + 38)) := by
  have h := quot36 d hd
  rw [p_puny_adapt_2_eq, show decide (d > 455) = false from decide_eq_false (by omega), cond_false, w64 (x := d + 38) (by omega) (by omega), show (d + 38 != 0) = true from bne_iff_ne.2 (by omega), cond_true, w64 (x := 36 * d) (by omega) (by omega), Int.tdiv_eq_ediv_of_nonneg (by omega), w64 (x := 36 * d / (d + 38)) (by omega) (by omega), w64 (by omega) (by omega)]
theorem adapt2_go (pts : Int) (fst : Bool) (d k : Int) (hd : 455 < d) (hd2 : d ≤ 9223372036854775807) (hk : 0 ≤ k) (hk2 : k ≤ 100000) : p_puny_adapt_2 d pts fst k = p_puny_adapt_2 (d / 35) pts fst (k + 36) := by
  rw [p_puny_adapt_2_eq, show decide (d > 455) = true from decide_eq_true hd, cond_true, Int.tdiv_eq_ediv_of_nonneg (by omega), w64 (x := d / 35) (by omega) (by omega), w64 (x := k + 36) (by omega) (by omega)]
/-- A bound that is cut by 35 each time. -/
def lid : Nat → Int
  | 0 => 455
  | n + 1 => 35 * lid n + 34
theorem adapt2_val (pts : Int) (fst : Bool) (n : Nat) : ∀ (d k : Int), 0 ≤ d → d ≤ lid n → d ≤ 9223372036854775807 → 0 ≤ k → k + 36 * (n : Int) ≤ 100000 → p_puny_adapt_2 d pts fst k = some (adaptGo n d k) := by
  induction n with
  | zero => intro d k hd hn _ hk hk2; exact adapt2_stop pts fst d k hd hn hk (by omega)
  | succ n ih =>
    intro d k hd hn hb hk hk2
    unfold adaptGo
    unfold lid at hn
    by_cases c : 455 < d
    · rw [if_pos c, adapt2_go pts fst d k c hb hk (by omega)]
      exact ih (d / 35) (k + 36) (by omega) (by omega) (by omega) (by omega) (by omega)
    · rw [if_neg c]; exact adapt2_stop pts fst d k hd (by omega) hk (by omega)
theorem lid11 : 4611686018427387904 ≤ lid 11 := by decide
theorem c_puny_adapt_val (delta points : Int) (first : Bool) (h0 : 0 ≤ delta) (h1 : delta ≤ 1099511627776) (hp : 1 ≤ points) (hp2 : points ≤ 1099511627776) : c_puny_adapt (delta, points, first) = some (adaptV delta points first) := by
  have key : ∀ d : Int, 0 ≤ d → d ≤ 1099511627776 → p_puny_adapt_1 d points first = some (adaptGo 11 (d + d / points) 0) := by
    intro d a b
    have q0 : 0 ≤ d / points := Int.ediv_nonneg a (by omega)
    have q1 : d / points ≤ d := Int.ediv_le_self _ a
    have := lid11
    rw [p_puny_adapt_1_eq, show (points != 0) = true from bne_iff_ne.2 (by omega), cond_true, Int.tdiv_eq_ediv_of_nonneg a, w64 (x := d / points) (by omega) (by omega), w64 (x := d + d / points) (by omega) (by omega)]
    exact adapt2_val points first 11 _ 0 (by omega) (by omega) (by omega) (by omega) (by omega)
  rw [c_puny_adapt_eq, p_puny_adapt_0_eq]
  simp only
  unfold adaptV
  cases first with
  | true =>
    rw [cond_true, Int.tdiv_eq_ediv_of_nonneg h0, w64 (x := delta / 700) (by omega) (by omega), key _ (by omega) (by omega)]; rfl
  | false =>
    rw [cond_false, Int.tdiv_eq_ediv_of_nonneg h0, w64 (x := delta / 2) (by omega) (by omega), key _ (by omega) (by omega)]; rfl
theorem adaptV_range (delta points : Int) (first : Bool) (h0 : 0 ≤ delta) (hp : 1 ≤ points) : 0 ≤ adaptV delta points first ∧ adaptV delta points first ≤ 4096 := by
  unfold adaptV
  have key : ∀ d : Int, 0 ≤ d → 0 ≤ adaptGo 11 (d + d / points) 0 ∧ adaptGo 11 (d + d / points) 0 ≤ 4096 := by
    intro d a
    have q0 : 0 ≤ d / points := Int.ediv_nonneg a (by omega)
    have := adaptGo_range 11 (d + d / points) 0 (by omega) (by omega)
    omega
  cases first with
  | true => exact key _ (by rw [if_pos rfl]; omega)
  | false => exact key _ (by rw [if_neg (by simp)]; omega)
end Go.Abs
/- puny: a number. -/
namespace Go.Abs
set_option autoImplicit false

def az36 : List UInt8 := [97, 98, 99, 100, 101, 102, 103, 104, 105, 106, 107, 108, 109, 110, 111, 112, 113, 114, 115, 116, 117, 118, 119, 120, 121, 122, 48, 49, 50, 51, 52, 53, 54, 55, 56, 57]
def dval (b : Int) : Int := if 97 ≤ b ∧ b ≤ 122 then b - 97 else if 65 ≤ b ∧ b ≤ 90 then b - 65 else if 48 ≤ b ∧ b ≤ 57 then b - 22 else -1
theorem dval_range (b : Int) : -1 ≤ dval b ∧ dval b ≤ 35 := by
  unfold dval; split
  · omega
  · split
    · omega
    · split <;> omega
def dexp (n : Nat) : Int :=
  let i := Lib.indexByte az36 (UInt8.ofNat (n : Int).toNat)
  let c := bits Go.BinOp.or IntKind.u8 (n : Int) 32
  if i < 0 then (if 97 ≤ c ∧ c ≤ 122 then IntKind.i64.wrap (IntKind.u8.wrap (c - 97)) else i) else i
theorem dexp_all : (List.range 256).all (fun n => decide (dexp n = dval (n : Int))) = true := by kernel_rfl
theorem dexp_val (n : Nat) (h : n < 256) : dexp n = dval (n : Int) := of_decide_eq_true (List.all_eq_true.1 dexp_all n (List.mem_range.2 h))

/-- A number: what was, the place behind it, the error, where. -/
def numV (s : List UInt8) (bias : Int) (fr : Nat) : Nat → Nat → Int → Int → Int → Int × (Int × (Int × Int))
  | 0, at', _, _, _ => (0, (0, (31, (at' : Int))))
  | n + 1, at', i, w, k =>
    if dval (bat s at') < 0 then (0, (0, (31, (at' : Int))))
    else if 2147483647 < i + dval (bat s at') * w then (0, (0, (32, (fr : Int))))
    else if dval (bat s at') < thr k bias then (i + dval (bat s at') * w, (((at' + 1 : Nat) : Int), (0, 0)))
    else if 2147483647 < w * (36 - thr k bias) then (0, (0, (32, (fr : Int))))
    else numV s bias fr n (at' + 1) (i + dval (bat s at') * w) (w * (36 - thr k bias)) (k + 36)

theorem mul_le {a b A B : Int} (ha : 0 ≤ a) (hb : 0 ≤ b) (h1 : a ≤ A) (h2 : b ≤ B) : 0 ≤ a * b ∧ a * b ≤ A * B := ⟨Int.mul_nonneg ha hb, Int.mul_le_mul h1 h2 hb (Int.le_trans ha h1)⟩

theorem one_le_mul {a b : Int} (ha : 1 ≤ a) (hb : 1 ≤ b) : 1 ≤ a * b := by
  have := Int.mul_le_mul ha hb (by omega) (by omega)
  omega

theorem number_go (s : List UInt8) (bias : Int) (fr : Nat) (hs : s.length ≤ 1073741824) (hb : 0 ≤ bias ∧ bias ≤ 4096) (n : Nat) : ∀ (at' : Nat) (i w k : Int), at' + n = s.length → 0 ≤ i → i ≤ 2147483647 → 1 ≤ w → w ≤ 2147483647 → 0 ≤ k → k + 36 * (n : Int) ≤ 1099511627776 →
    p_puny_number_1 s (at' : Int) i bias (fr : Int) w k = some (numV s bias fr n at' i w k) := by
  induction n with
  | zero =>
    intro at' i w k hat _ _ _ _ _ _
    rw [p_puny_number_1_eq, show (((at' : Nat) : Int) == ((s.length : Nat) : Int)) = true from beq_iff_eq.2 (by omega), cond_true]
    rfl
  | succ n ih =>
    intro at' i w k hat hi0 hi1 hw0 hw1 hk0 hk1
    have hlt : at' < s.length := by omega
    have hby := bat_lt s at'
    have hd := dval_range (bat s at')
    have ht := thr_range k bias
    have hx : dexp (s.getD at' 0).toNat = dval (bat s at') := dexp_val _ (s.getD at' 0).toNat_lt
    have hwat : IntKind.i64.wrap ((at' : Int) + 1) = ((at' + 1 : Nat) : Int) := by rw [w64 (by omega) (by omega)]; omega
    have key : p_puny_number_2 s (at' : Int) i bias (fr : Int) w k (dval (bat s at')) = some (numV s bias fr (n + 1) at' i w k) := by
      rw [p_puny_number_2_eq]
      unfold numV
      by_cases a : dval (bat s at') < 0
      · rw [decide_eq_true a, cond_true, if_pos a]
      · have hm := mul_le (a := dval (bat s at')) (b := w) (A := 35) (B := 2147483647) (by omega) (by omega) hd.2 hw1
        rw [decide_eq_false a, cond_false, if_neg a, w64 (x := dval (bat s at') * w) (by omega) (by omega), w64 (x := i + dval (bat s at') * w) (by omega) (by omega)]
        by_cases b : 2147483647 < i + dval (bat s at') * w
        · rw [show decide (i + dval (bat s at') * w > 2147483647) = true from decide_eq_true b, cond_true, if_pos b]
        · rw [show decide (i + dval (bat s at') * w > 2147483647) = false from decide_eq_false b, cond_false, if_neg b, c_puny_threshold_val k bias ⟨hk0, by omega⟩ hb, Option.bind_some]
          by_cases c : dval (bat s at') < thr k bias
          · rw [decide_eq_true c, cond_true, if_pos c, hwat]
          · have hm2 := mul_le (a := w) (b := 36 - thr k bias) (A := 2147483647) (B := 35) (by omega) (by omega) hw1 (by omega)
            have hm3 : 1 ≤ w * (36 - thr k bias) := one_le_mul hw0 (by omega)
            rw [decide_eq_false c, cond_false, if_neg c, w64 (x := 36 - thr k bias) (by omega) (by omega), w64 (x := w * (36 - thr k bias)) (by omega) (by omega)]
            by_cases e : 2147483647 < w * (36 - thr k bias)
            · rw [show decide (w * (36 - thr k bias) > 2147483647) = true from decide_eq_true e, cond_true, if_pos e]
            · rw [show decide (w * (36 - thr k bias) > 2147483647) = false from decide_eq_false e, cond_false, if_neg e, hwat, w64 (x := k + 36) (by omega) (by omega)]
              exact ih (at' + 1) _ _ _ (by omega) (by omega) (by omega) hm3 (by omega) (by omega) (by omega)
    rw [p_puny_number_1_eq, show (((at' : Nat) : Int) == ((s.length : Nat) : Int)) = false from beq_eq_false_iff_ne.2 (by omega), cond_false, inside_nat, decide_eq_true hlt, cond_true, Int.toNat_natCast, c_strings_IndexByte_eq, primIndexByte, Option.bind_some, cond_true]
    rw [show ([(97 : UInt8), (98 : UInt8), (99 : UInt8), (100 : UInt8), (101 : UInt8), (102 : UInt8), (103 : UInt8), (104 : UInt8), (105 : UInt8), (106 : UInt8), (107 : UInt8), (108 : UInt8), (109 : UInt8), (110 : UInt8), (111 : UInt8), (112 : UInt8), (113 : UInt8), (114 : UInt8), (115 : UInt8), (116 : UInt8), (117 : UInt8), (118 : UInt8), (119 : UInt8), (120 : UInt8), (121 : UInt8), (122 : UInt8), (48 : UInt8), (49 : UInt8), (50 : UInt8), (51 : UInt8), (52 : UInt8), (53 : UInt8), (54 : UInt8), (55 : UInt8), (56 : UInt8), (57 : UInt8)] : List UInt8) = az36 from rfl]
    unfold dexp at hx
    simp only at hx
    generalize Lib.indexByte az36 (UInt8.ofNat (((s.getD at' 0).toNat : Nat) : Int).toNat) = x at hx ⊢
    generalize bits Go.BinOp.or IntKind.u8 (((s.getD at' 0).toNat : Nat) : Int) 32 = c at hx ⊢
    by_cases a : x < 0
    · rw [if_pos a] at hx
      rw [decide_eq_true a, cond_true]
      by_cases b : 97 ≤ c
      · rw [show decide (c ≥ 97) = true from decide_eq_true b, cond_true]
        by_cases e : c ≤ 122
        · rw [if_pos ⟨b, e⟩] at hx
          rw [decide_eq_true e, cond_true, hx]; exact key
        · rw [if_neg (fun h => e h.2)] at hx
          rw [decide_eq_false e, cond_false, hx]; exact key
      · rw [if_neg (fun h => b h.1)] at hx
        rw [show decide (c ≥ 97) = false from decide_eq_false b, cond_false, hx]; exact key
    · rw [if_neg a] at hx
      rw [decide_eq_false a, cond_false, hx]; exact key
theorem c_puny_number_val (s : List UInt8) (at' : Nat) (i bias : Int) (hs : s.length ≤ 1073741824) (hat : at' ≤ s.length) (hi0 : 0 ≤ i) (hi1 : i ≤ 2147483647) (hb : 0 ≤ bias ∧ bias ≤ 4096) :
    c_puny_number (s, (at' : Int), i, bias) = some (numV s bias at' (s.length - at') at' i 1 36) := by
  rw [c_puny_number_eq, p_puny_number_0_eq]
  exact number_go s bias at' hs hb (s.length - at') at' i 1 36 (by omega) hi0 hi1 (by omega) (by omega) (by omega) (by omega)
/-- What it answers. -/
theorem numV_facts (s : List UInt8) (bias : Int) (fr : Nat) (n : Nat) : ∀ (at' : Nat) (i w k : Int), 0 ≤ i → 1 ≤ w → at' + n = s.length → (numV s bias fr n at' i w k).2.2.1 = 0 →
    i ≤ (numV s bias fr n at' i w k).1 ∧ (numV s bias fr n at' i w k).1 ≤ 2147483647 ∧ ∃ m : Nat, (numV s bias fr n at' i w k).2.1 = (m : Int) ∧ at' < m ∧ m ≤ s.length := by
  induction n with
  | zero => intro at' i w k _ _ _ h; exact absurd h (by unfold numV; simp)
  | succ n ih =>
    intro at' i w k hi hw hat
    have ht := thr_range k bias
    unfold numV
    by_cases a : dval (bat s at') < 0
    · rw [if_pos a]; intro h; exact absurd h (by simp)
    · rw [if_neg a]
      have hm : 0 ≤ dval (bat s at') * w := Int.mul_nonneg (by omega) (by omega)
      by_cases b : 2147483647 < i + dval (bat s at') * w
      · rw [if_pos b]; intro h; exact absurd h (by simp)
      · rw [if_neg b]
        by_cases c : dval (bat s at') < thr k bias
        · rw [if_pos c]; intro _; exact ⟨by dsimp only; omega, by dsimp only; omega, at' + 1, rfl, by omega, by omega⟩
        · rw [if_neg c]
          by_cases e : 2147483647 < w * (36 - thr k bias)
          · rw [if_pos e]; intro h; exact absurd h (by simp)
          · rw [if_neg e]
            intro h
            have hm3 : 1 ≤ w * (36 - thr k bias) := one_le_mul hw (by omega)
            obtain ⟨h1, h2, m, h3, h4, h5⟩ := ih (at' + 1) _ _ _ (by omega) hm3 (by omega) h
            exact ⟨by omega, h2, m, h3, by omega, h5⟩
end Go.Abs
/- puny: decoding. -/
namespace Go.Abs
set_option autoImplicit false

def valInt : Value → Int
  | .int _ n => n
  | _ => 0
theorem runesFrom_val (s : List UInt8) : ∀ (n k : Nat) (acc : Array Value), ((Conv.runesFrom ⟨s.toArray⟩ n k acc).map valInt).toList = (acc.map valInt).toList ++ (pcs s n k).map (·.2.1)
  | 0, k, acc => by simp [Conv.runesFrom, pcs]
  | n + 1, k, acc => by
    unfold Conv.runesFrom pcs
    have hsz : (⟨s.toArray⟩ : ByteArray).size = s.length := by simp [ByteArray.size]
    rw [hsz]
    by_cases c : k < s.length
    · rw [if_pos c, if_pos c]
      have h1 : (((Utf8.decode ⟨s.toArray⟩ k).1 : Nat) : Int) = (runeAt s k).1 := decRune_rune s k
      have h2 : (Utf8.decode ⟨s.toArray⟩ k).2 = wd s k := decRune_wd s k
      show ((Conv.runesFrom ⟨s.toArray⟩ n (k + (Utf8.decode ⟨s.toArray⟩ k).2) (acc.push (.int .i32 (Int.ofNat (Utf8.decode ⟨s.toArray⟩ k).1)))).map valInt).toList = _
      rw [runesFrom_val s n _ _, h2, Array.map_push, Array.toList_push, List.map_cons, List.append_assoc]
      have e : valInt (.int .i32 (Int.ofNat (Utf8.decode ⟨s.toArray⟩ k).1)) = (runeAt s k).1 := h1
      rw [e]; rfl
    · rw [if_neg c, if_neg c]; simp
theorem runesOf_val (s : List UInt8) : runesOf s = scalarsOf s := by
  have h := runesFrom_val s s.length 0 #[]
  have e : runesOf s = ((Conv.runesFrom ⟨s.toArray⟩ s.length 0 #[]).map valInt).toList := by
    unfold runesOf
    congr 2
  rw [e, h]; simp [scalarsOf, piecesOf]

/-- The place of the last hyphen; -1: none. -/
def lastB (s : List UInt8) : Nat → Int
  | 0 => -1
  | n + 1 => if bat s n = 45 then (n : Int) else lastB s n
theorem lastB_range (s : List UInt8) : ∀ n : Nat, -1 ≤ lastB s n ∧ lastB s n < n
  | 0 => by unfold lastB; omega
  | n + 1 => by
    have := lastB_range s n
    unfold lastB; split <;> omega
theorem last_go (s : List UInt8) (hs : s.length ≤ 1073741824) : ∀ n : Nat, n ≤ s.length → p_ibytealg_LastIndexByteString_1 s 45 ((n : Int) - 1) = some (lastB s n)
  | 0, h => by
    rw [p_ibytealg_LastIndexByteString_1_eq, show decide (((0 : Nat) : Int) - 1 ≥ 0) = false from rfl, cond_false]; rfl
  | n + 1, h => by
    have e : ((n + 1 : Nat) : Int) - 1 = (n : Int) := by omega
    rw [e, p_ibytealg_LastIndexByteString_1_eq, show decide ((n : Int) ≥ 0) = true from decide_eq_true (by omega), cond_true, inside_nat, decide_eq_true (by omega), cond_true, Int.toNat_natCast, show (((s.getD n 0).toNat : Nat) : Int) = bat s n from rfl]
    unfold lastB
    by_cases c : bat s n = 45
    · rw [show (bat s n == 45) = true from beq_iff_eq.2 c, cond_true, if_pos c]
    · rw [show (bat s n == 45) = false from beq_eq_false_iff_ne.2 c, cond_false, if_neg c, w64 (by omega) (by omega), last_go s hs n (by omega)]
theorem c_last_val (s : List UInt8) (hs : s.length ≤ 1073741824) : c_strings_LastIndexByte (s, 45) = some (lastB s s.length) := by
  rw [c_strings_LastIndexByte_eq, p_strings_LastIndexByte_0_eq, c_ibytealg_LastIndexByteString_eq, p_ibytealg_LastIndexByteString_0_eq]
  simp only
  rw [w64 (by omega) (by omega), last_go s hs s.length (Nat.le_refl _)]; rfl

def ins (l : List Int) (i : Nat) (x : Int) : List Int := l.take i ++ [x] ++ l.drop i
theorem ins_len (l : List Int) (i : Nat) (x : Int) (h : i ≤ l.length) : (ins l i x).length = l.length + 1 := by
  unfold ins; simp; omega
theorem Insert_val (l : List Int) (i : Nat) (x : Int) (hi : i ≤ l.length) (hl : l.length ≤ 4294967296) : c_slices_Insert_rune_rune (l, (i : Int), [x]) = some (ins l i x) := by
  rw [c_slices_Insert_rune_rune_eq, primInsert]
  simp only
  rw [show decide ((0 : Int) ≤ (i : Int)) = true from decide_eq_true (by omega), show decide ((i : Int) ≤ (l.length : Int)) = true from decide_eq_true (by omega), show decide ([x].length = 1) = true from rfl, decide_eq_true hl]
  rfl

/-- The characters that numbers tell. -/
def decV (s : List UInt8) (plain : Nat) : Nat → Nat → Int → Int → Int → List Int → List UInt8 × (Int × Int)
  | 0, _, _, _, _, l => (strOfRunes l, (0, 0))
  | f + 1, at', i, n, bias, l =>
    if s.length ≤ at' then (strOfRunes l, (0, 0))
    else if (numV s bias at' (s.length - at') at' i 1 36).2.2.1 ≠ 0 then ([], ((numV s bias at' (s.length - at') at' i 1 36).2.2.1, (numV s bias at' (s.length - at') at' i 1 36).2.2.2))
    else if 1114111 < n + (numV s bias at' (s.length - at') at' i 1 36).1 / ((l.length + 1 : Nat) : Int) ∨ (55296 ≤ n + (numV s bias at' (s.length - at') at' i 1 36).1 / ((l.length + 1 : Nat) : Int) ∧ n + (numV s bias at' (s.length - at') at' i 1 36).1 / ((l.length + 1 : Nat) : Int) ≤ 57343) then ([], (32, (at' : Int)))
    else decV s plain f (numV s bias at' (s.length - at') at' i 1 36).2.1.toNat ((numV s bias at' (s.length - at') at' i 1 36).1 % ((l.length + 1 : Nat) : Int) + 1) (n + (numV s bias at' (s.length - at') at' i 1 36).1 / ((l.length + 1 : Nat) : Int))
      (adaptV ((numV s bias at' (s.length - at') at' i 1 36).1 - i) ((l.length + 1 : Nat) : Int) (((l.length : Nat) : Int) == ((plain : Nat) : Int))) (ins l ((numV s bias at' (s.length - at') at' i 1 36).1 % ((l.length + 1 : Nat) : Int)).toNat (n + (numV s bias at' (s.length - at') at' i 1 36).1 / ((l.length + 1 : Nat) : Int)))

theorem decode_go (s : List UInt8) (plain : Nat) (hs : s.length ≤ 1073741824) (f : Nat) : ∀ (at' : Nat) (i n bias : Int) (l : List Int), s.length ≤ at' + f → at' ≤ s.length → 0 ≤ i → i ≤ 2147483647 → 128 ≤ n → n ≤ 1114111 → 0 ≤ bias ∧ bias ≤ 4096 → l.length ≤ at' →
    p_puny_decode_4 s (at' : Int) (plain : Int) i n bias l = some (decV s plain f at' i n bias l) := by
  induction f with
  | zero =>
    intro at' i n bias l hf hat _ _ _ _ _ _
    rw [p_puny_decode_4_eq, lt_nat, decide_eq_false (by omega), cond_false]; rfl
  | succ f ih =>
    intro at' i n bias l hf hat hi0 hi1 hn0 hn1 hb hl
    unfold decV
    by_cases c : at' < s.length
    · rw [p_puny_decode_4_eq, lt_nat, decide_eq_true c, cond_true, c_puny_number_val s at' i bias hs hat hi0 hi1 hb, Option.bind_some, if_neg (by omega)]
      have hfacts := numV_facts s bias at' (s.length - at') at' i 1 36 hi0 (by omega) (by omega)
      generalize numV s bias at' (s.length - at') at' i 1 36 = y at hfacts ⊢
      by_cases e : y.2.2.1 = 0
      · obtain ⟨h1, h2, m, h3, h4, h5⟩ := hfacts e
        have hpts : IntKind.i64.wrap (((l.length : Nat) : Int) + 1) = ((l.length + 1 : Nat) : Int) := by rw [w64 (by omega) (by omega)]; omega
        have q0 : 0 ≤ y.1 / ((l.length + 1 : Nat) : Int) := Int.ediv_nonneg (by omega) (by omega)
        have q1 : y.1 / ((l.length + 1 : Nat) : Int) ≤ y.1 := Int.ediv_le_self _ (by omega)
        have r0 : 0 ≤ y.1 % ((l.length + 1 : Nat) : Int) := Int.emod_nonneg _ (by omega)
        have r1 : y.1 % ((l.length + 1 : Nat) : Int) < ((l.length + 1 : Nat) : Int) := Int.emod_lt_of_pos _ (by omega)
        have hb' := adaptV_range (y.1 - i) ((l.length + 1 : Nat) : Int) (((l.length : Nat) : Int) == ((plain : Nat) : Int)) (by omega) (by omega)
        rw [show (y.2.2.1 != 0) = false from by simp [e], cond_false, if_neg (fun h => h e), w64 (x := y.1 - i) (by omega) (by omega), hpts, c_puny_adapt_val _ _ _ (by omega) (by omega) (by omega) (by omega), Option.bind_some]
        rw [show (((l.length + 1 : Nat) : Int) != 0) = true from bne_iff_ne.2 (by omega), cond_true, Int.tdiv_eq_ediv_of_nonneg (by omega), Int.tmod_eq_emod_of_nonneg (by omega), w64 (x := y.1 / ((l.length + 1 : Nat) : Int)) (by omega) (by omega), w64 (x := n + y.1 / ((l.length + 1 : Nat) : Int)) (by omega) (by omega)]
        simp only [cond_true]
        generalize y.1 / ((l.length + 1 : Nat) : Int) = Q at q0 q1 ⊢
        generalize y.1 % ((l.length + 1 : Nat) : Int) = M at r0 r1 ⊢
        generalize adaptV (y.1 - i) ((l.length + 1 : Nat) : Int) (((l.length : Nat) : Int) == ((plain : Nat) : Int)) = B at hb' ⊢
        by_cases g : n + Q > 1114111
        · rw [decide_eq_true g, cond_true, if_pos (.inl g)]
        · rw [decide_eq_false g, cond_false]
          have hM : ((M.toNat : Nat) : Int) = M := Int.toNat_of_nonneg r0
          have go : ¬ (55296 ≤ n + Q ∧ n + Q ≤ 57343) → ((c_slices_Insert_rune_rune (l, (M, [IntKind.i32.wrap (n + Q)]))).bind fun y2 => p_puny_decode_4 s y.2.1 (plain : Int) (IntKind.i64.wrap (M + 1)) (n + Q) B y2) =
              some (decV s plain f y.2.1.toNat (M + 1) (n + Q) B (ins l M.toNat (n + Q))) := by
            intro _
            rw [w32 (by omega) (by omega), ← hM, Insert_val l M.toNat _ (by omega) (by omega), Option.bind_some, hM, w64 (by omega) (by omega), h3, Int.toNat_natCast]
            exact ih m (M + 1) (n + Q) B _ (by omega) (by omega) (by omega) (by omega) (by omega) (by omega) hb' (by rw [ins_len _ _ _ (by omega)]; omega)
          by_cases a : n + Q ≥ 55296
          · rw [decide_eq_true a, cond_true]
            by_cases b : n + Q ≤ 57343
            · rw [decide_eq_true b, cond_true, if_pos (.inr ⟨a, b⟩)]
            · rw [decide_eq_false b, cond_false, if_neg (by omega)]; exact go (by omega)
          · rw [decide_eq_false a, cond_false, if_neg (by omega)]; exact go (by omega)
      · rw [show (y.2.2.1 != 0) = true from by simp [e], cond_true, if_pos e]
    · rw [p_puny_decode_4_eq, lt_nat, decide_eq_false c, cond_false, if_pos (by omega)]
end Go.Abs
