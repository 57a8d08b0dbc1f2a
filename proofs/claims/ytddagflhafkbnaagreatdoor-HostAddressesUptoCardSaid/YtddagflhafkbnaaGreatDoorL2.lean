/- Part L2 of the proof: see the last text of the claim. No condition of its own. -/
import Derived.Test.YtddagflhafkbnaaGreatDoorL1
set_option linter.all false
/- The parts of an IPv6 address. -/
namespace Go.Abs
set_option autoImplicit false

/-! a byte in a text -/
theorem pre1 (c b : UInt8) (l : List UInt8) : ([c] : List UInt8).isPrefixOf (b :: l) = (c == b) := by simp [List.isPrefixOf]
theorem index_any (c : UInt8) : ∀ x : List UInt8, decide (Lib.index x [c] ≥ 0) = x.any (fun b => b == c)
  | [] => rfl
  | b :: l => by
    have ih := index_any c l
    have hge := Lib.index_ge l [c]
    rw [Lib.index, pre1, List.any_cons, ← ih]
    by_cases h : c = b
    · subst h; simp
    · have h1 : (c == b) = false := by simpa using h
      have h2 : (b == c) = false := by simpa using fun e => h e.symm
      rw [h1, h2, if_neg (by simp), Bool.false_or]
      by_cases h3 : Lib.index l [c] = -1
      · rw [h3]; rfl
      · rw [if_neg (by simpa using h3)]
        rw [decide_eq_true (by omega : Lib.index l [c] ≥ 0), decide_eq_true (by omega : Lib.index l [c] + 1 ≥ 0)]

def hasDot (x : List UInt8) : Bool := x.any fun b => b == 46
theorem c_strings_Contains_val (x : List UInt8) (hx : x.length ≤ 1073741824) : c_strings_Contains (x, [46]) = some (hasDot x) := by
  rw [c_strings_Contains_eq, p_strings_Contains_0_eq, c_strings_Index_eq, primIndex]
  rw [show decide (x.length < 4294967281) = true from decide_eq_true (by omega), cond_true, Option.bind_some, index_any]
  rfl

theorem p_ref01_Has_1_val (x : List UInt8) (hx : x.length ≤ 1073741824) : ∀ (k i : Nat), i + k = x.length → p_ref01_Has_1 x 46 (i : Int) = some (hasDot (x.drop i))
  | 0, i, hk => by
    have : i = x.length := by omega
    subst this
    rw [p_ref01_Has_1_eq]; simp [hasDot]
  | k + 1, i, hk => by
    have hi : i < x.length := by omega
    have hw : IntKind.i64.wrap ((i : Int) + 1) = ((i + 1 : Nat) : Int) := by rw [w64 (by omega) (by omega)]; omega
    have hget : x.getD (Int.toNat (i : Int)) 0 = x[i] := by
      rw [Int.toNat_natCast, List.getD_eq_getElem?_getD, List.getElem?_eq_getElem hi]; rfl
    rw [p_ref01_Has_1_eq]
    simp only [lt_nat, hi, decide_true, cond_true, inside_nat, hget, hw]
    rw [List.drop_eq_getElem_cons hi, p_ref01_Has_1_val x hx k (i + 1) (by omega)]
    by_cases h : x[i] = 46
    · rw [h]; simp [hasDot]
    · have : (((x[i].toNat : Nat) : Int) == 46) = false := by
        have : x[i].toNat ≠ 46 := fun e => h (UInt8.toNat_inj.1 e)
        simp; omega
      rw [this, cond_false]
      have h2 : (x[i] == 46) = false := by simpa using h
      simp only [hasDot, List.any_cons, h2, Bool.false_or]
theorem c_ref01_Has_val (x : List UInt8) (hx : x.length ≤ 1073741824) : c_ref01_Has (x, 46) = some (hasDot x) := by
  rw [c_ref01_Has_eq, p_ref01_Has_0_eq]
  exact p_ref01_Has_1_val x hx x.length 0 (by omega)

/-! a small number -/
def decGo : Int → List UInt8 → Int
  | n, [] => n
  | n, b :: l => decGo (n * 10 + (byteI b - 48)) l
def dec3 (x : List UInt8) : Option Int :=
  if x.length < 1 ∨ 3 < x.length then none else if x.all isDig = true then (if x.getD 0 0 = 48 ∧ 1 < x.length then none else if 255 < decGo 0 x then none else some (decGo 0 x)) else none

theorem byte48 (b : UInt8) : (((b.toNat : Nat) : Int) == 48) = decide (b = 48) := by
  by_cases h : b = 48
  · subst h; rfl
  · have : b.toNat ≠ 48 := fun e => h (UInt8.toNat_inj.1 e)
    rw [decide_eq_false h]; simp; omega

theorem isDig_le (b : UInt8) (h : isDig b = true) : 48 ≤ byteI b ∧ byteI b ≤ 57 := by simpa [isDig] using h

/-- The reference's loop. -/
theorem p_ref05_small_1_val (x : List UInt8) (h3 : x.length ≤ 3) : ∀ (k i : Nat) (n : Int), i + k = x.length → 0 ≤ n → n < 10 ^ i →
    p_ref05_small_1 x n (i : Int) = some (if (x.drop i).all isDig = true then (if 255 < decGo n (x.drop i) then -1 else decGo n (x.drop i)) else -1)
  | 0, i, n, hk, h0, h1 => by
    have : i = x.length := by omega
    subst this
    rw [p_ref05_small_1_eq]
    simp only [lt_nat, Nat.lt_irrefl, decide_false, cond_false, List.drop_length, List.all_nil, if_true, decGo]
    by_cases c : 255 < n
    · rw [show decide (n > 255) = true from by simpa using c, cond_true, if_pos c]
    · rw [show decide (n > 255) = false from by simpa using c, cond_false, if_neg c]
  | k + 1, i, n, hk, h0, h1 => by
    have hi : i < x.length := by omega
    have hw : IntKind.i64.wrap ((i : Int) + 1) = ((i + 1 : Nat) : Int) := by rw [w64 (by omega) (by omega)]; omega
    have hget : x.getD (Int.toNat (i : Int)) 0 = x[i] := by
      rw [Int.toNat_natCast, List.getD_eq_getElem?_getD, List.getElem?_eq_getElem hi]; rfl
    have hb := byteI_lt x[i]
    have hn : n < 1000 := by
      have : i = 0 ∨ i = 1 ∨ i = 2 := by omega
      rcases this with rfl | rfl | rfl <;> simp at h1 <;> omega
    rw [p_ref05_small_1_eq]
    simp only [lt_nat, hi, decide_true, cond_true, inside_nat, hget, hw]
    rw [show ((x[i].toNat : Nat) : Int) = byteI x[i] from rfl, List.drop_eq_getElem_cons hi, List.all_cons]
    by_cases a : byteI x[i] < 48
    · rw [decide_eq_true a, cond_true]
      have : isDig x[i] = false := by simp [isDig]; omega
      simp [this]
    · rw [decide_eq_false a, cond_false]
      by_cases c : byteI x[i] > 57
      · rw [decide_eq_true c, cond_true]
        have : isDig x[i] = false := by simp [isDig]; omega
        simp [this]
      · rw [decide_eq_false c, cond_false]
        have hd : isDig x[i] = true := by simp [isDig]; omega
        rw [w64 (x := n * 10) (by omega) (by omega), w8 (x := byteI x[i] - 48) (by omega) (by omega), w64 (x := byteI x[i] - 48) (by omega) (by omega), w64 (by omega) (by omega)]
        rw [p_ref05_small_1_val x h3 k (i + 1) _ (by omega) (by omega) (by rw [Int.pow_succ]; omega), hd, Bool.true_and]
        rfl

def orNeg : Option Int → Int
  | some v => v
  | none => -1

theorem c_ref05_small_val (x : List UInt8) : c_ref05_small x = some (orNeg (dec3 x)) := by
  rw [c_ref05_small_eq, p_ref05_small_0_eq]
  unfold dec3
  by_cases h0 : x.length < 1 ∨ 3 < x.length
  · rw [if_pos h0]
    by_cases a : x.length < 1
    · have : x = [] := List.eq_nil_of_length_eq_zero (by omega)
      subst this; rfl
    · rw [show (((x.length : Nat) : Int) == 0) = false from beq_eq_false_iff_ne.2 (by omega), cond_false, show decide (((x.length : Nat) : Int) > 3) = true from decide_eq_true (by omega), cond_true]; rfl
  · rw [if_neg h0, show (((x.length : Nat) : Int) == 0) = false from beq_eq_false_iff_ne.2 (by omega), cond_false, show decide (((x.length : Nat) : Int) > 3) = false from decide_eq_false (by omega), cond_false]
    rw [show inside (0 : Int) x.length = true from by rw [show (0 : Int) = ((0 : Nat) : Int) from rfl, inside_nat]; exact decide_eq_true (by omega), cond_true]
    have loop := p_ref05_small_1_val x (by omega) x.length 0 0 (by omega) (by omega) (by simp)
    rw [show ((0 : Nat) : Int) = 0 from rfl, List.drop_zero] at loop
    rw [byte48, show Int.toNat (0 : Int) = 0 from rfl, loop]
    cases hd : x.all isDig with
    | false =>
      rw [if_neg (by simp), if_neg (by simp)]
      by_cases c : x.getD 0 0 = 48
      · rw [decide_eq_true c, cond_true]
        cases decide (((x.length : Nat) : Int) > 1) <;> rfl
      · rw [decide_eq_false c]; rfl
    | true =>
      rw [if_pos rfl, if_pos rfl]
      by_cases c : x.getD 0 0 = 48
      · rw [decide_eq_true c, cond_true]
        by_cases d : 1 < x.length
        · rw [show decide (((x.length : Nat) : Int) > 1) = true from by simp; omega, cond_true, if_pos (show x.getD 0 0 = 48 ∧ 1 < x.length from ⟨c, d⟩)]
          rfl
        · rw [show decide (((x.length : Nat) : Int) > 1) = false from by simp; omega, cond_false, if_neg (show ¬ (x.getD 0 0 = 48 ∧ 1 < x.length) from fun h => d h.2)]
          split <;> rfl
      · rw [decide_eq_false c, cond_false, if_neg (show ¬ (x.getD 0 0 = 48 ∧ 1 < x.length) from fun h => c h.1)]
        split <;> rfl
end Go.Abs
/- The dotted tail of an IPv6 address. -/
namespace Go.Abs
set_option autoImplicit false

theorem w16 {x : Int} (h1 : 0 ≤ x) (h2 : x ≤ 65535) : IntKind.u16.wrap x = x := by
  change (if (false && decide (x % (65536 : Int) ≥ (32768 : Int))) = true then x % (65536 : Int) - (65536 : Int) else x % (65536 : Int)) = x
  rw [if_neg (by simp)]; omega

theorem digs_all : (List.range 256).all (fun n => inSet digs (byteI (UInt8.ofNat n)) == isDig (UInt8.ofNat n)) = true := by kernel_rfl
theorem digs_isDig (b : UInt8) : inSet digs (byteI b) = isDig b := by
  refine byte_all (p := fun b => inSet digs (byteI b) = isDig b) (fun n hn => ?_) b
  have := List.all_eq_true.1 digs_all n (List.mem_range.2 hn)
  simpa using this
theorem all_digs (x : List UInt8) (hx : x.length ≤ 1073741824) : c_host_all (x, [48, 49, 50, 51, 52, 53, 54, 55, 56, 57]) = some (x.all isDig) := by
  rw [show ([48, 49, 50, 51, 52, 53, 54, 55, 56, 57] : List UInt8) = digs from rfl, c_host_all_val x digs digs_small hx]
  congr 2
  funext b
  exact digs_isDig b

theorem decGo_ge : ∀ (x : List UInt8) (n : Int), 0 ≤ n → x.all isDig = true → 0 ≤ decGo n x
  | [], n, h, _ => h
  | b :: l, n, h, hd => by
    rw [List.all_cons, Bool.and_eq_true] at hd
    have := isDig_le b hd.1
    exact decGo_ge l _ (by omega) hd.2
theorem dec3_some {x : List UInt8} {v : Int} (h : dec3 x = some v) : 1 ≤ x.length ∧ x.length ≤ 3 ∧ x.all isDig = true ∧ ¬ (x.getD 0 0 = 48 ∧ 1 < x.length) ∧ v = decGo 0 x ∧ 0 ≤ v ∧ v ≤ 255 := by
  unfold dec3 at h
  split at h
  · cases h
  · split at h
    · split at h
      · cases h
      · split at h
        · cases h
        · rename_i h1 h2 h3 h4
          have := Option.some.inj h
          have := decGo_ge x 0 (by omega) h2
          exact ⟨by omega, by omega, h2, h3, by omega, by omega, by omega⟩
    · cases h

/-! The reference's. -/
theorem or_add {a b : Int} (ha : 0 ≤ a ∧ a ≤ 255) (hb : 0 ≤ b ∧ b ≤ 255) : bits Go.BinOp.or IntKind.u16 (a * 256) b = a * 256 + b := by
  obtain ⟨m, rfl⟩ := Int.eq_ofNat_of_zero_le ha.1
  obtain ⟨n, rfl⟩ := Int.eq_ofNat_of_zero_le hb.1
  have e1 : (BitVec.ofInt 16 ((m : Int) * 256)).toNat = m * 2 ^ 8 := by
    rw [BitVec.toNat_ofInt]; omega
  have e2 : (BitVec.ofInt 16 (n : Int)).toNat = n := by
    rw [BitVec.toNat_ofInt]; omega
  have e : (BitVec.ofInt 16 ((m : Int) * 256) ||| BitVec.ofInt 16 (n : Int)).toNat = m * 256 + n := by
    rw [BitVec.toNat_or, e1, e2, Nat.mul_comm m, ← Nat.two_pow_add_eq_or_of_lt (by omega)]
  show IntKind.u16.wrap (((BitVec.ofInt 16 ((m : Int) * 256) ||| BitVec.ofInt 16 (n : Int)).toNat : Nat) : Int) = _
  rw [e, w16 (by omega) (by omega)]
  omega

theorem and_low {n : Int} (h0 : 0 ≤ n) (h1 : n ≤ 4294967295) : bits Go.BinOp.and IntKind.i64 n 65535 = n % 65536 := by
  obtain ⟨m, rfl⟩ := Int.eq_ofNat_of_zero_le h0
  have e1 : (BitVec.ofInt 64 (m : Int)).toNat = m := by
    rw [BitVec.toNat_ofInt]; omega
  have e2 : (BitVec.ofInt 64 (65535 : Int)).toNat = 2 ^ 16 - 1 := by
    rw [BitVec.toNat_ofInt]; omega
  have e : (BitVec.ofInt 64 (m : Int) &&& BitVec.ofInt 64 (65535 : Int)).toNat = m % 65536 := by
    rw [BitVec.toNat_and, e1, e2, Nat.and_two_pow_sub_one_eq_mod]
  show IntKind.i64.wrap (((BitVec.ofInt 64 (m : Int) &&& BitVec.ofInt 64 (65535 : Int)).toNat : Nat) : Int) = _
  rw [e, w64 (by omega) (by omega)]
  omega

theorem shr16 (n : Int) : shr IntKind.i64 n 16 = n / 65536 := by
  show n.fdiv (2 ^ (min 16 64)) = _
  rw [Int.fdiv_eq_ediv_of_nonneg _ (by decide)]
  rfl

theorem shl16 {a : Int} (h0 : 0 ≤ a) (h1 : a ≤ 255) : shl IntKind.u16 a 8 = a * 256 := by
  show IntKind.u16.wrap (a * 2 ^ (min 8 16)) = _
  rw [show (2 : Int) ^ (min 8 16) = 256 from rfl, w16 (by omega) (by omega)]

def quadOf : List (List UInt8) → Option (List Int)
  | [x0, x1, x2, x3] => (dec3 x0).bind fun a => (dec3 x1).bind fun b => (dec3 x2).bind fun c => (dec3 x3).bind fun d => some [a * 256 + b, c * 256 + d]
  | _ => none
def quad (x : List UInt8) : Option (List Int) := quadOf (splitAt x 46)

theorem orNeg_none {x : List UInt8} (h : dec3 x = none) : decide (orNeg (dec3 x) < 0) = true := by rw [h]; rfl
theorem orNeg_some {x : List UInt8} {v : Int} (h : dec3 x = some v) : orNeg (dec3 x) = v ∧ decide (orNeg (dec3 x) < 0) = false := by
  have := dec3_some h
  rw [h]
  refine ⟨rfl, ?_⟩
  show decide (v < 0) = false
  exact decide_eq_false (by omega)

theorem p_ref05_run_2_step (s : List UInt8) (t : Bool) (j n : Int) (i : Nat) (r0 : List (List UInt8)) (r1 : List Int) (r2 : List (List UInt8)) (x : List UInt8) (hi : i < 4) (hx : r2[i]? = some x) (h0 : 0 ≤ n) (h1 : n < 256 ^ i) :
    p_ref05_run_2 s t j n (i : Int) r0 r1 r2 = match dec3 x with | none => some ([], false) | some v => p_ref05_run_2 s t j (n * 256 + v) ((i + 1 : Nat) : Int) r0 r1 r2 := by
  have hw : IntKind.i64.wrap ((i : Int) + 1) = ((i + 1 : Nat) : Int) := by rw [w64 (by omega) (by omega)]; omega
  have hget : List.getD r2 (Int.toNat (i : Int)) (Ty.zero .str) = x := by
    rw [Int.toNat_natCast, List.getD_eq_getElem?_getD, hx]; rfl
  have hl : i < r2.length := by
    rcases Nat.lt_or_ge i r2.length with h | h
    · exact h
    · rw [List.getElem?_eq_none h] at hx; cases hx
  have hn : n < 16777216 := by
    have : i = 0 ∨ i = 1 ∨ i = 2 ∨ i = 3 := by omega
    rcases this with rfl | rfl | rfl | rfl <;> simp at h1 <;> omega
  rw [p_ref05_run_2_eq, show decide ((i : Int) < 4) = true from decide_eq_true (by omega), cond_true, inside_nat, decide_eq_true hl, cond_true, hget, c_ref05_small_val, Option.bind_some]
  cases hd : dec3 x with
  | none => rfl
  | some v =>
    have hv := dec3_some hd
    show (bif decide (v < 0) then _ else _) = _
    rw [decide_eq_false (by omega), cond_false]
    show p_ref05_run_2 s t j (IntKind.i64.wrap (shl IntKind.i64 n 8 + v)) _ r0 r1 r2 = _
    rw [show shl IntKind.i64 n 8 = n * 256 from shl64 (y := 8) (by omega) (by omega) (by omega), w64 (by omega) (by omega), hw]

theorem p_ref05_run_2_end (s : List UInt8) (t : Bool) (j : Int) (a b c d : Int) (r0 : List (List UInt8)) (r1 : List Int) (r2 : List (List UInt8)) (ha : 0 ≤ a ∧ a ≤ 255) (hb : 0 ≤ b ∧ b ≤ 255) (hc : 0 ≤ c ∧ c ≤ 255) (hd : 0 ≤ d ∧ d ≤ 255) (hr : r1.length ≤ 1073741825) :
    p_ref05_run_2 s t j ((((0 * 256 + a) * 256 + b) * 256 + c) * 256 + d) ((4 : Nat) : Int) r0 r1 r2 = p_ref05_run_1 s t (IntKind.i64.wrap (j + 1)) r0 (r1 ++ [a * 256 + b, c * 256 + d]) := by
  rw [p_ref05_run_2_eq, show decide (((4 : Nat) : Int) < 4) = false from rfl, cond_false]
  rw [show decide (r1.length + [IntKind.wrap IntKind.u16 (shr IntKind.i64 ((((0 * 256 + a) * 256 + b) * 256 + c) * 256 + d) 16), IntKind.wrap IntKind.u16 (bits Go.BinOp.and IntKind.i64 ((((0 * 256 + a) * 256 + b) * 256 + c) * 256 + d) 65535)].length ≤ lim) = true from by simp [lim]; omega, cond_true]
  rw [shr16 _, and_low (by omega) (by omega), w16 (by omega) (by omega), w16 (by omega) (by omega)]
  congr 3
  · omega
  · congr 1; omega

/-- The reference's tail. -/
theorem ref_tail (s : List UInt8) (t : Bool) (j : Int) (r0 : List (List UInt8)) (r1 : List Int) (x : List UInt8) (hx : x.length ≤ 1073741824) (hr : r1.length ≤ 1073741825) :
    ((c_ref01_Split (x, 46)).bind fun y1 => bif ((((List.length y1) : Nat) : Int) != (4 : Int)) then some (([] : List Int), false) else p_ref05_run_2 s t j 0 0 r0 r1 y1) =
      match quad x with | none => some ([], false) | some l => p_ref05_run_1 s t (IntKind.i64.wrap (j + 1)) r0 (r1 ++ l) := by
  rw [c_ref01_Split_val x 46 hx, Option.bind_some]
  unfold quad
  generalize splitAt x 46 = y
  match y with
  | [] => rfl
  | [_] => rfl
  | [_, _] => rfl
  | [_, _, _] => rfl
  | x0 :: x1 :: x2 :: x3 :: x4 :: l =>
    rw [show ((((x0 :: x1 :: x2 :: x3 :: x4 :: l).length : Nat) : Int) != 4) = true from by simp only [List.length_cons, bne_iff_ne]; omega, cond_true]; rfl
  | [x0, x1, x2, x3] =>
    rw [show ((((([x0, x1, x2, x3] : List (List UInt8)).length) : Nat) : Int) != 4) = false from rfl, cond_false]
    have s0 := p_ref05_run_2_step s t j 0 0 r0 r1 [x0, x1, x2, x3] x0 (by omega) rfl (by omega) (by simp)
    rw [show ((0 : Nat) : Int) = 0 from rfl] at s0
    rw [s0]
    rw [show quadOf [x0, x1, x2, x3] = (dec3 x0).bind fun a => (dec3 x1).bind fun b => (dec3 x2).bind fun c => (dec3 x3).bind fun d => some [a * 256 + b, c * 256 + d] from rfl]
    cases h0 : dec3 x0 with
    | none => rfl
    | some a =>
      have b0 := dec3_some h0
      simp only [Option.bind_some]
      rw [p_ref05_run_2_step s t j _ 1 r0 r1 [x0, x1, x2, x3] x1 (by omega) rfl (by omega) (by simp; omega)]
      cases h1 : dec3 x1 with
      | none => rfl
      | some b =>
        have b1 := dec3_some h1
        simp only [Option.bind_some]
        rw [p_ref05_run_2_step s t j _ 2 r0 r1 [x0, x1, x2, x3] x2 (by omega) rfl (by omega) (by simp; omega)]
        cases h2 : dec3 x2 with
        | none => rfl
        | some c =>
          have b2 := dec3_some h2
          simp only [Option.bind_some]
          rw [p_ref05_run_2_step s t j _ 3 r0 r1 [x0, x1, x2, x3] x3 (by omega) rfl (by omega) (by simp; omega)]
          cases h3 : dec3 x3 with
          | none => rfl
          | some d =>
            have b3 := dec3_some h3
            simp only [Option.bind_some]
            exact p_ref05_run_2_end s t j a b c d r0 r1 _ (by omega) (by omega) (by omega) (by omega) hr
end Go.Abs
/- The program's dotted tail. -/
namespace Go.Abs
set_option autoImplicit false

theorem p_host_tail_2_val (s : List UInt8) (i : Nat) (x : List UInt8) (b : List Int) (r0 : List (List UInt8)) (hi : i < 4) (hb : b.length = 4) (hx : x.length ≤ 3) : ∀ (k j : Nat) (m : Int), j + k = x.length → 0 ≤ m → m < 10 ^ j → (x.drop j).all isDig = true →
    p_host_tail_2 s (i : Int) x 4 (i : Int) (x.length : Int) (j : Int) (b.set i m) r0 =
      if 255 < decGo m (x.drop j) then some ([], false) else p_host_tail_1 s 4 ((i + 1 : Nat) : Int) (b.set i (decGo m (x.drop j))) r0
  | 0, j, m, hk, h0, h1, hd => by
    have : j = x.length := by omega
    subst this
    have hg : List.getD (b.set i m) (Int.toNat (i : Int)) (Ty.zero (.int .u16)) = m := by
      rw [Int.toNat_natCast, List.getD_eq_getElem?_getD, List.getElem?_set_self (by omega)]; rfl
    have hw : IntKind.i64.wrap ((i : Int) + 1) = ((i + 1 : Nat) : Int) := by rw [w64 (by omega) (by omega)]; omega
    rw [p_host_tail_2_eq, lt_nat, decide_eq_false (Nat.lt_irrefl _), cond_false, inside_nat, decide_eq_true hi, cond_true, hg, List.drop_length, decGo, hw]
    by_cases c : 255 < m
    · rw [show decide (m > 255) = true from decide_eq_true c, cond_true, if_pos c]
    · rw [show decide (m > 255) = false from decide_eq_false c, cond_false, if_neg c]
  | k + 1, j, m, hk, h0, h1, hd => by
    have hj : j < x.length := by omega
    have hg : List.getD (b.set i m) (Int.toNat (i : Int)) (Ty.zero (.int .u16)) = m := by
      rw [Int.toNat_natCast, List.getD_eq_getElem?_getD, List.getElem?_set_self (by omega)]; rfl
    have hget : x.getD (Int.toNat (j : Int)) 0 = x[j] := by
      rw [Int.toNat_natCast, List.getD_eq_getElem?_getD, List.getElem?_eq_getElem hj]; rfl
    have hw : IntKind.i64.wrap ((j : Int) + 1) = ((j + 1 : Nat) : Int) := by rw [w64 (by omega) (by omega)]; omega
    have hm : m < 1000 := by
      have : j = 0 ∨ j = 1 ∨ j = 2 := by omega
      rcases this with rfl | rfl | rfl <;> simp at h1 <;> omega
    rw [List.drop_eq_getElem_cons hj, List.all_cons, Bool.and_eq_true] at hd
    have hdig := isDig_le _ hd.1
    rw [p_host_tail_2_eq, lt_nat, decide_eq_true hj, cond_true, inside_nat, decide_eq_true hi, cond_true, inside_nat, decide_eq_true hj, cond_true, cond_true, hg, hget, hw]
    rw [show ((x[j].toNat : Nat) : Int) = byteI x[j] from rfl, w8 (by omega) (by omega), w16 (x := 10 * m) (by omega) (by omega), w16 (x := byteI x[j] - 48) (by omega) (by omega), w16 (by omega) (by omega)]
    rw [Int.toNat_natCast, List.set_set, List.drop_eq_getElem_cons hj, decGo, Int.mul_comm 10 m]
    exact p_host_tail_2_val s i x b r0 hi hb hx k (j + 1) _ (by omega) (by omega) (by rw [Int.pow_succ]; omega) hd.2

theorem p_host_tail_1_step (s : List UInt8) (i : Nat) (b : List Int) (r0 : List (List UInt8)) (x : List UInt8) (hi : i < 4) (hb : b.length = 4) (hxi : r0[i]? = some x) (hb0 : b[i]? = some 0) (hx : x.length ≤ 1073741824) :
    p_host_tail_1 s 4 (i : Int) b r0 = match dec3 x with | none => some ([], false) | some v => p_host_tail_1 s 4 ((i + 1 : Nat) : Int) (b.set i v) r0 := by
  have hget : List.getD r0 (Int.toNat (i : Int)) (Ty.zero .str) = x := by
    rw [Int.toNat_natCast, List.getD_eq_getElem?_getD, hxi]; rfl
  have hl : i < r0.length := by
    rcases Nat.lt_or_ge i r0.length with h | h
    · exact h
    · rw [List.getElem?_eq_none h] at hxi; cases hxi
  rw [p_host_tail_1_eq, show decide ((i : Int) < 4) = true from decide_eq_true (by omega), cond_true, inside_nat, decide_eq_true hl, cond_true, hget, all_digs x hx, Option.bind_some]
  by_cases h0 : x.length < 1
  · have : x = [] := List.eq_nil_of_length_eq_zero (by omega)
    subst this; rfl
  have hne : (x == ([] : List UInt8)) = false := by
    rw [beq_eq_false_iff_ne]; intro e; rw [e] at h0; simp at h0
  rw [hne, cond_false]
  unfold dec3
  by_cases h3 : 3 < x.length
  · rw [show decide (((x.length : Nat) : Int) > 3) = true from decide_eq_true (by omega), cond_true, if_pos (.inr h3)]
  rw [show decide (((x.length : Nat) : Int) > 3) = false from decide_eq_false (by omega), cond_false, if_neg (show ¬ (x.length < 1 ∨ 3 < x.length) from by omega)]
  cases hd : x.all isDig with
  | false => rfl
  | true =>
    rw [Bool.not_true, cond_false, if_pos rfl, show inside (0 : Int) x.length = true from by rw [show (0 : Int) = ((0 : Nat) : Int) from rfl, inside_nat]; exact decide_eq_true (by omega), cond_true, byte48, show Int.toNat (0 : Int) = 0 from rfl]
    have hbs : b.set i 0 = b := by
      apply List.ext_getElem?
      intro n
      by_cases e : i = n
      · subst e; rw [List.getElem?_set_self (by omega), hb0]
      · rw [List.getElem?_set_ne e]
    have loop := p_host_tail_2_val s i x b r0 hi hb (by omega) x.length 0 0 (by omega) (by omega) (by simp) hd
    rw [show ((0 : Nat) : Int) = 0 from rfl, List.drop_zero, hbs] at loop
    rw [loop]
    by_cases c : x.getD 0 0 = 48
    · rw [decide_eq_true c, cond_true]
      by_cases d : 1 < x.length
      · rw [show decide (((x.length : Nat) : Int) > 1) = true from decide_eq_true (by omega), cond_true, if_pos (show x.getD 0 0 = 48 ∧ 1 < x.length from ⟨c, d⟩)]
      · rw [show decide (((x.length : Nat) : Int) > 1) = false from decide_eq_false (by omega), cond_false, if_neg (show ¬ (x.getD 0 0 = 48 ∧ 1 < x.length) from fun h => d h.2)]
        split <;> rfl
    · rw [decide_eq_false c, cond_false, if_neg (show ¬ (x.getD 0 0 = 48 ∧ 1 < x.length) from fun h => c h.1)]
      split <;> rfl

theorem c_host_tail_val (x : List UInt8) (hx : x.length ≤ 1073741824) : c_host_tail x = match quad x with | none => some ([], false) | some l => some (l, true) := by
  rw [c_host_tail_eq, p_host_tail_0_eq, c_octets_Split_val x 46 hx, Option.bind_some]
  have hle : ∀ y ∈ splitAt x 46, y.length ≤ 1073741824 := by
    intro y hy
    have := splitC_le 46 x [] y hy
    simp at this; omega
  unfold quad
  generalize splitAt x 46 = y at hle ⊢
  match y, hle with
  | [], _ => rfl
  | [_], _ => rfl
  | [_, _], _ => rfl
  | [_, _, _], _ => rfl
  | x0 :: x1 :: x2 :: x3 :: x4 :: l, _ =>
    rw [show ((((x0 :: x1 :: x2 :: x3 :: x4 :: l).length : Nat) : Int) != 4) = true from by simp only [List.length_cons, bne_iff_ne]; omega, cond_true]; rfl
  | [x0, x1, x2, x3], hle =>
    rw [show ((((([x0, x1, x2, x3] : List (List UInt8)).length) : Nat) : Int) != 4) = false from rfl, cond_false]
    have s0 := p_host_tail_1_step x 0 [0, 0, 0, 0] [x0, x1, x2, x3] x0 (by omega) rfl rfl rfl (hle x0 (by simp))
    rw [show ((0 : Nat) : Int) = 0 from rfl] at s0
    rw [show (((([x0, x1, x2, x3] : List (List UInt8)).length : Nat) : Int)) = 4 from rfl, show (Ty.zero (.arr 4 (.int .u16)) : List Int) = [0, 0, 0, 0] from rfl, s0]
    rw [show quadOf [x0, x1, x2, x3] = (dec3 x0).bind fun a => (dec3 x1).bind fun b => (dec3 x2).bind fun c => (dec3 x3).bind fun d => some [a * 256 + b, c * 256 + d] from rfl]
    cases h0 : dec3 x0 with
    | none => rfl
    | some a =>
      have b0 := dec3_some h0
      simp only [Option.bind_some]
      rw [p_host_tail_1_step x 1 _ [x0, x1, x2, x3] x1 (by omega) rfl rfl rfl (hle x1 (by simp))]
      cases h1 : dec3 x1 with
      | none => rfl
      | some b =>
        have b1 := dec3_some h1
        simp only [Option.bind_some]
        rw [p_host_tail_1_step x 2 _ [x0, x1, x2, x3] x2 (by omega) rfl rfl rfl (hle x2 (by simp))]
        cases h2 : dec3 x2 with
        | none => rfl
        | some c =>
          have b2 := dec3_some h2
          simp only [Option.bind_some]
          rw [p_host_tail_1_step x 3 _ [x0, x1, x2, x3] x3 (by omega) rfl rfl rfl (hle x3 (by simp))]
          cases h3 : dec3 x3 with
          | none => rfl
          | some d =>
            have b3 := dec3_some h3
            simp only [Option.bind_some]
            rw [p_host_tail_1_eq, show decide (((3 + 1 : Nat) : Int) < 4) = false from rfl, cond_false]
            show some ([bits Go.BinOp.or IntKind.u16 (shl IntKind.u16 a 8) b, bits Go.BinOp.or IntKind.u16 (shl IntKind.u16 c 8) d], true) = _
            rw [shl16 (by omega) (by omega), shl16 (by omega) (by omega), or_add (by omega) (by omega), or_add (by omega) (by omega)]
end Go.Abs
/- Runs of the pieces of an IPv6 address. -/
namespace Go.Abs
set_option autoImplicit false

def hexPart (x : List UInt8) : Option Int := if x.length < 1 ∨ 4 < x.length then none else if numGo 16 0 x < 0 then none else some (IntKind.u16.wrap (numGo 16 0 x))
def run6 (t : Bool) : List (List UInt8) → Option (List Int)
  | [] => some []
  | x :: l => if t = true ∧ l = [] ∧ hasDot x = true then quad x else (hexPart x).bind fun v => (run6 t l).map (v :: ·)
def pieces (t : Bool) (s : List UInt8) : Option (List Int) := if s = [] then some [] else run6 t (splitAt s 58)

theorem hex_prog {α : Type} (x : List UInt8) (r : List Int) (F : List Int → Option (List Int × Bool)) (hr : r.length ≤ 1073741825) :
    (bif (x == ([] : List UInt8)) then some (([] : List Int), false)
     else bif (decide (((x.length : Nat) : Int) > (4 : Int))) then some (([] : List Int), false)
     else bif (decide (((List.length ([(48 : UInt8), (120 : UInt8)] : List UInt8)) + x.length) ≤ (2 ^ 62))) then
        (c_host_number (([(48 : UInt8), (120 : UInt8)] : List UInt8) ++ x)).bind fun y1 =>
          bif (!y1.2) then some (([] : List Int), false)
          else bif (decide (((List.length r) + (List.length ([(IntKind.wrap IntKind.u16 y1.1)] : List Int))) ≤ (lim))) then F (r ++ ([(IntKind.wrap IntKind.u16 y1.1)] : List Int))
          else none
     else none) = match hexPart x with | none => some ([], false) | some v => F (r ++ [v]) := by
  unfold hexPart
  by_cases h0 : x.length < 1
  · have : x = [] := List.eq_nil_of_length_eq_zero (by omega)
    subst this; rfl
  have hne : (x == ([] : List UInt8)) = false := by
    rw [beq_eq_false_iff_ne]; intro e; rw [e] at h0; simp at h0
  rw [hne, cond_false]
  by_cases h4 : 4 < x.length
  · rw [show decide (((x.length : Nat) : Int) > 4) = true from decide_eq_true (by omega), cond_true, if_pos (.inr h4)]
  rw [show decide (((x.length : Nat) : Int) > 4) = false from decide_eq_false (by omega), cond_false, if_neg (show ¬ (x.length < 1 ∨ 4 < x.length) from by omega)]
  rw [show decide (((List.length ([(48 : UInt8), (120 : UInt8)] : List UInt8)) + x.length) ≤ (2 ^ 62)) = true from decide_eq_true (by simp; omega), cond_true]
  rw [show ([(48 : UInt8), (120 : UInt8)] : List UInt8) ++ x = 48 :: 120 :: x from rfl, c_host_number_val _ (by simp; omega), numOf_cons, if_pos (show byteI 48 = 48 from rfl), if_pos (show isX 120 = true from rfl), Option.bind_some]
  unfold okNum
  by_cases hn : numGo 16 0 x < 0
  · rw [if_pos hn, if_pos hn]; rfl
  · rw [if_neg hn, if_neg hn]
    simp only [Bool.not_true, cond_false]
    rw [show decide (r.length + [IntKind.u16.wrap (numGo 16 0 x)].length ≤ lim) = true from decide_eq_true (by simp [lim]; omega), cond_true]

def Ok6 (o : Option (List Int)) (r : List Int) (y : Option (List Int × Bool)) : Prop := match o with
  | none => ∃ u, y = some (u, false)
  | some l => y = some (r ++ l, true)

theorem p_host_pieces_1_val (s : List UInt8) (t : Bool) (parts : List (List UInt8)) (hl : parts.length ≤ 1073741825) (hp : ∀ x ∈ parts, x.length ≤ 1073741824) : ∀ (k j : Nat) (r : List Int), j + k = parts.length → r.length ≤ j →
    Ok6 (run6 t (parts.drop j)) r (p_host_pieces_1 s t (parts.length : Int) (j : Int) r parts)
  | 0, j, r, hk, hr => by
    have : j = parts.length := by omega
    subst this
    rw [p_host_pieces_1_eq, lt_nat, decide_eq_false (Nat.lt_irrefl _), cond_false, List.drop_length]
    show some (r, true) = some (r ++ [], true)
    rw [List.append_nil]
  | k + 1, j, r, hk, hr => by
    have hj : j < parts.length := by omega
    have hget : List.getD parts (Int.toNat (j : Int)) (Ty.zero .str) = parts[j] := by
      rw [Int.toNat_natCast, List.getD_eq_getElem?_getD, List.getElem?_eq_getElem hj]; rfl
    have hw : IntKind.i64.wrap ((j : Int) + 1) = ((j + 1 : Nat) : Int) := by rw [w64 (by omega) (by omega)]; omega
    have hx := hp _ (List.getElem_mem hj)
    have hwl : IntKind.i64.wrap ((parts.length : Int) - 1) = ((parts.length - 1 : Nat) : Int) := by rw [w64 (by omega) (by omega)]; omega
    have hex := hex_prog (α := Unit) parts[j] r (fun q => p_host_pieces_1 s t (parts.length : Int) ((j + 1 : Nat) : Int) q parts) (by omega)
    have next : ∀ v, Ok6 ((run6 t (parts.drop (j + 1))).map (v :: ·)) r (p_host_pieces_1 s t (parts.length : Int) ((j + 1 : Nat) : Int) (r ++ [v]) parts) := by
      intro v
      have ih := p_host_pieces_1_val s t parts hl hp k (j + 1) (r ++ [v]) (by omega) (by simp; omega)
      cases ho : run6 t (parts.drop (j + 1)) with
      | none => rw [ho] at ih; exact ih
      | some l =>
        rw [ho] at ih
        refine (show _ = some _ from ih).trans ?_
        simp
    have hexOk : Ok6 ((hexPart parts[j]).bind fun v => (run6 t (parts.drop (j + 1))).map (v :: ·)) r (match hexPart parts[j] with | none => some ([], false) | some v => p_host_pieces_1 s t (parts.length : Int) ((j + 1 : Nat) : Int) (r ++ [v]) parts) := by
      cases hexPart parts[j] with
      | none => exact ⟨[], rfl⟩
      | some v => exact next v
    rw [p_host_pieces_1_eq, lt_nat, decide_eq_true hj, cond_true, inside_nat, decide_eq_true hj, cond_true, hget, hw, hwl, List.drop_eq_getElem_cons hj, run6, hex]
    cases t with
    | false =>
      rw [cond_false, if_neg (fun h => Bool.noConfusion h.1)]
      exact hexOk
    | true =>
      rw [cond_true]
      by_cases e : j = parts.length - 1
      · rw [show (((j : Nat) : Int) == ((parts.length - 1 : Nat) : Int)) = true from beq_iff_eq.2 (by omega), cond_true, c_strings_Contains_val _ hx, Option.bind_some]
        have hnil : parts.drop (j + 1) = [] := List.drop_eq_nil_of_le (by omega)
        cases hd : hasDot parts[j] with
        | false =>
          rw [cond_false, if_neg (fun h => Bool.noConfusion h.2.2)]
          exact hexOk
        | true =>
          rw [cond_true, if_pos ⟨rfl, hnil, rfl⟩, c_host_tail_val _ hx]
          cases hq : quad parts[j] with
          | none =>
            simp only [Option.bind_some]
            rw [show decide (r.length + ([] : List Int).length ≤ lim) = true from decide_eq_true (by simp [lim]; omega), cond_true]
            exact ⟨_, rfl⟩
          | some l =>
            have hl2 : l.length = 2 := by
              unfold quad quadOf at hq
              split at hq
              · simp only [Option.bind_eq_some_iff] at hq
                obtain ⟨a, _, b, _, c, _, d, _, h⟩ := hq
                rw [← Option.some.inj h]; rfl
              · cases hq
            simp only [Option.bind_some]
            rw [show decide (r.length + l.length ≤ lim) = true from decide_eq_true (by simp [lim]; omega), cond_true]
            rfl
      · rw [show (((j : Nat) : Int) == ((parts.length - 1 : Nat) : Int)) = false from beq_eq_false_iff_ne.2 (by omega), cond_false]
        have hnn : ¬ parts.drop (j + 1) = [] := by
          rw [List.drop_eq_nil_iff]; omega
        rw [if_neg (fun h => hnn h.2.1)]
        exact hexOk

theorem split_small (s : List UInt8) (sep : Int) : (splitAt s sep).length ≤ s.length + 1 ∧ ∀ x ∈ splitAt s sep, x.length ≤ s.length := by
  refine ⟨splitC_length sep s [], fun x hx => ?_⟩
  have := splitC_le sep s [] x hx
  simpa using this

/-- host.pieces. -/
theorem c_host_pieces_val (s : List UInt8) (t : Bool) (hs : s.length ≤ 1073741823) : Ok6 (pieces t s) [] (c_host_pieces (s, t)) := by
  rw [c_host_pieces_eq, p_host_pieces_0_eq]
  unfold pieces
  by_cases h : s = []
  · subst h; exact rfl
  · rw [show (s == ([] : List UInt8)) = false from beq_eq_false_iff_ne.2 h, cond_false, if_neg h]
    simp only
    rw [c_octets_Split_val s 58 (by omega), Option.bind_some]
    have := split_small s 58
    exact p_host_pieces_1_val s t (splitAt s 58) (by omega) (fun x hx => by have := this.2 x hx; omega) (splitAt s 58).length 0 [] (by omega) (by simp)

/-! The reference's. -/
theorem p_ref05_run_3_val (s : List UInt8) (t : Bool) (j : Nat) (r0 : List (List UInt8)) (r1 : List Int) (x : List UInt8) (hx : r0[j]? = some x) (h4 : x.length ≤ 4) (hr : r1.length ≤ 1073741825) : ∀ (k i : Nat) (n : Int), i + k = x.length → 0 ≤ n → n < 16 ^ i →
    p_ref05_run_3 s t (j : Int) n (i : Int) r0 r1 = if numGo 16 n (x.drop i) < 0 then some ([], false) else p_ref05_run_1 s t (IntKind.i64.wrap ((j : Int) + 1)) r0 (r1 ++ [IntKind.u16.wrap (numGo 16 n (x.drop i))])
  | 0, i, n, hk, h0, h1 => by
    have : i = x.length := by omega
    subst this
    have hget : List.getD r0 (Int.toNat (j : Int)) (Ty.zero .str) = x := by
      rw [Int.toNat_natCast, List.getD_eq_getElem?_getD, hx]; rfl
    have hl : j < r0.length := by
      rcases Nat.lt_or_ge j r0.length with h | h
      · exact h
      · rw [List.getElem?_eq_none h] at hx; cases hx
    rw [p_ref05_run_3_eq, inside_nat, decide_eq_true hl, cond_true, hget, lt_nat, decide_eq_false (Nat.lt_irrefl _), cond_false, List.drop_length, numGo, if_neg (by omega)]
    rw [show decide (r1.length + [IntKind.u16.wrap n].length ≤ lim) = true from decide_eq_true (by simp [lim]; omega), cond_true]
  | k + 1, i, n, hk, h0, h1 => by
    have hi : i < x.length := by omega
    have hget : List.getD r0 (Int.toNat (j : Int)) (Ty.zero .str) = x := by
      rw [Int.toNat_natCast, List.getD_eq_getElem?_getD, hx]; rfl
    have hl : j < r0.length := by
      rcases Nat.lt_or_ge j r0.length with h | h
      · exact h
      · rw [List.getElem?_eq_none h] at hx; cases hx
    have hg : x.getD (Int.toNat (i : Int)) 0 = x[i] := by
      rw [Int.toNat_natCast, List.getD_eq_getElem?_getD, List.getElem?_eq_getElem hi]; rfl
    have hw : IntKind.i64.wrap ((i : Int) + 1) = ((i + 1 : Nat) : Int) := by rw [w64 (by omega) (by omega)]; omega
    have hn : n < 4096 := by
      have : i = 0 ∨ i = 1 ∨ i = 2 ∨ i = 3 := by omega
      rcases this with rfl | rfl | rfl | rfl <;> simp at h1 <;> omega
    have hb := byteI_lt x[i]
    have hnb := nib_le (byteI x[i])
    rw [p_ref05_run_3_eq, inside_nat, decide_eq_true hl, cond_true, hget, lt_nat, decide_eq_true hi, cond_true, cond_true, inside_nat, decide_eq_true hi, cond_true, hg, hw]
    rw [show ((x[i].toNat : Nat) : Int) = byteI x[i] from rfl, c_ref01_Nibble_val _ hb.1 hb.2, Option.bind_some, List.drop_eq_getElem_cons hi, numGo]
    by_cases a : nib (byteI x[i]) < 0
    · rw [decide_eq_true a, cond_true, if_pos (show nib (byteI x[i]) < 0 ∨ 16 ≤ nib (byteI x[i]) from .inl a), if_pos (by omega)]
    · rw [decide_eq_false a, cond_false, if_neg (show ¬ (nib (byteI x[i]) < 0 ∨ 16 ≤ nib (byteI x[i])) from by omega), if_pos (show n * 16 + nib (byteI x[i]) < 1099511627776 from by omega)]
      rw [show shl IntKind.i64 n 4 = n * 16 from shl64 (y := 4) (by omega) (by omega) (by omega), w64 (by omega) (by omega)]
      exact p_ref05_run_3_val s t j r0 r1 x hx h4 hr k (i + 1) _ (by omega) (by omega) (by rw [Int.pow_succ]; omega)

theorem hex_ref (s : List UInt8) (t : Bool) (j : Nat) (r0 : List (List UInt8)) (r1 : List Int) (x : List UInt8) (hx : r0[j]? = some x) (hr : r1.length ≤ 1073741825) :
    (bif (inside (j : Int) (List.length r0)) then
      bif (decide ((((List.length (List.getD r0 (Int.toNat (j : Int)) (Ty.zero .str))) : Nat) : Int) < (1 : Int))) then some (([] : List Int), false)
      else bif (inside (j : Int) (List.length r0)) then
          bif (decide ((((List.length (List.getD r0 (Int.toNat (j : Int)) (Ty.zero .str))) : Nat) : Int) > (4 : Int))) then some (([] : List Int), false)
          else p_ref05_run_3 s t (j : Int) (0 : Int) (0 : Int) r0 r1
        else none
     else none) = match hexPart x with | none => some ([], false) | some v => p_ref05_run_1 s t (IntKind.i64.wrap ((j : Int) + 1)) r0 (r1 ++ [v]) := by
  have hget : List.getD r0 (Int.toNat (j : Int)) (Ty.zero .str) = x := by
    rw [Int.toNat_natCast, List.getD_eq_getElem?_getD, hx]; rfl
  have hl : j < r0.length := by
    rcases Nat.lt_or_ge j r0.length with h | h
    · exact h
    · rw [List.getElem?_eq_none h] at hx; cases hx
  rw [inside_nat, decide_eq_true hl, cond_true, cond_true, hget]
  unfold hexPart
  by_cases h0 : x.length < 1
  · rw [show decide (((x.length : Nat) : Int) < 1) = true from decide_eq_true (by omega), cond_true, if_pos (.inl h0)]
  rw [show decide (((x.length : Nat) : Int) < 1) = false from decide_eq_false (by omega), cond_false]
  by_cases h4 : 4 < x.length
  · rw [show decide (((x.length : Nat) : Int) > 4) = true from decide_eq_true (by omega), cond_true, if_pos (.inr h4)]
  rw [show decide (((x.length : Nat) : Int) > 4) = false from decide_eq_false (by omega), cond_false, if_neg (show ¬ (x.length < 1 ∨ 4 < x.length) from by omega)]
  have := p_ref05_run_3_val s t j r0 r1 x hx (by omega) hr x.length 0 0 (by omega) (by omega) (by simp)
  rw [show ((0 : Nat) : Int) = 0 from rfl, List.drop_zero] at this
  rw [this]
  split <;> rfl

theorem p_ref05_run_1_val (s : List UInt8) (t : Bool) (parts : List (List UInt8)) (hl : parts.length ≤ 1073741825) (hp : ∀ x ∈ parts, x.length ≤ 1073741824) : ∀ (k j : Nat) (r : List Int), j + k = parts.length → r.length ≤ j →
    p_ref05_run_1 s t (j : Int) parts r = match run6 t (parts.drop j) with | none => some ([], false) | some l => some (r ++ l, true)
  | 0, j, r, hk, hr => by
    have : j = parts.length := by omega
    subst this
    rw [p_ref05_run_1_eq, lt_nat, decide_eq_false (Nat.lt_irrefl _), cond_false, List.drop_length]
    simp [run6]
  | k + 1, j, r, hk, hr => by
    have hj : j < parts.length := by omega
    have hxj : parts[j]? = some parts[j] := List.getElem?_eq_getElem hj
    have hget : List.getD parts (Int.toNat (j : Int)) (Ty.zero .str) = parts[j] := by
      rw [Int.toNat_natCast, List.getD_eq_getElem?_getD, hxj]; rfl
    have hw : IntKind.i64.wrap ((j : Int) + 1) = ((j + 1 : Nat) : Int) := by rw [w64 (by omega) (by omega)]; omega
    have hx := hp _ (List.getElem_mem hj)
    have hwl : IntKind.i64.wrap ((parts.length : Int) - 1) = ((parts.length - 1 : Nat) : Int) := by rw [w64 (by omega) (by omega)]; omega
    have hex := hex_ref s t j parts r parts[j] hxj (by omega)
    rw [hw] at hex
    have hexOk : (match hexPart parts[j] with | none => some ([], false) | some v => p_ref05_run_1 s t ((j + 1 : Nat) : Int) parts (r ++ [v])) =
        match ((hexPart parts[j]).bind fun v => (run6 t (parts.drop (j + 1))).map (v :: ·)) with | none => some ([], false) | some l => some (r ++ l, true) := by
      cases hexPart parts[j] with
      | none => rfl
      | some v =>
        simp only [Option.bind_some]
        rw [p_ref05_run_1_val s t parts hl hp k (j + 1) (r ++ [v]) (by omega) (by simp; omega)]
        cases run6 t (parts.drop (j + 1)) with
        | none => rfl
        | some l => simp
    rw [p_ref05_run_1_eq, lt_nat, decide_eq_true hj, cond_true, hwl, List.drop_eq_getElem_cons hj, run6]
    rw [hex]
    cases t with
    | false =>
      rw [cond_false, if_neg (fun h => Bool.noConfusion h.1)]
      exact hexOk
    | true =>
      rw [cond_true]
      by_cases e : j = parts.length - 1
      · rw [show (((j : Nat) : Int) == ((parts.length - 1 : Nat) : Int)) = true from beq_iff_eq.2 (by omega), cond_true, inside_nat, decide_eq_true hj, cond_true, hget, c_ref01_Has_val _ hx, Option.bind_some]
        have hnil : parts.drop (j + 1) = [] := List.drop_eq_nil_of_le (by omega)
        cases hd : hasDot parts[j] with
        | false =>
          rw [cond_false, if_neg (fun h => Bool.noConfusion h.2.2), ← hexOk, ← hex, inside_nat, decide_eq_true hj, cond_true, hget]
        | true =>
          rw [cond_true, cond_true, if_pos ⟨rfl, hnil, rfl⟩, ref_tail s true (j : Int) parts r parts[j] hx (by omega)]
          cases hq : quad parts[j] with
          | none => rfl
          | some l =>
            simp only
            rw [hw, p_ref05_run_1_eq, lt_nat, decide_eq_false (by omega), cond_false]
      · rw [show (((j : Nat) : Int) == ((parts.length - 1 : Nat) : Int)) = false from beq_eq_false_iff_ne.2 (by omega), cond_false]
        have hnn : ¬ parts.drop (j + 1) = [] := by
          rw [List.drop_eq_nil_iff]; omega
        rw [if_neg (fun h => hnn h.2.1)]
        exact hexOk

theorem c_ref05_run_val (s : List UInt8) (t : Bool) (hs : s.length ≤ 1073741823) : c_ref05_run (s, t) = match pieces t s with | none => some ([], false) | some l => some (l, true) := by
  rw [c_ref05_run_eq, p_ref05_run_0_eq]
  unfold pieces
  by_cases h : s = []
  · subst h; rfl
  · rw [show (s == ([] : List UInt8)) = false from beq_eq_false_iff_ne.2 h, cond_false, if_neg h]
    simp only
    rw [c_ref01_Split_val s 58 (by omega), Option.bind_some]
    have := split_small s 58
    exact p_ref05_run_1_val s t (splitAt s 58) (by omega) (fun x hx => by have := this.2 x hx; omega) (splitAt s 58).length 0 [] (by omega) (by simp)
end Go.Abs
/- IPv6 addresses: the program's and the reference's. -/
namespace Go.Abs
set_option autoImplicit false

def cc : List UInt8 := [58, 58]
def z8 : List Int := [0, 0, 0, 0, 0, 0, 0, 0]
def lay8 (a b : List Int) : List Int := (a ++ z8.drop a.length).take (8 - b.length) ++ b
def v6Two (a b : Option (List Int)) : List Int × Int := match a, b with
  | some a, some b => if 7 < a.length + b.length then (z8, 55) else (lay8 a b, 0)
  | _, _ => (z8, 55)
def v6One (a : Option (List Int)) : List Int × Int := match a with
  | some l => if l.length = 8 then (l, 0) else (z8, 55)
  | none => (z8, 55)
def v6Of (s : List UInt8) : List Int × Int :=
  if Lib.index s cc < 0 then v6One (pieces true s) else v6Two (pieces false (s.take (Lib.index s cc).toNat)) (pieces true (s.drop ((Lib.index s cc).toNat + 2)))

theorem run6_len (t : Bool) : ∀ (l : List (List UInt8)) (r : List Int), run6 t l = some r → r.length ≤ l.length + 1
  | [], r, h => by rw [← Option.some.inj h]; simp
  | x :: l, r, h => by
    unfold run6 at h
    split at h
    · unfold quad quadOf at h
      split at h
      · simp only [Option.bind_eq_some_iff] at h
        obtain ⟨a, _, b, _, c, _, d, _, h⟩ := h
        rw [← Option.some.inj h]; simp
      · cases h
    · simp only [Option.bind_eq_some_iff, Option.map_eq_some_iff] at h
      obtain ⟨v, _, q, hq, h⟩ := h
      have := run6_len t l q hq
      rw [← h]; simp only [List.length_cons]; omega
theorem pieces_len (t : Bool) (s : List UInt8) (r : List Int) (h : pieces t s = some r) : r.length ≤ s.length + 2 := by
  unfold pieces at h
  split at h
  · rw [← Option.some.inj h]; simp
  · have := run6_len t _ r h
    have := (split_small s 58).1
    omega

theorem over_set (L r : List Int) (p i : Nat) (v : Int) (hp : p + r.length ≤ L.length) (hi : i < r.length) (hv : r[i]? = some v) :
    List.set (L.take p ++ r.take i ++ L.drop (p + i)) (p + i) v = L.take p ++ r.take (i + 1) ++ L.drop (p + i + 1) := by
  have hlen : (L.take p ++ r.take i).length = p + i := by simp; omega
  have hd : L.drop (p + i) = L[p + i]'(by omega) :: L.drop (p + i + 1) := List.drop_eq_getElem_cons (by omega)
  have hv' : r[i] = v := by
    rw [List.getElem?_eq_getElem hi] at hv; exact Option.some.inj hv
  rw [List.set_append_right _ _ (by omega), hlen, Nat.sub_self, hd, List.set_cons_zero, List.take_succ_eq_append_getElem hi, hv']
  simp

theorem p_ref05_IPv6_2_val (s : List UInt8) (b0 r0 : List Int) (h8 : r0.length = 8) : ∀ (k i : Nat), i + k = 8 → p_ref05_IPv6_2 s (i : Int) b0 (z8.take 0 ++ r0.take i ++ z8.drop (0 + i)) r0 = some (r0, 0)
  | 0, i, hk => by
    have : i = 8 := by omega
    subst this
    rw [p_ref05_IPv6_2_eq, show decide (((8 : Nat) : Int) < 8) = false from rfl, cond_false, List.take_of_length_le (l := r0) (by omega)]
    simp [z8]
  | k + 1, i, hk => by
    have hi : i < 8 := by omega
    have hw : IntKind.i64.wrap ((i : Int) + 1) = ((i + 1 : Nat) : Int) := by rw [w64 (by omega) (by omega)]; omega
    have hget : List.getD r0 (Int.toNat (i : Int)) (Ty.zero (.int .u16)) = r0[i] := by
      rw [Int.toNat_natCast, List.getD_eq_getElem?_getD, List.getElem?_eq_getElem (by omega)]; rfl
    rw [p_ref05_IPv6_2_eq, show decide ((i : Int) < 8) = true from decide_eq_true (by omega), cond_true, inside_nat, decide_eq_true (by omega), cond_true, inside_nat, decide_eq_true hi, cond_true, hw, hget, Int.toNat_natCast]
    have := over_set z8 r0 0 i r0[i] (by simp [z8, h8]) (by omega) (List.getElem?_eq_getElem (by omega))
    rw [Nat.zero_add] at this
    rw [Nat.zero_add, this]
    have ih := p_ref05_IPv6_2_val s b0 r0 h8 k (i + 1) (by omega)
    rw [Nat.zero_add] at ih
    exact ih

theorem p_ref05_IPv6_4_val (s : List UInt8) (b0 L r : List Int) (hL : L.length = 8) (hr : r.length ≤ 8) : ∀ (k i : Nat), i + k = r.length →
    p_ref05_IPv6_4 s (i : Int) b0 (L.take (8 - r.length) ++ r.take i ++ L.drop (8 - r.length + i)) r = some (L.take (8 - r.length) ++ r, 0)
  | 0, i, hk => by
    have : i = r.length := by omega
    subst this
    rw [p_ref05_IPv6_4_eq, lt_nat, decide_eq_false (Nat.lt_irrefl _), cond_false, List.take_of_length_le (Nat.le_refl _), List.drop_eq_nil_of_le (by omega), List.append_nil]
  | k + 1, i, hk => by
    have hi : i < r.length := by omega
    have hw : IntKind.i64.wrap ((i : Int) + 1) = ((i + 1 : Nat) : Int) := by rw [w64 (by omega) (by omega)]; omega
    have hw2 : IntKind.i64.wrap (IntKind.i64.wrap ((8 : Int) - (r.length : Int)) + (i : Int)) = ((8 - r.length + i : Nat) : Int) := by
      rw [w64 (x := (8 : Int) - (r.length : Int)) (by omega) (by omega), w64 (by omega) (by omega)]; omega
    have hget : List.getD r (Int.toNat (i : Int)) (Ty.zero (.int .u16)) = r[i] := by
      rw [Int.toNat_natCast, List.getD_eq_getElem?_getD, List.getElem?_eq_getElem (by omega)]; rfl
    rw [p_ref05_IPv6_4_eq, lt_nat, decide_eq_true hi, cond_true, inside_nat, decide_eq_true hi, cond_true, hw2, inside_nat, decide_eq_true (by omega), cond_true, hw, hget, Int.toNat_natCast]
    rw [over_set L r (8 - r.length) i r[i] (by omega) hi (List.getElem?_eq_getElem hi)]
    exact p_ref05_IPv6_4_val s b0 L r hL hr k (i + 1) (by omega)

theorem p_ref05_IPv6_3_val (s : List UInt8) (b0 r q : List Int) (hr : r.length + q.length ≤ 7) : ∀ (k i : Nat), i + k = r.length →
    p_ref05_IPv6_3 s (i : Int) b0 (z8.take 0 ++ r.take i ++ z8.drop (0 + i)) r q = some (lay8 r q, 0)
  | 0, i, hk => by
    have : i = r.length := by omega
    subst this
    have hz : z8.length = 8 := rfl
    rw [p_ref05_IPv6_3_eq, lt_nat, decide_eq_false (Nat.lt_irrefl _), cond_false, List.take_of_length_le (Nat.le_refl _), Nat.zero_add, List.take_zero, List.nil_append]
    have hL : (r ++ z8.drop r.length).length = 8 := by rw [List.length_append, List.length_drop, hz]; omega
    have := p_ref05_IPv6_4_val s b0 (r ++ z8.drop r.length) q hL (by omega) q.length 0 (by omega)
    rw [List.take_zero, List.append_nil, Nat.add_zero, List.take_append_drop] at this
    exact this
  | k + 1, i, hk => by
    have hi : i < r.length := by omega
    have hw : IntKind.i64.wrap ((i : Int) + 1) = ((i + 1 : Nat) : Int) := by rw [w64 (by omega) (by omega)]; omega
    have hget : List.getD r (Int.toNat (i : Int)) (Ty.zero (.int .u16)) = r[i] := by
      rw [Int.toNat_natCast, List.getD_eq_getElem?_getD, List.getElem?_eq_getElem (by omega)]; rfl
    rw [p_ref05_IPv6_3_eq, lt_nat, decide_eq_true hi, cond_true, inside_nat, decide_eq_true hi, cond_true, inside_nat, decide_eq_true (by omega), cond_true, hw, hget, Int.toNat_natCast]
    have := over_set z8 r 0 i r[i] (by simp [z8]; omega) (by omega) (List.getElem?_eq_getElem (by omega))
    rw [Nat.zero_add] at this
    rw [Nat.zero_add, this]
    have ih := p_ref05_IPv6_3_val s b0 r q hr k (i + 1) (by omega)
    rw [Nat.zero_add] at ih
    exact ih

/-- Without a "::". -/
theorem ref_one (s : List UInt8) (b0 : List Int) (hs : s.length ≤ 1073741823) :
    ((c_ref05_run (s, true)).bind fun y0 =>
          bif (!y0.2) then some (z8, (55 : Int))
          else bif ((((List.length y0.1) : Nat) : Int) != (8 : Int)) then some (z8, (55 : Int))
          else p_ref05_IPv6_2 s (0 : Int) b0 z8 y0.1) = some (v6One (pieces true s)) := by
  rw [c_ref05_run_val s true hs]
  unfold v6One
  cases pieces true s with
  | none => rfl
  | some l =>
    simp only [Option.bind_some, Bool.not_true, cond_false]
    by_cases h : l.length = 8
    · rw [show (((l.length : Nat) : Int) != 8) = false from by simp [h], cond_false, if_pos h]
      exact p_ref05_IPv6_2_val s b0 l h 8 0 (by omega)
    · rw [show (((l.length : Nat) : Int) != 8) = true from by simp; omega, cond_true, if_neg h]

theorem ref_two (s : List UInt8) (b0 : List Int) (i : Nat) (hi : i + 2 ≤ s.length) (hs : s.length ≤ 1073741823) :
    (bif (cutOk none (some (i : Int)) (List.length s)) then
        (c_ref05_run ((cutList none (some (i : Int)) s), false)).bind fun y0 =>
          bif (cutOk (some (IntKind.wrap IntKind.i64 ((i : Int) + (2 : Int)))) none (List.length s)) then
            (c_ref05_run ((cutList (some (IntKind.wrap IntKind.i64 ((i : Int) + (2 : Int)))) none s), true)).bind fun y1 =>
              bif (!y0.2) then some (z8, (55 : Int))
              else bif (!y1.2) then some (z8, (55 : Int))
              else bif (decide ((IntKind.wrap IntKind.i64 ((((List.length y0.1) : Nat) : Int) + (((List.length y1.1) : Nat) : Int))) > (7 : Int))) then some (z8, (55 : Int))
              else p_ref05_IPv6_3 s (0 : Int) b0 z8 y0.1 y1.1
          else none
      else none) = some (v6Two (pieces false (s.take i)) (pieces true (s.drop (i + 2)))) := by
  have hw : IntKind.i64.wrap ((i : Int) + 2) = ((i + 2 : Nat) : Int) := by rw [w64 (by omega) (by omega)]; omega
  have hc : cutOk none (some (i : Int)) s.length = true := by simp [cutOk]; omega
  have hcl : cutList none (some (i : Int)) s = s.take i := by simp [cutList]
  rw [hc, cond_true, hcl, hw, cut_from hi, cutList_from]
  simp only [cond_true]
  rw [c_ref05_run_val _ false (by simp; omega), c_ref05_run_val _ true (by simp; omega)]
  have l1 := pieces_len false (s.take i)
  have l2 := pieces_len true (s.drop (i + 2))
  unfold v6Two
  cases h1 : pieces false (s.take i) with
  | none =>
    cases h2 : pieces true (s.drop (i + 2)) with
    | none => rfl
    | some b => rfl
  | some a =>
    have l1 := l1 a h1
    cases h2 : pieces true (s.drop (i + 2)) with
    | none => rfl
    | some b =>
      have l2 := l2 b h2
      simp only [List.length_take, List.length_drop] at l1 l2
      simp only [Option.bind_some, Bool.not_true, cond_false]
      rw [w64 (by omega) (by omega)]
      by_cases c : 7 < a.length + b.length
      · rw [show decide (((a.length : Nat) : Int) + ((b.length : Nat) : Int) > 7) = true from decide_eq_true (by omega), cond_true, if_pos c]
      · rw [show decide (((a.length : Nat) : Int) + ((b.length : Nat) : Int) > 7) = false from decide_eq_false (by omega), cond_false, if_neg c]
        exact p_ref05_IPv6_3_val s b0 a b (by omega) a.length 0 (by omega)

theorem index_le : ∀ s : List UInt8, 0 ≤ Lib.index s cc → (Lib.index s cc).toNat + 2 ≤ s.length
  | [], h => by simp [Lib.index, cc] at h
  | [a], h => by simp [Lib.index, cc, List.isPrefixOf] at h
  | a :: b :: l, h => by
    have ih := index_le (b :: l)
    rw [Lib.index] at h ⊢
    split
    · simp
    · rename_i hp
      rw [if_neg hp] at h
      have hge := Lib.index_ge (b :: l) cc
      split
      · rename_i hn; rw [if_pos hn] at h; omega
      · rename_i hn
        rw [if_neg hn] at h
        have h1 : Lib.index (b :: l) cc ≠ -1 := by simpa using hn
        have := ih (by omega)
        simp only [List.length_cons] at this ⊢
        omega

theorem index_short (s : List UInt8) (h : s.length < 2) : Lib.index s cc = -1 := by
  have hge := Lib.index_ge s cc
  rcases Int.lt_or_le (Lib.index s cc) 0 with c | c
  · omega
  · have := index_le s c; omega

theorem pre2 (a b : UInt8) (l : List UInt8) : cc.isPrefixOf (a :: b :: l) = ((58 == a) && (58 == b)) := by simp [cc, List.isPrefixOf]

def v6From (s : List UInt8) (i : Nat) : List Int × Int :=
  if Lib.index (s.drop i) cc < 0 then v6One (pieces true s) else v6Two (pieces false (s.take (i + (Lib.index (s.drop i) cc).toNat))) (pieces true (s.drop (i + (Lib.index (s.drop i) cc).toNat + 2)))

theorem p_ref05_IPv6_1_val (s : List UInt8) (b0 : List Int) (hs : s.length ≤ 1073741823) : ∀ (k i : Nat), i + k = s.length → p_ref05_IPv6_1 s (-1) (i : Int) b0 z8 = some (v6From s i)
  | 0, i, hk => by
    have hi : ¬ (i + 1 < s.length) := by omega
    have hw : IntKind.i64.wrap ((i : Int) + 1) = ((i + 1 : Nat) : Int) := by rw [w64 (by omega) (by omega)]; omega
    rw [p_ref05_IPv6_1_eq, hw, lt_nat, decide_eq_false hi, cond_false, show decide ((-1 : Int) < 0) = true from rfl, cond_true, ref_one s b0 hs]
    unfold v6From
    rw [index_short _ (by simp; omega), if_pos (by omega)]
  | k + 1, i, hk => by
    have hw : IntKind.i64.wrap ((i : Int) + 1) = ((i + 1 : Nat) : Int) := by rw [w64 (by omega) (by omega)]; omega
    by_cases hi : i + 1 < s.length
    · have hi0 : i < s.length := by omega
      have hget : s.getD (Int.toNat (i : Int)) 0 = s[i] := by
        rw [Int.toNat_natCast, List.getD_eq_getElem?_getD, List.getElem?_eq_getElem hi0]; rfl
      have hget1 : s.getD (Int.toNat ((i + 1 : Nat) : Int)) 0 = s[i + 1] := by
        rw [Int.toNat_natCast, List.getD_eq_getElem?_getD, List.getElem?_eq_getElem hi]; rfl
      have b58 : ∀ b : UInt8, (((b.toNat : Nat) : Int) == 58) = (58 == b) := by
        intro b
        by_cases h : b = 58
        · subst h; rfl
        · have : b.toNat ≠ 58 := fun e => h (UInt8.toNat_inj.1 e)
          rw [show ((58 : UInt8) == b) = false from beq_eq_false_iff_ne.2 (fun e => h e.symm)]
          exact beq_eq_false_iff_ne.2 (by omega)
      have hpre : cc.isPrefixOf (s.drop i) = ((58 == s[i]) && (58 == s[i + 1])) := by
        rw [List.drop_eq_getElem_cons hi0, List.drop_eq_getElem_cons hi, pre2]
      have ih := p_ref05_IPv6_1_val s b0 hs k (i + 1) (by omega)
      have hnext : cc.isPrefixOf (s.drop i) = false → v6From s i = v6From s (i + 1) := by
        intro hp
        have hix : Lib.index (s.drop i) cc = if Lib.index (s.drop (i + 1)) cc == -1 then -1 else Lib.index (s.drop (i + 1)) cc + 1 := by
          rw [List.drop_eq_getElem_cons hi0] at hp ⊢
          rw [Lib.index, if_neg (by rw [hp]; simp)]
        have hge := Lib.index_ge (s.drop (i + 1)) cc
        unfold v6From
        rw [hix]
        by_cases c : Lib.index (s.drop (i + 1)) cc = -1
        · rw [c]; rfl
        · rw [if_neg (show ¬ ((Lib.index (s.drop (i + 1)) cc == -1) = true) from by simpa using c), if_neg (show ¬ (Lib.index (s.drop (i + 1)) cc + 1 < 0) from by omega), if_neg (show ¬ (Lib.index (s.drop (i + 1)) cc < 0) from by omega)]
          rw [show i + (Lib.index (s.drop (i + 1)) cc + 1).toNat = i + 1 + (Lib.index (s.drop (i + 1)) cc).toNat from by omega]
      rw [p_ref05_IPv6_1_eq, hw, lt_nat, decide_eq_true hi, cond_true, inside_nat, decide_eq_true hi0, cond_true, hget, b58, inside_nat, decide_eq_true hi, cond_true, hget1, b58]
      cases h1 : (58 == s[i]) with
      | false =>
        rw [cond_false, ih, hnext (by rw [hpre, h1]; rfl)]
      | true =>
        rw [cond_true]
        cases h2 : (58 == s[i + 1]) with
        | false =>
          rw [cond_false, ih, hnext (by rw [hpre, h2, Bool.and_false])]
        | true =>
          rw [cond_true, show decide ((i : Int) < 0) = false from decide_eq_false (by omega), cond_false, ref_two s b0 i (by omega) hs]
          have hix : Lib.index (s.drop i) cc = 0 := by
            have hp : cc.isPrefixOf (s.drop i) = true := by rw [hpre, h1, h2]; rfl
            rw [List.drop_eq_getElem_cons hi0] at hp ⊢
            rw [Lib.index, if_pos hp]
          unfold v6From
          rw [hix, if_neg (by omega)]
          rfl
    · rw [p_ref05_IPv6_1_eq, hw, lt_nat, decide_eq_false hi, cond_false, show decide ((-1 : Int) < 0) = true from rfl, cond_true, ref_one s b0 hs]
      unfold v6From
      rw [index_short _ (by simp; omega), if_pos (by omega)]

theorem c_ref05_IPv6_val (s : List UInt8) (hs : s.length ≤ 1073741823) : c_ref05_IPv6 s = some (v6Of s) := by
  rw [c_ref05_IPv6_eq, p_ref05_IPv6_0_eq]
  refine (p_ref05_IPv6_1_val s _ hs s.length 0 (by omega)).trans ?_
  unfold v6From v6Of
  rw [List.drop_zero, Nat.zero_add]

/-! The program's. -/
theorem copy_lay (a b : List Int) (h : a.length + b.length ≤ 8) :
    (List.take (Int.toNat (IntKind.i64.wrap ((8 : Int) - (b.length : Int)))) ((List.take 0 z8 ++ List.take (8 - 0) a) ++ List.drop (0 + min a.length (8 - 0)) z8) ++ List.take (8 - Int.toNat (IntKind.i64.wrap ((8 : Int) - (b.length : Int)))) b) ++
      List.drop (Int.toNat (IntKind.i64.wrap ((8 : Int) - (b.length : Int))) + min b.length (8 - Int.toNat (IntKind.i64.wrap ((8 : Int) - (b.length : Int))))) ((List.take 0 z8 ++ List.take (8 - 0) a) ++ List.drop (0 + min a.length (8 - 0)) z8) = lay8 a b := by
  have hw : Int.toNat (IntKind.i64.wrap ((8 : Int) - (b.length : Int))) = 8 - b.length := by rw [w64 (by omega) (by omega)]; omega
  have hA : (List.take 0 z8 ++ List.take (8 - 0) a) ++ List.drop (0 + min a.length (8 - 0)) z8 = a ++ z8.drop a.length := by
    rw [List.take_zero, List.nil_append, List.take_of_length_le (by omega), Nat.zero_add, Nat.min_eq_left (by omega)]
  have hl : (a ++ z8.drop a.length).length = 8 := by rw [List.length_append, List.length_drop, show z8.length = 8 from rfl]; omega
  unfold lay8
  rw [hw, hA]
  generalize a ++ z8.drop a.length = A at hl
  rw [List.take_of_length_le (l := b) (by omega), Nat.min_eq_left (by omega), List.drop_eq_nil_of_le (by omega), List.append_nil]

theorem cut8 (b : List Int) (h : b.length ≤ 8) : cutOk (some (IntKind.i64.wrap ((8 : Int) - (b.length : Int)))) none 8 = true := by
  rw [w64 (by omega) (by omega), show ((8 : Int) - (b.length : Int)) = ((8 - b.length : Nat) : Int) from by omega]
  exact cut_from (by omega)

theorem c_strings_Cut_val (s : List UInt8) (hs : s.length ≤ 1073741823) :
    c_strings_Cut (s, [58, 58]) = some (if Lib.index s cc < 0 then (s, [], false) else (s.take (Lib.index s cc).toNat, s.drop ((Lib.index s cc).toNat + 2), true)) := by
  rw [c_strings_Cut_eq, p_strings_Cut_0_eq, c_istringslite_Cut_eq, p_istringslite_Cut_0_eq, c_istringslite_Index_eq, primIndex, show decide (s.length < 4294967281) = true from decide_eq_true (by omega), cond_true, Option.bind_some]
  rw [show ([58, 58] : List UInt8) = cc from rfl]
  by_cases h : Lib.index s cc < 0
  · rw [show decide (Lib.index s cc ≥ 0) = false from decide_eq_false (by omega), cond_false, if_pos h]; rfl
  · have hle := index_le s (by omega)
    rw [show decide (Lib.index s cc ≥ 0) = true from decide_eq_true (by omega), cond_true, if_neg h]
    obtain ⟨n, hn⟩ := Int.eq_ofNat_of_zero_le (show 0 ≤ Lib.index s cc by omega)
    rw [hn] at hle ⊢
    rw [Int.toNat_natCast] at hle ⊢
    have hc : cutOk none (some (n : Int)) s.length = true := by simp [cutOk]; omega
    have hcl : cutList none (some (n : Int)) s = s.take n := by simp [cutList]
    have hw : IntKind.i64.wrap ((n : Int) + ((cc.length : Nat) : Int)) = ((n + 2 : Nat) : Int) := by
      rw [show ((cc.length : Nat) : Int) = 2 from rfl, w64 (by omega) (by omega)]; omega
    rw [hc, cond_true, hcl, hw, cut_from hle, cond_true, cutList_from]; rfl

theorem c_host_IPv6_val (s : List UInt8) (hs : s.length ≤ 1073741823) : c_host_IPv6 s = some (v6Of s) := by
  rw [c_host_IPv6_eq, p_host_IPv6_0_eq, c_strings_Cut_val s hs, Option.bind_some]
  unfold v6Of
  by_cases h : Lib.index s cc < 0
  · rw [if_pos h, if_pos h]
    simp only [Bool.not_false, cond_true, cond_false]
    have o1 := c_host_pieces_val s true hs
    have o2 : c_host_pieces ([], true) = some ([], true) := c_host_pieces_val [] true (by simp)
    have ln := pieces_len true s
    unfold v6One
    cases hp : pieces true s with
    | none =>
      rw [hp] at o1
      obtain ⟨u, hu⟩ := o1
      rw [hu, o2]; rfl
    | some l =>
      rw [hp] at o1
      have ln := ln l hp
      have hu : c_host_pieces (s, true) = some (l, true) := o1
      rw [hu, o2]
      simp only [Option.bind_some, Bool.not_true, cond_false]
      rw [w64 (by simp only [List.length_nil]; omega) (by simp only [List.length_nil]; omega)]
      rw [show ((l.length : Nat) : Int) + ((([] : List Int).length : Nat) : Int) = (l.length : Int) from by simp]
      by_cases c : l.length = 8
      · rw [show (((l.length : Nat) : Int) != 8) = false from by simp [c], cond_false, if_pos c, cut8 [] (by simp), cond_true]
        have := copy_lay l [] (by simp [c])
        refine congrArg some (Prod.ext ?_ rfl)
        refine this.trans ?_
        unfold lay8
        rw [c, show z8.drop 8 = [] from rfl, List.append_nil, List.append_nil, List.take_of_length_le (by simp [c])]
      · rw [show (((l.length : Nat) : Int) != 8) = true from by simp; omega, cond_true, if_neg c]; rfl
  · rw [if_neg h, if_neg h]
    have hle := index_le s (by omega)
    simp only [Bool.not_true, cond_true, cond_false]
    have o1 := c_host_pieces_val (s.take (Lib.index s cc).toNat) false (by simp; omega)
    have o2 := c_host_pieces_val (s.drop ((Lib.index s cc).toNat + 2)) true (by simp; omega)
    have l1 := pieces_len false (s.take (Lib.index s cc).toNat)
    have l2 := pieces_len true (s.drop ((Lib.index s cc).toNat + 2))
    unfold v6Two
    cases h1 : pieces false (s.take (Lib.index s cc).toNat) with
    | none =>
      rw [h1] at o1
      obtain ⟨u, hu⟩ := o1
      rw [hu]
      cases h2 : pieces true (s.drop ((Lib.index s cc).toNat + 2)) with
      | none =>
        rw [h2] at o2
        obtain ⟨u2, hu2⟩ := o2
        rw [hu2]; rfl
      | some b =>
        rw [h2] at o2
        rw [show c_host_pieces (s.drop ((Lib.index s cc).toNat + 2), true) = some (b, true) from o2]; rfl
    | some a =>
      rw [h1] at o1
      have l1 := l1 a h1
      rw [show c_host_pieces (s.take (Lib.index s cc).toNat, false) = some (a, true) from o1]
      cases h2 : pieces true (s.drop ((Lib.index s cc).toNat + 2)) with
      | none =>
        rw [h2] at o2
        obtain ⟨u2, hu2⟩ := o2
        rw [hu2]; rfl
      | some b =>
        rw [h2] at o2
        have l2 := l2 b h2
        rw [show c_host_pieces (s.drop ((Lib.index s cc).toNat + 2), true) = some (b, true) from o2]
        simp only [List.length_take, List.length_drop] at l1 l2
        simp only [Option.bind_some, Bool.not_true, cond_false]
        rw [w64 (by omega) (by omega)]
        by_cases c : 7 < a.length + b.length
        · rw [show decide (((a.length : Nat) : Int) + ((b.length : Nat) : Int) > 7) = true from decide_eq_true (by omega), cond_true, if_pos c]; rfl
        · rw [show decide (((a.length : Nat) : Int) + ((b.length : Nat) : Int) > 7) = false from decide_eq_false (by omega), cond_false, if_neg c, cut8 b (by omega), cond_true]
          exact congrArg some (Prod.ext (copy_lay a b (by omega)) rfl)
end Go.Abs
/- The law: true of every text. -/
namespace Go.Abs
set_option autoImplicit false

theorem beq_int (k : IntKind) (n : Int) : Ty.beq (.int k) n n = true := by simp [Ty.beq]
theorem lbeq_refl {α : Type} (f : α → α → Bool) (h : ∀ x, f x x = true) : ∀ l : List α, Ty.beq.lbeq f l l = true
  | [] => by simp [Ty.beq.lbeq]
  | x :: l => by simp [Ty.beq.lbeq, h x, lbeq_refl f h l]
theorem beq_u16s (l : List Int) : Ty.beq (.arr 8 (.int .u16)) l l = true := by
  rw [Ty.beq]
  exact lbeq_refl _ (beq_int _) l

theorem c_law05_num_val (n : Int) : c_law05_num n = some n := by rw [c_law05_num_eq, p_law05_num_0_eq]

theorem c_law05_HostNumbers_of (s : List UInt8) (hs : s.length ≤ 1073741823) (h47 : c_law05_alive () = some true) : c_law05_HostNumbers s = some true := by
  rw [c_law05_HostNumbers_eq, p_law05_HostNumbers_0_eq, c_host_IPv4_val s hs, c_ref05_IPv4_val s hs, c_host_IPv6_val s hs, c_ref05_IPv6_val s hs, c_host_EndsInNumber_val s hs, c_ref05_EndsInNumber_val s hs, h47]
  simp only [Option.bind_some, c_law05_num_val, beq_self_eq_true, beq_u16s, cond_true]
end Go.Abs
