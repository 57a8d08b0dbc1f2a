/- Part L2 of the proof: see the last text of the claim. No condition of its own. -/
import Derived.Test.YtddagflhafkbnaaGreatDoorL1
set_option linter.all false
namespace Go.Abs
set_option autoImplicit false

theorem pre1 (c b : UInt8) (l : List UInt8) : ([c] : List UInt8).isPrefixOf (b :: l) = (c == b) := by simp [List.isPrefixOf]
theorem index_any (c : UInt8) : ∀ x : List UInt8, decide (Lib.index x [c] ≥ 0) = x.any (fun b => b == c)
  | [] => rfl
  | b :: l => by
    have ih := index_any c l
    have hge := Lib.index_ge l [c]
    rw [Lib.index, pre1, List.any_cons, ← ih]
    by_cases h : c = b
    · subst h; simp
    · have h1 : (c == b) = false := by simpa using h
      have h2 : (b == c) = false := by simpa using fun e => h e.symm
      rw [h1, h2, if_neg (by simp), Bool.false_or]
      by_cases h3 : Lib.index l [c] = -1
      · rw [h3]; rfl
      · rw [if_neg (by simpa using h3)]
        rw [decide_eq_true (by omega : Lib.index l [c] ≥ 0), decide_eq_true (by omega : Lib.index l [c] + 1 ≥ 0)]

def hasDot (x : List UInt8) : Bool := x.any fun b => b == 46
theorem c_strings_Contains_val (x : List UInt8) (hx : x.length ≤ 1073741824) : c_strings_Contains (x, [46]) = some (hasDot x) := by
  rw [c_strings_Contains_eq, Zn_eq, c_strings_Index_eq, primIndex]
  rw [show decide (x.length < 4294967281) = true from decide_eq_true (by omega), cond_true, Option.bind_some, index_any]
  rfl

def decGo : Int → List UInt8 → Int
  | n, [] => n
  | n, b :: l => decGo (n * 10 + (byteI b - 48)) l
def dec3 (x : List UInt8) : Option Int :=
  if x.length < 1 ∨ 3 < x.length then none else if x.all isDig = true then (if x.getD 0 0 = 48 ∧ 1 < x.length then none else if 255 < decGo 0 x then none else some (decGo 0 x)) else none

theorem byte48 (b : UInt8) : (((b.toNat : Nat) : Int) == 48) = decide (b = 48) := by
  by_cases h : b = 48
  · subst h; rfl
  · have : b.toNat ≠ 48 := fun e => h (UInt8.toNat_inj.1 e)
    rw [decide_eq_false h]; simp; omega

theorem isDig_le (b : UInt8) (h : isDig b = true) : 48 ≤ byteI b ∧ byteI b ≤ 57 := by simpa [isDig] using h

end Go.Abs
namespace Go.Abs
set_option autoImplicit false

theorem w16 {x : Int} (h1 : 0 ≤ x) (h2 : x ≤ 65535) : IntKind.u16.wrap x = x := by
  change (if (false && decide (x % (65536 : Int) ≥ (32768 : Int))) = true then x % (65536 : Int) - (65536 : Int) else x % (65536 : Int)) = x
  rw [if_neg (by simp)]; omega

theorem digs_all : (List.range 256).all (fun n => inSet digs (byteI (UInt8.ofNat n)) == isDig (UInt8.ofNat n)) = true := by kernel_rfl
theorem digs_isDig (b : UInt8) : inSet digs (byteI b) = isDig b := by
  refine byte_all (p := fun b => inSet digs (byteI b) = isDig b) (fun n hn => ?_) b
  have := List.all_eq_true.1 digs_all n (List.mem_range.2 hn)
  simpa using this
theorem all_digs (x : List UInt8) (hx : x.length ≤ 1073741824) : c_host_all (x, [48, 49, 50, 51, 52, 53, 54, 55, 56, 57]) = some (x.all isDig) := by
  rw [show ([48, 49, 50, 51, 52, 53, 54, 55, 56, 57] : List UInt8) = digs from rfl, c_host_all_val x digs digs_small hx]
  congr 2
  funext b
  exact digs_isDig b

theorem decGo_ge : ∀ (x : List UInt8) (n : Int), 0 ≤ n → x.all isDig = true → 0 ≤ decGo n x
  | [], n, h, _ => h
  | b :: l, n, h, hd => by
    rw [List.all_cons, Bool.and_eq_true] at hd
    have := isDig_le b hd.1
    exact decGo_ge l _ (by omega) hd.2
theorem dec3_some {x : List UInt8} {v : Int} (h : dec3 x = some v) : 1 ≤ x.length ∧ x.length ≤ 3 ∧ x.all isDig = true ∧ ¬ (x.getD 0 0 = 48 ∧ 1 < x.length) ∧ v = decGo 0 x ∧ 0 ≤ v ∧ v ≤ 255 := by
  unfold dec3 at h
  split at h
  · cases h
  · split at h
    · split at h
      · cases h
      · split at h
        · cases h
        · rename_i h1 h2 h3 h4
          have := Option.some.inj h
          have := decGo_ge x 0 (by omega) h2
          exact ⟨by omega, by omega, h2, h3, by omega, by omega, by omega⟩
    · cases h

theorem or_add {a b : Int} (ha : 0 ≤ a ∧ a ≤ 255) (hb : 0 ≤ b ∧ b ≤ 255) : bits Go.BinOp.or IntKind.u16 (a * 256) b = a * 256 + b := by
  obtain ⟨m, rfl⟩ := Int.eq_ofNat_of_zero_le ha.1
  obtain ⟨n, rfl⟩ := Int.eq_ofNat_of_zero_le hb.1
  have e1 : (BitVec.ofInt 16 ((m : Int) * 256)).toNat = m * 2 ^ 8 := by
    rw [BitVec.toNat_ofInt]; omega
  have e2 : (BitVec.ofInt 16 (n : Int)).toNat = n := by
    rw [BitVec.toNat_ofInt]; omega
  have e : (BitVec.ofInt 16 ((m : Int) * 256) ||| BitVec.ofInt 16 (n : Int)).toNat = m * 256 + n := by
    rw [BitVec.toNat_or, e1, e2, Nat.mul_comm m, ← Nat.two_pow_add_eq_or_of_lt (by omega)]
  show IntKind.u16.wrap (((BitVec.ofInt 16 ((m : Int) * 256) ||| BitVec.ofInt 16 (n : Int)).toNat : Nat) : Int) = _
  rw [e, w16 (by omega) (by omega)]
  omega

theorem shl16 {a : Int} (h0 : 0 ≤ a) (h1 : a ≤ 255) : shl IntKind.u16 a 8 = a * 256 := by
  show IntKind.u16.wrap (a * 2 ^ (min 8 16)) = _
  rw [show (2 : Int) ^ (min 8 16) = 256 from rfl, w16 (by omega) (by omega)]

def quadOf : List (List UInt8) → Option (List Int)
  | [x0, x1, x2, x3] => (dec3 x0).bind fun a => (dec3 x1).bind fun b => (dec3 x2).bind fun c => (dec3 x3).bind fun d => some [a * 256 + b, c * 256 + d]
  | _ => none
def quad (x : List UInt8) : Option (List Int) := quadOf (splitAt x 46)

end Go.Abs
namespace Go.Abs
set_option autoImplicit false

theorem p_host_tail_2_val (s : List UInt8) (i : Nat) (x : List UInt8) (b : List Int) (r0 : List (List UInt8)) (hi : i < 4) (hb : b.length = 4) (hx : x.length ≤ 3) : ∀ (k j : Nat) (m : Int), j + k = x.length → 0 ≤ m → m < 10 ^ j → (x.drop j).all isDig = true →
    Zq s (i : Int) x 4 (i : Int) (x.length : Int) (j : Int) (b.set i m) r0 =
      if 255 < decGo m (x.drop j) then some ([], false) else Zp s 4 ((i + 1 : Nat) : Int) (b.set i (decGo m (x.drop j))) r0
  | 0, j, m, hk, h0, h1, hd => by
    have : j = x.length := by omega
    subst this
    have hg : List.getD (b.set i m) (Int.toNat (i : Int)) (Ty.zero (.int .u16)) = m := by
      rw [Int.toNat_natCast, List.getD_eq_getElem?_getD, List.getElem?_set_self (by omega)]; rfl
    have hw : IntKind.i64.wrap ((i : Int) + 1) = ((i + 1 : Nat) : Int) := by rw [w64 (by omega) (by omega)]; omega
    rw [Zq_eq, lt_nat, decide_eq_false (Nat.lt_irrefl _), cond_false, inside_nat, decide_eq_true hi, cond_true, hg, List.drop_length, decGo, hw]
    by_cases c : 255 < m
    · rw [show decide (m > 255) = true from decide_eq_true c, cond_true, if_pos c]
    · rw [show decide (m > 255) = false from decide_eq_false c, cond_false, if_neg c]
  | k + 1, j, m, hk, h0, h1, hd => by
    have hj : j < x.length := by omega
    have hg : List.getD (b.set i m) (Int.toNat (i : Int)) (Ty.zero (.int .u16)) = m := by
      rw [Int.toNat_natCast, List.getD_eq_getElem?_getD, List.getElem?_set_self (by omega)]; rfl
    have hget : x.getD (Int.toNat (j : Int)) 0 = x[j] := by
      rw [Int.toNat_natCast, List.getD_eq_getElem?_getD, List.getElem?_eq_getElem hj]; rfl
    have hw : IntKind.i64.wrap ((j : Int) + 1) = ((j + 1 : Nat) : Int) := by rw [w64 (by omega) (by omega)]; omega
    have hm : m < 1000 := by
      have : j = 0 ∨ j = 1 ∨ j = 2 := by omega
      rcases this with rfl | rfl | rfl <;> simp at h1 <;> omega
    rw [List.drop_eq_getElem_cons hj, List.all_cons, Bool.and_eq_true] at hd
    have hdig := isDig_le _ hd.1
    rw [Zq_eq, lt_nat, decide_eq_true hj, cond_true, inside_nat, decide_eq_true hi, cond_true, inside_nat, decide_eq_true hj, cond_true, cond_true, hg, hget, hw]
    rw [show ((x[j].toNat : Nat) : Int) = byteI x[j] from rfl, w8 (by omega) (by omega), w16 (x := 10 * m) (by omega) (by omega), w16 (x := byteI x[j] - 48) (by omega) (by omega), w16 (by omega) (by omega)]
    rw [Int.toNat_natCast, List.set_set, List.drop_eq_getElem_cons hj, decGo, Int.mul_comm 10 m]
    exact p_host_tail_2_val s i x b r0 hi hb hx k (j + 1) _ (by omega) (by omega) (by rw [Int.pow_succ]; omega) hd.2

theorem p_host_tail_1_step (s : List UInt8) (i : Nat) (b : List Int) (r0 : List (List UInt8)) (x : List UInt8) (hi : i < 4) (hb : b.length = 4) (hxi : r0[i]? = some x) (hb0 : b[i]? = some 0) (hx : x.length ≤ 1073741824) :
    Zp s 4 (i : Int) b r0 = match dec3 x with | none => some ([], false) | some v => Zp s 4 ((i + 1 : Nat) : Int) (b.set i v) r0 := by
  have hget : List.getD r0 (Int.toNat (i : Int)) (Ty.zero .str) = x := by
    rw [Int.toNat_natCast, List.getD_eq_getElem?_getD, hxi]; rfl
  have hl : i < r0.length := by
    rcases Nat.lt_or_ge i r0.length with h | h
    · exact h
    · rw [List.getElem?_eq_none h] at hxi; cases hxi
  rw [Zp_eq, show decide ((i : Int) < 4) = true from decide_eq_true (by omega), cond_true, inside_nat, decide_eq_true hl, cond_true, hget, all_digs x hx, Option.bind_some]
  by_cases h0 : x.length < 1
  · have : x = [] := List.eq_nil_of_length_eq_zero (by omega)
    subst this; rfl
  have hne : (x == ([] : List UInt8)) = false := by
    rw [beq_eq_false_iff_ne]; intro e; rw [e] at h0; simp at h0
  rw [hne, cond_false]
  unfold dec3
  by_cases h3 : 3 < x.length
  · rw [show decide (((x.length : Nat) : Int) > 3) = true from decide_eq_true (by omega), cond_true, if_pos (.inr h3)]
  rw [show decide (((x.length : Nat) : Int) > 3) = false from decide_eq_false (by omega), cond_false, if_neg (show ¬ (x.length < 1 ∨ 3 < x.length) from by omega)]
  cases hd : x.all isDig with
  | false => rfl
  | true =>
    rw [Bool.not_true, cond_false, if_pos rfl, show inside (0 : Int) x.length = true from by rw [show (0 : Int) = ((0 : Nat) : Int) from rfl, inside_nat]; exact decide_eq_true (by omega), cond_true, byte48, show Int.toNat (0 : Int) = 0 from rfl]
    have hbs : b.set i 0 = b := by
      apply List.ext_getElem?
      intro n
      by_cases e : i = n
      · subst e; rw [List.getElem?_set_self (by omega), hb0]
      · rw [List.getElem?_set_ne e]
    have loop := p_host_tail_2_val s i x b r0 hi hb (by omega) x.length 0 0 (by omega) (by omega) (by simp) hd
    rw [show ((0 : Nat) : Int) = 0 from rfl, List.drop_zero, hbs] at loop
    rw [loop]
    by_cases c : x.getD 0 0 = 48
    · rw [decide_eq_true c, cond_true]
      by_cases d : 1 < x.length
      · rw [show decide (((x.length : Nat) : Int) > 1) = true from decide_eq_true (by omega), cond_true, if_pos (show x.getD 0 0 = 48 ∧ 1 < x.length from ⟨c, d⟩)]
      · rw [show decide (((x.length : Nat) : Int) > 1) = false from decide_eq_false (by omega), cond_false, if_neg (show ¬ (x.getD 0 0 = 48 ∧ 1 < x.length) from fun h => d h.2)]
        split <;> rfl
    · rw [decide_eq_false c, cond_false, if_neg (show ¬ (x.getD 0 0 = 48 ∧ 1 < x.length) from fun h => c h.1)]
      split <;> rfl

theorem c_host_tail_val (x : List UInt8) (hx : x.length ≤ 1073741824) : c_host_tail x = match quad x with | none => some ([], false) | some l => some (l, true) := by
  rw [c_host_tail_eq, Zo_eq, c_octets_Split_val x 46 hx, Option.bind_some]
  have hle : ∀ y ∈ splitAt x 46, y.length ≤ 1073741824 := by
    intro y hy
    have := splitC_le 46 x [] y hy
    simp at this; omega
  unfold quad
  generalize splitAt x 46 = y at hle ⊢
  match y, hle with
  | [], _ => rfl
  | [_], _ => rfl
  | [_, _], _ => rfl
  | [_, _, _], _ => rfl
  | x0 :: x1 :: x2 :: x3 :: x4 :: l, _ =>
    rw [show ((((x0 :: x1 :: x2 :: x3 :: x4 :: l).length : Nat) : Int) != 4) = true from by simp only [List.length_cons, bne_iff_ne]; omega, cond_true]; rfl
  | [x0, x1, x2, x3], hle =>
    rw [show ((((([x0, x1, x2, x3] : List (List UInt8)).length) : Nat) : Int) != 4) = false from rfl, cond_false]
    have s0 := p_host_tail_1_step x 0 [0, 0, 0, 0] [x0, x1, x2, x3] x0 (by omega) rfl rfl rfl (hle x0 (by simp))
    rw [show ((0 : Nat) : Int) = 0 from rfl] at s0
    rw [show (((([x0, x1, x2, x3] : List (List UInt8)).length : Nat) : Int)) = 4 from rfl, show (Ty.zero (.arr 4 (.int .u16)) : List Int) = [0, 0, 0, 0] from rfl, s0]
    rw [show quadOf [x0, x1, x2, x3] = (dec3 x0).bind fun a => (dec3 x1).bind fun b => (dec3 x2).bind fun c => (dec3 x3).bind fun d => some [a * 256 + b, c * 256 + d] from rfl]
    cases h0 : dec3 x0 with
    | none => rfl
    | some a =>
      have b0 := dec3_some h0
      simp only [Option.bind_some]
      rw [p_host_tail_1_step x 1 _ [x0, x1, x2, x3] x1 (by omega) rfl rfl rfl (hle x1 (by simp))]
      cases h1 : dec3 x1 with
      | none => rfl
      | some b =>
        have b1 := dec3_some h1
        simp only [Option.bind_some]
        rw [p_host_tail_1_step x 2 _ [x0, x1, x2, x3] x2 (by omega) rfl rfl rfl (hle x2 (by simp))]
        cases h2 : dec3 x2 with
        | none => rfl
        | some c =>
          have b2 := dec3_some h2
          simp only [Option.bind_some]
          rw [p_host_tail_1_step x 3 _ [x0, x1, x2, x3] x3 (by omega) rfl rfl rfl (hle x3 (by simp))]
          cases h3 : dec3 x3 with
          | none => rfl
          | some d =>
            have b3 := dec3_some h3
            simp only [Option.bind_some]
            rw [Zp_eq, show decide (((3 + 1 : Nat) : Int) < 4) = false from rfl, cond_false]
            show some ([bits Go.BinOp.or IntKind.u16 (shl IntKind.u16 a 8) b, bits Go.BinOp.or IntKind.u16 (shl IntKind.u16 c 8) d], true) = _
            rw [shl16 (by omega) (by omega), shl16 (by omega) (by omega), or_add (by omega) (by omega), or_add (by omega) (by omega)]
end Go.Abs
namespace Go.Abs
set_option autoImplicit false

def hexPart (x : List UInt8) : Option Int := if x.length < 1 ∨ 4 < x.length then none else if numGo 16 0 x < 0 then none else some (IntKind.u16.wrap (numGo 16 0 x))
def run6 (t : Bool) : List (List UInt8) → Option (List Int)
  | [] => some []
  | x :: l => if t = true ∧ l = [] ∧ hasDot x = true then quad x else (hexPart x).bind fun v => (run6 t l).map (v :: ·)
def pieces (t : Bool) (s : List UInt8) : Option (List Int) := if s = [] then some [] else run6 t (splitAt s 58)

theorem hex_prog {α : Type} (x : List UInt8) (r : List Int) (F : List Int → Option (List Int × Bool)) (hr : r.length ≤ 1073741825) :
    (bif (x == ([] : List UInt8)) then some (([] : List Int), false)
     else bif (decide (((x.length : Nat) : Int) > (4 : Int))) then some (([] : List Int), false)
     else bif (decide (((List.length ([(48 : UInt8), (120 : UInt8)] : List UInt8)) + x.length) ≤ (2 ^ 62))) then
        (c_host_number (([(48 : UInt8), (120 : UInt8)] : List UInt8) ++ x)).bind fun y1 =>
          bif (!y1.2) then some (([] : List Int), false)
          else bif (decide (((List.length r) + (List.length ([(IntKind.wrap IntKind.u16 y1.1)] : List Int))) ≤ (lim))) then F (r ++ ([(IntKind.wrap IntKind.u16 y1.1)] : List Int))
          else none
     else none) = match hexPart x with | none => some ([], false) | some v => F (r ++ [v]) := by
  unfold hexPart
  by_cases h0 : x.length < 1
  · have : x = [] := List.eq_nil_of_length_eq_zero (by omega)
    subst this; rfl
  have hne : (x == ([] : List UInt8)) = false := by
    rw [beq_eq_false_iff_ne]; intro e; rw [e] at h0; simp at h0
  rw [hne, cond_false]
  by_cases h4 : 4 < x.length
  · rw [show decide (((x.length : Nat) : Int) > 4) = true from decide_eq_true (by omega), cond_true, if_pos (.inr h4)]
  rw [show decide (((x.length : Nat) : Int) > 4) = false from decide_eq_false (by omega), cond_false, if_neg (show ¬ (x.length < 1 ∨ 4 < x.length) from by omega)]
  rw [show decide (((List.length ([(48 : UInt8), (120 : UInt8)] : List UInt8)) + x.length) ≤ (2 ^ 62)) = true from decide_eq_true (by simp; omega), cond_true]
  rw [show ([(48 : UInt8), (120 : UInt8)] : List UInt8) ++ x = 48 :: 120 :: x from rfl, c_host_number_val _ (by simp; omega), numOf_cons, if_pos (show byteI 48 = 48 from rfl), if_pos (show isX 120 = true from rfl), Option.bind_some]
  unfold okNum
  by_cases hn : numGo 16 0 x < 0
  · rw [if_pos hn, if_pos hn]; rfl
  · rw [if_neg hn, if_neg hn]
    simp only [Bool.not_true, cond_false]
    rw [show decide (r.length + [IntKind.u16.wrap (numGo 16 0 x)].length ≤ lim) = true from decide_eq_true (by simp [lim]; omega), cond_true]

def Ok6 (o : Option (List Int)) (r : List Int) (y : Option (List Int × Bool)) : Prop := match o with
  | none => ∃ u, y = some (u, false)
  | some l => y = some (r ++ l, true)

theorem p_host_pieces_1_val (s : List UInt8) (t : Bool) (parts : List (List UInt8)) (hl : parts.length ≤ 1073741825) (hp : ∀ x ∈ parts, x.length ≤ 1073741824) : ∀ (k j : Nat) (r : List Int), j + k = parts.length → r.length ≤ j →
    Ok6 (run6 t (parts.drop j)) r (Zg s t (parts.length : Int) (j : Int) r parts)
  | 0, j, r, hk, hr => by
    have : j = parts.length := by omega
    subst this
    rw [Zg_eq, lt_nat, decide_eq_false (Nat.lt_irrefl _), cond_false, List.drop_length]
    show some (r, true) = some (r ++ [], true)
    rw [List.append_nil]
  | k + 1, j, r, hk, hr => by
    have hj : j < parts.length := by omega
    have hget : List.getD parts (Int.toNat (j : Int)) (Ty.zero .str) = parts[j] := by
      rw [Int.toNat_natCast, List.getD_eq_getElem?_getD, List.getElem?_eq_getElem hj]; rfl
    have hw : IntKind.i64.wrap ((j : Int) + 1) = ((j + 1 : Nat) : Int) := by rw [w64 (by omega) (by omega)]; omega
    have hx := hp _ (List.getElem_mem hj)
    have hwl : IntKind.i64.wrap ((parts.length : Int) - 1) = ((parts.length - 1 : Nat) : Int) := by rw [w64 (by omega) (by omega)]; omega
    have hex := hex_prog (α := Unit) parts[j] r (fun q => Zg s t (parts.length : Int) ((j + 1 : Nat) : Int) q parts) (by omega)
    have next : ∀ v, Ok6 ((run6 t (parts.drop (j + 1))).map (v :: ·)) r (Zg s t (parts.length : Int) ((j + 1 : Nat) : Int) (r ++ [v]) parts) := by
      intro v
      have ih := p_host_pieces_1_val s t parts hl hp k (j + 1) (r ++ [v]) (by omega) (by simp; omega)
      cases ho : run6 t (parts.drop (j + 1)) with
      | none => rw [ho] at ih; exact ih
      | some l =>
        rw [ho] at ih
        refine (show _ = some _ from ih).trans ?_
        simp
    have hexOk : Ok6 ((hexPart parts[j]).bind fun v => (run6 t (parts.drop (j + 1))).map (v :: ·)) r (match hexPart parts[j] with | none => some ([], false) | some v => Zg s t (parts.length : Int) ((j + 1 : Nat) : Int) (r ++ [v]) parts) := by
      cases hexPart parts[j] with
      | none => exact ⟨[], rfl⟩
      | some v => exact next v
    rw [Zg_eq, lt_nat, decide_eq_true hj, cond_true, inside_nat, decide_eq_true hj, cond_true, hget, hw, hwl, List.drop_eq_getElem_cons hj, run6, hex]
    cases t with
    | false =>
      rw [cond_false, if_neg (fun h => Bool.noConfusion h.1)]
      exact hexOk
    | true =>
      rw [cond_true]
      by_cases e : j = parts.length - 1
      · rw [show (((j : Nat) : Int) == ((parts.length - 1 : Nat) : Int)) = true from beq_iff_eq.2 (by omega), cond_true, c_strings_Contains_val _ hx, Option.bind_some]
        have hnil : parts.drop (j + 1) = [] := List.drop_eq_nil_of_le (by omega)
        cases hd : hasDot parts[j] with
        | false =>
          rw [cond_false, if_neg (fun h => Bool.noConfusion h.2.2)]
          exact hexOk
        | true =>
          rw [cond_true, if_pos ⟨rfl, hnil, rfl⟩, c_host_tail_val _ hx]
          cases hq : quad parts[j] with
          | none =>
            simp only [Option.bind_some]
            rw [show decide (r.length + ([] : List Int).length ≤ lim) = true from decide_eq_true (by simp [lim]; omega), cond_true]
            exact ⟨_, rfl⟩
          | some l =>
            have hl2 : l.length = 2 := by
              unfold quad quadOf at hq
              split at hq
              · simp only [Option.bind_eq_some_iff] at hq
                obtain ⟨a, _, b, _, c, _, d, _, h⟩ := hq
                rw [← Option.some.inj h]; rfl
              · cases hq
            simp only [Option.bind_some]
            rw [show decide (r.length + l.length ≤ lim) = true from decide_eq_true (by simp [lim]; omega), cond_true]
            rfl
      · rw [show (((j : Nat) : Int) == ((parts.length - 1 : Nat) : Int)) = false from beq_eq_false_iff_ne.2 (by omega), cond_false]
        have hnn : ¬ parts.drop (j + 1) = [] := by
          rw [List.drop_eq_nil_iff]; omega
        rw [if_neg (fun h => hnn h.2.1)]
        exact hexOk

theorem split_small (s : List UInt8) (sep : Int) : (splitAt s sep).length ≤ s.length + 1 ∧ ∀ x ∈ splitAt s sep, x.length ≤ s.length := by
  refine ⟨splitC_length sep s [], fun x hx => ?_⟩
  have := splitC_le sep s [] x hx
  simpa using this

theorem c_host_pieces_val (s : List UInt8) (t : Bool) (hs : s.length ≤ 1073741823) : Ok6 (pieces t s) [] (c_host_pieces (s, t)) := by
  rw [c_host_pieces_eq, Zf_eq]
  unfold pieces
  by_cases h : s = []
  · subst h; exact rfl
  · rw [show (s == ([] : List UInt8)) = false from beq_eq_false_iff_ne.2 h, cond_false, if_neg h]
    simp only
    rw [c_octets_Split_val s 58 (by omega), Option.bind_some]
    have := split_small s 58
    exact p_host_pieces_1_val s t (splitAt s 58) (by omega) (fun x hx => by have := this.2 x hx; omega) (splitAt s 58).length 0 [] (by omega) (by simp)

end Go.Abs
namespace Go.Abs
set_option autoImplicit false

def cc : List UInt8 := [58, 58]
def z8 : List Int := [0, 0, 0, 0, 0, 0, 0, 0]
def lay8 (a b : List Int) : List Int := (a ++ z8.drop a.length).take (8 - b.length) ++ b
def v6Two (a b : Option (List Int)) : List Int × Int := match a, b with
  | some a, some b => if 7 < a.length + b.length then (z8, 55) else (lay8 a b, 0)
  | _, _ => (z8, 55)
def v6One (a : Option (List Int)) : List Int × Int := match a with
  | some l => if l.length = 8 then (l, 0) else (z8, 55)
  | none => (z8, 55)
def v6Of (s : List UInt8) : List Int × Int :=
  if Lib.index s cc < 0 then v6One (pieces true s) else v6Two (pieces false (s.take (Lib.index s cc).toNat)) (pieces true (s.drop ((Lib.index s cc).toNat + 2)))

theorem run6_len (t : Bool) : ∀ (l : List (List UInt8)) (r : List Int), run6 t l = some r → r.length ≤ l.length + 1
  | [], r, h => by rw [← Option.some.inj h]; simp
  | x :: l, r, h => by
    unfold run6 at h
    split at h
    · unfold quad quadOf at h
      split at h
      · simp only [Option.bind_eq_some_iff] at h
        obtain ⟨a, _, b, _, c, _, d, _, h⟩ := h
        rw [← Option.some.inj h]; simp
      · cases h
    · simp only [Option.bind_eq_some_iff, Option.map_eq_some_iff] at h
      obtain ⟨v, _, q, hq, h⟩ := h
      have := run6_len t l q hq
      rw [← h]; simp only [List.length_cons]; omega
theorem pieces_len (t : Bool) (s : List UInt8) (r : List Int) (h : pieces t s = some r) : r.length ≤ s.length + 2 := by
  unfold pieces at h
  split at h
  · rw [← Option.some.inj h]; simp
  · have := run6_len t _ r h
    have := (split_small s 58).1
    omega

theorem index_le : ∀ s : List UInt8, 0 ≤ Lib.index s cc → (Lib.index s cc).toNat + 2 ≤ s.length
  | [], h => by simp [Lib.index, cc] at h
  | [a], h => by simp [Lib.index, cc, List.isPrefixOf] at h
  | a :: b :: l, h => by
    have ih := index_le (b :: l)
    rw [Lib.index] at h ⊢
    split
    · simp
    · rename_i hp
      rw [if_neg hp] at h
      have hge := Lib.index_ge (b :: l) cc
      split
      · rename_i hn; rw [if_pos hn] at h; omega
      · rename_i hn
        rw [if_neg hn] at h
        have h1 : Lib.index (b :: l) cc ≠ -1 := by simpa using hn
        have := ih (by omega)
        simp only [List.length_cons] at this ⊢
        omega

theorem copy_lay (a b : List Int) (h : a.length + b.length ≤ 8) :
    (List.take (Int.toNat (IntKind.i64.wrap ((8 : Int) - (b.length : Int)))) ((List.take 0 z8 ++ List.take (8 - 0) a) ++ List.drop (0 + min a.length (8 - 0)) z8) ++ List.take (8 - Int.toNat (IntKind.i64.wrap ((8 : Int) - (b.length : Int)))) b) ++
      List.drop (Int.toNat (IntKind.i64.wrap ((8 : Int) - (b.length : Int))) + min b.length (8 - Int.toNat (IntKind.i64.wrap ((8 : Int) - (b.length : Int))))) ((List.take 0 z8 ++ List.take (8 - 0) a) ++ List.drop (0 + min a.length (8 - 0)) z8) = lay8 a b := by
  have hw : Int.toNat (IntKind.i64.wrap ((8 : Int) - (b.length : Int))) = 8 - b.length := by rw [w64 (by omega) (by omega)]; omega
  have hA : (List.take 0 z8 ++ List.take (8 - 0) a) ++ List.drop (0 + min a.length (8 - 0)) z8 = a ++ z8.drop a.length := by
    rw [List.take_zero, List.nil_append, List.take_of_length_le (by omega), Nat.zero_add, Nat.min_eq_left (by omega)]
  have hl : (a ++ z8.drop a.length).length = 8 := by rw [List.length_append, List.length_drop, show z8.length = 8 from rfl]; omega
  unfold lay8
  rw [hw, hA]
  generalize a ++ z8.drop a.length = A at hl
  rw [List.take_of_length_le (l := b) (by omega), Nat.min_eq_left (by omega), List.drop_eq_nil_of_le (by omega), List.append_nil]

theorem cut8 (b : List Int) (h : b.length ≤ 8) : cutOk (some (IntKind.i64.wrap ((8 : Int) - (b.length : Int)))) none 8 = true := by
  rw [w64 (by omega) (by omega), show ((8 : Int) - (b.length : Int)) = ((8 - b.length : Nat) : Int) from by omega]
  exact cut_from (by omega)

theorem c_strings_Cut_val (s : List UInt8) (hs : s.length ≤ 1073741823) :
    c_strings_Cut (s, [58, 58]) = some (if Lib.index s cc < 0 then (s, [], false) else (s.take (Lib.index s cc).toNat, s.drop ((Lib.index s cc).toNat + 2), true)) := by
  rw [c_strings_Cut_eq, Ze_eq, c_istringslite_Cut_eq, Zm_eq, c_istringslite_Index_eq, primIndex, show decide (s.length < 4294967281) = true from decide_eq_true (by omega), cond_true, Option.bind_some]
  rw [show ([58, 58] : List UInt8) = cc from rfl]
  by_cases h : Lib.index s cc < 0
  · rw [show decide (Lib.index s cc ≥ 0) = false from decide_eq_false (by omega), cond_false, if_pos h]; rfl
  · have hle := index_le s (by omega)
    rw [show decide (Lib.index s cc ≥ 0) = true from decide_eq_true (by omega), cond_true, if_neg h]
    obtain ⟨n, hn⟩ := Int.eq_ofNat_of_zero_le (show 0 ≤ Lib.index s cc by omega)
    rw [hn] at hle ⊢
    rw [Int.toNat_natCast] at hle ⊢
    have hc : cutOk none (some (n : Int)) s.length = true := by simp [cutOk]; omega
    have hcl : cutList none (some (n : Int)) s = s.take n := by simp [cutList]
    have hw : IntKind.i64.wrap ((n : Int) + ((cc.length : Nat) : Int)) = ((n + 2 : Nat) : Int) := by
      rw [show ((cc.length : Nat) : Int) = 2 from rfl, w64 (by omega) (by omega)]; omega
    rw [hc, cond_true, hcl, hw, cut_from hle, cond_true, cutList_from]; rfl

theorem c_host_IPv6_val (s : List UInt8) (hs : s.length ≤ 1073741823) : c_host_IPv6 s = some (v6Of s) := by
  rw [c_host_IPv6_eq, Z6_eq, c_strings_Cut_val s hs, Option.bind_some]
  unfold v6Of
  by_cases h : Lib.index s cc < 0
  · rw [if_pos h, if_pos h]
    simp only [Bool.not_false, cond_true, cond_false]
    have o1 := c_host_pieces_val s true hs
    have o2 : c_host_pieces ([], true) = some ([], true) := c_host_pieces_val [] true (by simp)
    have ln := pieces_len true s
    unfold v6One
    cases hp : pieces true s with
    | none =>
      rw [hp] at o1
      obtain ⟨u, hu⟩ := o1
      rw [hu, o2]; rfl
    | some l =>
      rw [hp] at o1
      have ln := ln l hp
      have hu : c_host_pieces (s, true) = some (l, true) := o1
      rw [hu, o2]
      simp only [Option.bind_some, Bool.not_true, cond_false]
      rw [w64 (by simp only [List.length_nil]; omega) (by simp only [List.length_nil]; omega)]
      rw [show ((l.length : Nat) : Int) + ((([] : List Int).length : Nat) : Int) = (l.length : Int) from by simp]
      by_cases c : l.length = 8
      · rw [show (((l.length : Nat) : Int) != 8) = false from by simp [c], cond_false, if_pos c, cut8 [] (by simp), cond_true]
        have := copy_lay l [] (by simp [c])
        refine congrArg some (Prod.ext ?_ rfl)
        refine this.trans ?_
        unfold lay8
        rw [c, show z8.drop 8 = [] from rfl, List.append_nil, List.append_nil, List.take_of_length_le (by simp [c])]
      · rw [show (((l.length : Nat) : Int) != 8) = true from by simp; omega, cond_true, if_neg c]; rfl
  · rw [if_neg h, if_neg h]
    have hle := index_le s (by omega)
    simp only [Bool.not_true, cond_true, cond_false]
    have o1 := c_host_pieces_val (s.take (Lib.index s cc).toNat) false (by simp; omega)
    have o2 := c_host_pieces_val (s.drop ((Lib.index s cc).toNat + 2)) true (by simp; omega)
    have l1 := pieces_len false (s.take (Lib.index s cc).toNat)
    have l2 := pieces_len true (s.drop ((Lib.index s cc).toNat + 2))
    unfold v6Two
    cases h1 : pieces false (s.take (Lib.index s cc).toNat) with
    | none =>
      rw [h1] at o1
      obtain ⟨u, hu⟩ := o1
      rw [hu]
      cases h2 : pieces true (s.drop ((Lib.index s cc).toNat + 2)) with
      | none =>
        rw [h2] at o2
        obtain ⟨u2, hu2⟩ := o2
        rw [hu2]; rfl
      | some b =>
        rw [h2] at o2
        rw [show c_host_pieces (s.drop ((Lib.index s cc).toNat + 2), true) = some (b, true) from o2]; rfl
    | some a =>
      rw [h1] at o1
      have l1 := l1 a h1
      rw [show c_host_pieces (s.take (Lib.index s cc).toNat, false) = some (a, true) from o1]
      cases h2 : pieces true (s.drop ((Lib.index s cc).toNat + 2)) with
      | none =>
        rw [h2] at o2
        obtain ⟨u2, hu2⟩ := o2
        rw [hu2]; rfl
      | some b =>
        rw [h2] at o2
        have l2 := l2 b h2
        rw [show c_host_pieces (s.drop ((Lib.index s cc).toNat + 2), true) = some (b, true) from o2]
        simp only [List.length_take, List.length_drop] at l1 l2
        simp only [Option.bind_some, Bool.not_true, cond_false]
        rw [w64 (by omega) (by omega)]
        by_cases c : 7 < a.length + b.length
        · rw [show decide (((a.length : Nat) : Int) + ((b.length : Nat) : Int) > 7) = true from decide_eq_true (by omega), cond_true, if_pos c]; rfl
        · rw [show decide (((a.length : Nat) : Int) + ((b.length : Nat) : Int) > 7) = false from decide_eq_false (by omega), cond_false, if_neg c, cut8 b (by omega), cond_true]
          exact congrArg some (Prod.ext (copy_lay a b (by omega)) rfl)
end Go.Abs
namespace Go.Abs
set_option autoImplicit false

theorem c_law05_num_val (n : Int) : c_law05_num n = some n := by rw [c_law05_num_eq, Z7_eq]

end Go.Abs
