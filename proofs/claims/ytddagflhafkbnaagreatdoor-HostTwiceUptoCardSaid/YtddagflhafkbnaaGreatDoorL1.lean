/- Part L1 of the proof: see the last text of the claim. No condition of its own. -/
import Derived.Test.YtddagflhafkbnaaGreatDoorQ1
import Derived.Lib.TrimU
set_option linter.all false
/- Numbers, places, texts: what the equations' words mean. -/
namespace Go.Abs
set_option autoImplicit false

theorem w64 {x : Int} (h1 : -9223372036854775808 ≤ x) (h2 : x ≤ 9223372036854775807) : IntKind.i64.wrap x = x := by
  change (if (true && decide (x % (18446744073709551616 : Int) ≥ (9223372036854775808 : Int))) = true then x % (18446744073709551616 : Int) - (18446744073709551616 : Int) else x % (18446744073709551616 : Int)) = x
  by_cases h : x % (18446744073709551616 : Int) ≥ (9223372036854775808 : Int)
  · rw [if_pos (by simp [h])]; omega
  · rw [if_neg (by simp [h])]; omega

theorem inside_nat {i n : Nat} : inside (i : Int) n = decide (i < n) := by
  unfold inside
  by_cases h : i < n
  · simp [h]
  · simp [h]

theorem lt_nat {i n : Nat} : decide ((i : Int) < (n : Int)) = decide (i < n) := by
  by_cases h : i < n
  · simp [h]
  · simp [h]

theorem cut_both {f i n : Nat} (h1 : f ≤ i) (h2 : i ≤ n) : cutOk (some (f : Int)) (some (i : Int)) n = true := by
  simp [cutOk]; omega
theorem cut_from {f n : Nat} (h1 : f ≤ n) : cutOk (some (f : Int)) none n = true := by
  simp [cutOk]; omega
theorem cutList_both {α : Type} (f i : Nat) (x : List α) : cutList (some (f : Int)) (some (i : Int)) x = (x.take i).drop f := by simp [cutList]
theorem cutList_from {α : Type} (f : Nat) (x : List α) : cutList (some (f : Int)) none x = x.drop f := by simp [cutList]

/-- What a text falls into at a byte. -/
def splitC (sep : Int) : List UInt8 → List UInt8 → List (List UInt8)
  | cur, [] => [cur]
  | cur, b :: l => if ((b.toNat : Nat) : Int) = sep then cur :: splitC sep [] l else splitC sep (cur ++ [b]) l
def splitAt (s : List UInt8) (sep : Int) : List (List UInt8) := splitC sep [] s

theorem splitC_length (sep : Int) : ∀ (l cur : List UInt8), (splitC sep cur l).length ≤ l.length + 1
  | [], cur => by simp [splitC]
  | b :: l, cur => by
    unfold splitC
    split
    · simp only [List.length_cons]; have := splitC_length sep l []; omega
    · have := splitC_length sep l (cur ++ [b]); simp only [List.length_cons]; omega

theorem split_step {s : List UInt8} {f i : Nat} (hf : f ≤ i) (hi : i < s.length) : (s.take (i + 1)).drop f = (s.take i).drop f ++ [s[i]] := by
  rw [List.take_succ_eq_append_getElem hi, List.drop_append_of_le_length (by simp; omega)]

theorem p_octets_Split_1_val (s : List UInt8) (sep : Int) (hs : s.length ≤ 1073741824) : ∀ (k f i : Nat) (r : List (List UInt8)), f ≤ i → i + k = s.length → r.length + k ≤ 1073741824 →
    p_octets_Split_1 s sep (f : Int) (s.length : Int) (i : Int) r = some (r ++ splitC sep ((s.take i).drop f) (s.drop i))
  | 0, f, i, r, hf, hk, hr => by
    have hi : i = s.length := by omega
    subst hi
    rw [p_octets_Split_1_eq]
    simp only [lt_nat, Nat.lt_irrefl, decide_false, cond_false, cut_from hf, cond_true, cutList_from, List.take_length, List.drop_length, splitC]
    have : decide (r.length + [List.drop f s].length ≤ lim) = true := by simp [lim]; omega
    rw [this]; rfl
  | k + 1, f, i, r, hf, hk, hr => by
    have hi : i < s.length := by omega
    have hw : IntKind.i64.wrap ((i : Int) + 1) = ((i + 1 : Nat) : Int) := by rw [w64 (by omega) (by omega)]; omega
    have hget : s.getD (Int.toNat (i : Int)) 0 = s[i] := by
      rw [Int.toNat_natCast, List.getD_eq_getElem?_getD, List.getElem?_eq_getElem hi]; rfl
    have hdrop : s.drop i = s[i] :: s.drop (i + 1) := List.drop_eq_getElem_cons hi
    rw [p_octets_Split_1_eq]
    simp only [lt_nat, hi, decide_true, cond_true, inside_nat, hget, hw, cut_both hf (Nat.le_of_lt hi), cutList_both]
    rw [hdrop, splitC]
    by_cases hsep : ((s[i].toNat : Nat) : Int) = sep
    · have hb : ((((s[i].toNat : Nat) : Int)) == sep) = true := by simp [hsep]
      have hl : decide (r.length + [List.drop f (List.take i s)].length ≤ lim) = true := by simp [lim]; omega
      rw [hb, cond_true, hl, cond_true, if_pos hsep, p_octets_Split_1_val s sep hs k (i + 1) (i + 1) _ (Nat.le_refl _) (by omega) (by simp; omega)]
      simp
    · have hb : ((((s[i].toNat : Nat) : Int)) == sep) = false := by simp [hsep]
      rw [hb, cond_false, if_neg hsep, p_octets_Split_1_val s sep hs k f (i + 1) r (by omega) (by omega) (by omega), split_step hf hi]

/-- octets.Split and the reference's. -/
theorem c_octets_Split_val (s : List UInt8) (sep : Int) (hs : s.length ≤ 1073741824) : c_octets_Split (s, sep) = some (splitAt s sep) := by
  rw [c_octets_Split_eq, p_octets_Split_0_eq]
  exact p_octets_Split_1_val s sep hs s.length 0 0 [] (Nat.le_refl _) (by omega) (by simpa using hs)
end Go.Abs
/- Numbers of an IPv4 address: the program's and the reference's. -/
namespace Go.Abs
set_option autoImplicit false

def byteI (b : UInt8) : Int := ((b.toNat : Nat) : Int)
/-- A capital letter made small. -/
def lowI (x : Int) : Int := if 65 ≤ x ∧ x ≤ 90 then bits Go.BinOp.xor IntKind.u8 x 32 else x
def lowB (b : UInt8) : UInt8 := UInt8.ofNat (lowI (byteI b)).toNat

theorem byteI_lt (b : UInt8) : 0 ≤ byteI b ∧ byteI b ≤ 255 := by
  unfold byteI
  have := b.toNat_lt
  omega

theorem p_octets_turned_1_val (s0 : List UInt8) : ∀ (k i : Nat) (r : List Int), i + k = r.length → r.length ≤ 1073741824 →
    p_octets_turned_1 s0 65 90 (r.length : Int) (i : Int) r = some (strOf (r.take i ++ (r.drop i).map lowI))
  | 0, i, r, hk, hr => by
    have hi : i = r.length := by omega
    subst hi
    rw [p_octets_turned_1_eq]
    simp [lt_nat]
  | k + 1, i, r, hk, hr => by
    have hi : i < r.length := by omega
    have hw : IntKind.i64.wrap ((i : Int) + 1) = ((i + 1 : Nat) : Int) := by rw [w64 (by omega) (by omega)]; omega
    have hget : List.getD r (Int.toNat (i : Int)) (Ty.zero (.int .u8)) = r[i] := by
      rw [Int.toNat_natCast, List.getD_eq_getElem?_getD, List.getElem?_eq_getElem hi]; rfl
    have hdrop : r.drop i = r[i] :: r.drop (i + 1) := List.drop_eq_getElem_cons hi
    have htake : ∀ l : List Int, (h : i < l.length) → l.take (i + 1) = l.take i ++ [l[i]] := fun l h => List.take_succ_eq_append_getElem h
    rw [p_octets_turned_1_eq]
    simp only [lt_nat, hi, decide_true, cond_true, inside_nat, hget, hw]
    rw [hdrop, List.map_cons]
    have next : p_octets_turned_1 s0 65 90 (r.length : Int) ((i + 1 : Nat) : Int) r = some (strOf (r.take i ++ [r[i]] ++ (r.drop (i + 1)).map lowI)) := by
      rw [p_octets_turned_1_val s0 k (i + 1) r (by omega) hr, htake r hi]
    by_cases h1 : (65 : Int) ≤ r[i]
    · have e1 : decide (r[i] ≥ 65) = true := by simpa using h1
      rw [e1, cond_true]
      by_cases h2 : r[i] ≤ (90 : Int)
      · have e2 : decide (r[i] ≤ 90) = true := by simpa using h2
        rw [e2, cond_true]
        have hl : (List.set r (Int.toNat (i : Int)) (bits Go.BinOp.xor IntKind.u8 r[i] 32)).length = r.length := by simp
        have := p_octets_turned_1_val s0 k (i + 1) (List.set r (Int.toNat (i : Int)) (bits Go.BinOp.xor IntKind.u8 r[i] 32)) (by rw [hl]; omega) (by rw [hl]; exact hr)
        rw [hl] at this
        rw [this, Int.toNat_natCast]
        have e3 : lowI r[i] = bits Go.BinOp.xor IntKind.u8 r[i] 32 := by unfold lowI; rw [if_pos ⟨h1, h2⟩]
        rw [e3, htake _ (by simpa using hi)]
        simp [List.take_set_of_le, List.drop_set_of_lt]
      · have e2 : decide (r[i] ≤ 90) = false := by simpa using h2
        rw [e2, cond_false, next]
        have e3 : lowI r[i] = r[i] := by unfold lowI; rw [if_neg (fun h => h2 h.2)]
        rw [e3, List.append_assoc]; rfl
    · have e1 : decide (r[i] ≥ 65) = false := by simpa using h1
      rw [e1, cond_false, next]
      have e3 : lowI r[i] = r[i] := by unfold lowI; rw [if_neg (fun h => h1 h.1)]
      rw [e3, List.append_assoc]; rfl

/-- octets.Lower. -/
theorem c_octets_Lower_val (s : List UInt8) (hs : s.length ≤ 1073741824) : c_octets_Lower s = some (s.map lowB) := by
  rw [c_octets_Lower_eq, p_octets_Lower_0_eq, c_octets_turned_eq]
  simp only
  rw [p_octets_turned_0_eq]
  have hl : (bytesOf s).length = s.length := by simp [bytesOf]
  have := p_octets_turned_1_val s (bytesOf s).length 0 (bytesOf s) (by omega) (by omega)
  rw [show ((0 : Nat) : Int) = (0 : Int) from rfl] at this
  rw [this]
  simp [strOf, bytesOf, lowB, byteI, Function.comp_def]

theorem w8 {x : Int} (h1 : 0 ≤ x) (h2 : x ≤ 255) : IntKind.u8.wrap x = x := by
  change (if (false && decide (x % (256 : Int) ≥ (128 : Int))) = true then x % (256 : Int) - (256 : Int) else x % (256 : Int)) = x
  rw [if_neg (by simp)]; omega

end Go.Abs
/- Numbers, whole; parts. -/
namespace Go.Abs
set_option autoImplicit false

/-- The pieces are no longer than the text. -/
theorem splitC_le (sep : Int) : ∀ (l cur x : List UInt8), x ∈ splitC sep cur l → x.length ≤ cur.length + l.length
  | [], cur, x, h => by
    simp only [splitC, List.mem_singleton] at h; subst h; simp
  | b :: l, cur, x, h => by
    unfold splitC at h
    split at h
    · rcases List.mem_cons.1 h with rfl | h
      · simp
      · have := splitC_le sep l [] x h; simp only [List.length_nil, List.length_cons] at this ⊢; omega
    · have := splitC_le sep l _ x h; simp only [List.length_append, List.length_cons, List.length_nil] at this ⊢; omega
end Go.Abs
/- IPv4 addresses. -/
namespace Go.Abs
set_option autoImplicit false

/-! closed numbers -/
theorem k1 : IntKind.i64.wrap ((1 : Int) - 1) = 0 := by kernel_rfl
theorem k2 : IntKind.i64.wrap ((2 : Int) - 1) = 1 := by kernel_rfl
theorem k3 : IntKind.i64.wrap ((3 : Int) - 1) = 2 := by kernel_rfl
theorem k4 : IntKind.i64.wrap ((4 : Int) - 1) = 3 := by kernel_rfl
theorem q1 : IntKind.i64.wrap (8 * IntKind.i64.wrap ((5 : Int) - 1)) = 32 := by kernel_rfl
theorem q2 : IntKind.i64.wrap (8 * IntKind.i64.wrap ((5 : Int) - 2)) = 24 := by kernel_rfl
theorem q3 : IntKind.i64.wrap (8 * IntKind.i64.wrap ((5 : Int) - 3)) = 16 := by kernel_rfl
theorem q4 : IntKind.i64.wrap (8 * IntKind.i64.wrap ((5 : Int) - 4)) = 8 := by kernel_rfl
theorem r0 : IntKind.i64.wrap (8 * IntKind.i64.wrap ((3 : Int) - 0)) = 24 := by kernel_rfl
theorem r1 : IntKind.i64.wrap (8 * IntKind.i64.wrap ((3 : Int) - 1)) = 16 := by kernel_rfl
theorem r2 : IntKind.i64.wrap (8 * IntKind.i64.wrap ((3 : Int) - 2)) = 8 := by kernel_rfl
theorem a1 : IntKind.i64.wrap ((0 : Int) + 1) = 1 := by kernel_rfl
theorem a2 : IntKind.i64.wrap ((1 : Int) + 1) = 2 := by kernel_rfl
theorem a3 : IntKind.i64.wrap ((2 : Int) + 1) = 3 := by kernel_rfl
end Go.Abs
/- A text's bytes in a set of letters. -/
namespace Go.Abs
set_option autoImplicit false

theorem get!_list (l : List UInt8) (i : Nat) : ((⟨l.toArray⟩ : ByteArray).get! i) = l.getD i 0 := by
  show l.toArray[i]! = _
  simp [List.getD_eq_getElem?_getD, getElem!_def]
  cases l[i]? <;> rfl

end Go.Abs
/- EndsInNumber: the program's and the reference's. -/
namespace Go.Abs
set_option autoImplicit false

theorem c_strings_HasPrefix_val (y p : List UInt8) (hy : y.length ≤ 1073741824) (hp : p.length ≤ 1073741824) : c_strings_HasPrefix (y, p) = some (decide (p.length ≤ y.length) && (y.take p.length == p)) := by
  rw [c_strings_HasPrefix_eq, p_strings_HasPrefix_0_eq, c_istringslite_HasPrefix_eq, p_istringslite_HasPrefix_0_eq]
  by_cases h : p.length ≤ y.length
  · rw [show decide (((y.length : Nat) : Int) ≥ ((p.length : Nat) : Int)) = true from by simp; omega, cond_true]
    have hc : cutOk none (some ((p.length : Nat) : Int)) y.length = true := by simp [cutOk]; omega
    rw [hc, cond_true, decide_eq_true h, Bool.true_and]
    have : cutList none (some ((p.length : Nat) : Int)) y = y.take p.length := by simp [cutList]
    rw [this]; rfl
  · rw [show decide (((y.length : Nat) : Int) ≥ ((p.length : Nat) : Int)) = false from by simp; omega, cond_false, decide_eq_false h]; rfl

end Go.Abs
