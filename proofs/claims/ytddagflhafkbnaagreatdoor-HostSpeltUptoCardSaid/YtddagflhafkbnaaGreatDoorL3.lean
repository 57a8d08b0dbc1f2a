/- Part L3 of the proof: see the last text of the claim. No condition of its own. -/
import Derived.Test.YtddagflhafkbnaaGreatDoorL2
import Derived.Test.YtddagflhafkbnaaGreatDoorQ2
import Derived.Test.YtddagflhafkbnaaGreatDoorQ3
set_option linter.all false
namespace Go.Abs
set_option autoImplicit false

def bat (s : List UInt8) (k : Nat) : Int := byteI (s.getD k 0)
theorem bat_lt (s : List UInt8) (k : Nat) : 0 ≤ bat s k ∧ bat s k ≤ 255 := byteI_lt _

def c2 (s : List UInt8) (k : Nat) : Int := bat s k % 32 * 64 + bat s (k + 1) % 64
def c3 (s : List UInt8) (k : Nat) : Int := bat s k % 16 * 4096 + bat s (k + 1) % 64 * 64 + bat s (k + 2) % 64
def c4 (s : List UInt8) (k : Nat) : Int := bat s k % 8 * 262144 + bat s (k + 1) % 64 * 4096 + bat s (k + 2) % 64 * 64 + bat s (k + 3) % 64
def scal (r : Int) : Bool := decide (0 ≤ r ∧ r ≤ 1114111 ∧ ¬ (55296 ≤ r ∧ r ≤ 57343))
def ut1 (s : List UInt8) (k : Nat) : Bool := decide (bat s k < 128)
def ut2 (s : List UInt8) (k : Nat) : Bool := decide (k + 1 < s.length ∧ bat s k / 32 = 6 ∧ bat s (k + 1) / 64 = 2 ∧ 128 ≤ c2 s k)
def ut3 (s : List UInt8) (k : Nat) : Bool := decide (k + 2 < s.length ∧ bat s k / 16 = 14 ∧ bat s (k + 1) / 64 = 2 ∧ bat s (k + 2) / 64 = 2 ∧ 2048 ≤ c3 s k) && scal (c3 s k)
def ut4 (s : List UInt8) (k : Nat) : Bool := decide (k + 3 < s.length ∧ bat s k / 8 = 30 ∧ bat s (k + 1) / 64 = 2 ∧ bat s (k + 2) / 64 = 2 ∧ bat s (k + 3) / 64 = 2 ∧ 65536 ≤ c4 s k) && scal (c4 s k)
def runeAt (s : List UInt8) (k : Nat) : Int × (Int × Bool) :=
  if ut1 s k = true then (bat s k, 1, false) else if ut2 s k = true then (c2 s k, 2, false) else if ut3 s k = true then (c3 s k, 3, false) else if ut4 s k = true then (c4 s k, 4, false) else (65533, 1, true)

theorem chainN (a0 a1 a2 a3 C2 C3 C4 k n : Nat) (s3 s4 : Bool) (b0 b1 b2 b3 D2 D3 D4 : Int) (hb0 : b0 = (a0 : Int)) (hb1 : b1 = (a1 : Int)) (hb2 : b2 = (a2 : Int)) (hb3 : b3 = (a3 : Int)) (hD2 : D2 = (C2 : Int)) (hD3 : D3 = (C3 : Int)) (hD4 : D4 = (C4 : Int)) :
    Prod.map (fun x : Nat => ((x : Nat) : Int)) (fun x : Nat => ((x : Nat) : Int)) (if a0 < 128 then (a0, 1) else if a0 / 32 = 6 ∧ k + 1 < n ∧ a1 / 64 = 2 then (if C2 ≥ 128 then (C2, 2) else (65533, 1))
      else if (a0 / 16 = 14 ∧ k + 1 < n ∧ a1 / 64 = 2) ∧ k + 2 < n ∧ a2 / 64 = 2 then (if C3 ≥ 2048 ∧ s3 = true then (C3, 3) else (65533, 1))
      else if ((a0 / 8 = 30 ∧ k + 1 < n ∧ a1 / 64 = 2) ∧ k + 2 < n ∧ a2 / 64 = 2) ∧ k + 3 < n ∧ a3 / 64 = 2 then (if C4 ≥ 65536 ∧ s4 = true then (C4, 4) else (65533, 1)) else (65533, 1)) =
    (fun y : Int × (Int × Bool) => (y.1, y.2.1)) (if b0 < 128 then (b0, 1, false) else if k + 1 < n ∧ b0 / 32 = 6 ∧ b1 / 64 = 2 ∧ 128 ≤ D2 then (D2, 2, false)
      else if (k + 2 < n ∧ b0 / 16 = 14 ∧ b1 / 64 = 2 ∧ b2 / 64 = 2 ∧ 2048 ≤ D3) ∧ s3 = true then (D3, 3, false)
      else if (k + 3 < n ∧ b0 / 8 = 30 ∧ b1 / 64 = 2 ∧ b2 / 64 = 2 ∧ b3 / 64 = 2 ∧ 65536 ≤ D4) ∧ s4 = true then (D4, 4, false) else (65533, 1, true)) := by
  subst hb0 hb1 hb2 hb3 hD2 hD3 hD4
  by_cases q1 : a0 < 128
  · rw [if_pos q1, if_pos (show (a0 : Int) < 128 by omega)]; rfl
  rw [if_neg q1, if_neg (show ¬ ((a0 : Int) < 128) by omega)]
  by_cases q2 : a0 / 32 = 6 ∧ k + 1 < n ∧ a1 / 64 = 2
  · rw [if_pos q2]
    by_cases q : C2 ≥ 128
    · rw [if_pos q, if_pos (show k + 1 < n ∧ (a0 : Int) / 32 = 6 ∧ (a1 : Int) / 64 = 2 ∧ 128 ≤ (C2 : Int) by omega)]; rfl
    · rw [if_neg q, if_neg (show ¬ (k + 1 < n ∧ (a0 : Int) / 32 = 6 ∧ (a1 : Int) / 64 = 2 ∧ 128 ≤ (C2 : Int)) by omega),
        if_neg (show ¬ ((k + 2 < n ∧ (a0 : Int) / 16 = 14 ∧ (a1 : Int) / 64 = 2 ∧ (a2 : Int) / 64 = 2 ∧ 2048 ≤ (C3 : Int)) ∧ s3 = true) from fun h => by omega),
        if_neg (show ¬ ((k + 3 < n ∧ (a0 : Int) / 8 = 30 ∧ (a1 : Int) / 64 = 2 ∧ (a2 : Int) / 64 = 2 ∧ (a3 : Int) / 64 = 2 ∧ 65536 ≤ (C4 : Int)) ∧ s4 = true) from fun h => by omega)]
      rfl
  rw [if_neg q2, if_neg (show ¬ (k + 1 < n ∧ (a0 : Int) / 32 = 6 ∧ (a1 : Int) / 64 = 2 ∧ 128 ≤ (C2 : Int)) by omega)]
  by_cases q3 : (a0 / 16 = 14 ∧ k + 1 < n ∧ a1 / 64 = 2) ∧ k + 2 < n ∧ a2 / 64 = 2
  · rw [if_pos q3]
    by_cases q : C3 ≥ 2048 ∧ s3 = true
    · rw [if_pos q, if_pos (show (k + 2 < n ∧ (a0 : Int) / 16 = 14 ∧ (a1 : Int) / 64 = 2 ∧ (a2 : Int) / 64 = 2 ∧ 2048 ≤ (C3 : Int)) ∧ s3 = true from ⟨by omega, q.2⟩)]; rfl
    · rw [if_neg q, if_neg (show ¬ ((k + 2 < n ∧ (a0 : Int) / 16 = 14 ∧ (a1 : Int) / 64 = 2 ∧ (a2 : Int) / 64 = 2 ∧ 2048 ≤ (C3 : Int)) ∧ s3 = true) from fun h => q ⟨by omega, h.2⟩),
        if_neg (show ¬ ((k + 3 < n ∧ (a0 : Int) / 8 = 30 ∧ (a1 : Int) / 64 = 2 ∧ (a2 : Int) / 64 = 2 ∧ (a3 : Int) / 64 = 2 ∧ 65536 ≤ (C4 : Int)) ∧ s4 = true) from fun h => by omega)]
      rfl
  rw [if_neg q3, if_neg (show ¬ ((k + 2 < n ∧ (a0 : Int) / 16 = 14 ∧ (a1 : Int) / 64 = 2 ∧ (a2 : Int) / 64 = 2 ∧ 2048 ≤ (C3 : Int)) ∧ s3 = true) from fun h => by omega)]
  by_cases q4 : ((a0 / 8 = 30 ∧ k + 1 < n ∧ a1 / 64 = 2) ∧ k + 2 < n ∧ a2 / 64 = 2) ∧ k + 3 < n ∧ a3 / 64 = 2
  · rw [if_pos q4]
    by_cases q : C4 ≥ 65536 ∧ s4 = true
    · rw [if_pos q, if_pos (show (k + 3 < n ∧ (a0 : Int) / 8 = 30 ∧ (a1 : Int) / 64 = 2 ∧ (a2 : Int) / 64 = 2 ∧ (a3 : Int) / 64 = 2 ∧ 65536 ≤ (C4 : Int)) ∧ s4 = true from ⟨by omega, q.2⟩)]; rfl
    · rw [if_neg q, if_neg (show ¬ ((k + 3 < n ∧ (a0 : Int) / 8 = 30 ∧ (a1 : Int) / 64 = 2 ∧ (a2 : Int) / 64 = 2 ∧ (a3 : Int) / 64 = 2 ∧ 65536 ≤ (C4 : Int)) ∧ s4 = true) from fun h => q ⟨by omega, h.2⟩)]
      rfl
  rw [if_neg q4, if_neg (show ¬ ((k + 3 < n ∧ (a0 : Int) / 8 = 30 ∧ (a1 : Int) / 64 = 2 ∧ (a2 : Int) / 64 = 2 ∧ (a3 : Int) / 64 = 2 ∧ 65536 ≤ (C4 : Int)) ∧ s4 = true) from fun h => by omega)]
  rfl

set_option maxRecDepth 20000 in
theorem decRune_val (s : List UInt8) (k : Nat) : (((decRune s k).1 : Nat) : Int) = (runeAt s k).1 ∧ (((decRune s k).2 : Nat) : Int) = (runeAt s k).2.1 := by
  have hsz : (⟨s.toArray⟩ : ByteArray).size = s.length := by simp [ByteArray.size]
  have hv : ∀ n : Int, Utf8.valid n = scal n := by
    intro n
    unfold Utf8.valid scal
    rw [Bool.eq_iff_iff]
    simp only [Bool.or_eq_true, Bool.and_eq_true, decide_eq_true_eq]
    omega
  have hre : Utf8.runeError = 65533 := rfl
  have e2 : c2 s k = (((s.getD k 0).toNat % 32 * 64 + (s.getD (k + 1) 0).toNat % 64 : Nat) : Int) := by unfold c2 bat byteI; omega
  have e3 : c3 s k = (((s.getD k 0).toNat % 16 * 4096 + (s.getD (k + 1) 0).toNat % 64 * 64 + (s.getD (k + 2) 0).toNat % 64 : Nat) : Int) := by unfold c3 bat byteI; omega
  have e4 : c4 s k = (((s.getD k 0).toNat % 8 * 262144 + (s.getD (k + 1) 0).toNat % 64 * 4096 + (s.getD (k + 2) 0).toNat % 64 * 64 + (s.getD (k + 3) 0).toNat % 64 : Nat) : Int) := by unfold c4 bat byteI; omega
  have h := chainN (s.getD k 0).toNat (s.getD (k + 1) 0).toNat (s.getD (k + 2) 0).toNat (s.getD (k + 3) 0).toNat ((s.getD k 0).toNat % 32 * 64 + (s.getD (k + 1) 0).toNat % 64)
    ((s.getD k 0).toNat % 16 * 4096 + (s.getD (k + 1) 0).toNat % 64 * 64 + (s.getD (k + 2) 0).toNat % 64) ((s.getD k 0).toNat % 8 * 262144 + (s.getD (k + 1) 0).toNat % 64 * 4096 + (s.getD (k + 2) 0).toNat % 64 * 64 + (s.getD (k + 3) 0).toNat % 64) k s.length (scal (c3 s k)) (scal (c4 s k)) (bat s k) (bat s (k + 1)) (bat s (k + 2)) (bat s (k + 3)) (c2 s k) (c3 s k) (c4 s k) rfl rfl rfl rfl e2 e3 e4
  have hl : decRune s k = (if (s.getD k 0).toNat < 128 then ((s.getD k 0).toNat, 1) else if (s.getD k 0).toNat / 32 = 6 ∧ k + 1 < s.length ∧ (s.getD (k + 1) 0).toNat / 64 = 2 then (if (s.getD k 0).toNat % 32 * 64 + (s.getD (k + 1) 0).toNat % 64 ≥ 128 then ((s.getD k 0).toNat % 32 * 64 + (s.getD (k + 1) 0).toNat % 64, 2) else (65533, 1))
      else if ((s.getD k 0).toNat / 16 = 14 ∧ k + 1 < s.length ∧ (s.getD (k + 1) 0).toNat / 64 = 2) ∧ k + 2 < s.length ∧ (s.getD (k + 2) 0).toNat / 64 = 2 then (if (s.getD k 0).toNat % 16 * 4096 + (s.getD (k + 1) 0).toNat % 64 * 64 + (s.getD (k + 2) 0).toNat % 64 ≥ 2048 ∧ scal (c3 s k) = true then ((s.getD k 0).toNat % 16 * 4096 + (s.getD (k + 1) 0).toNat % 64 * 64 + (s.getD (k + 2) 0).toNat % 64, 3) else (65533, 1))
      else if (((s.getD k 0).toNat / 8 = 30 ∧ k + 1 < s.length ∧ (s.getD (k + 1) 0).toNat / 64 = 2) ∧ k + 2 < s.length ∧ (s.getD (k + 2) 0).toNat / 64 = 2) ∧ k + 3 < s.length ∧ (s.getD (k + 3) 0).toNat / 64 = 2 then (if (s.getD k 0).toNat % 8 * 262144 + (s.getD (k + 1) 0).toNat % 64 * 4096 + (s.getD (k + 2) 0).toNat % 64 * 64 + (s.getD (k + 3) 0).toNat % 64 ≥ 65536 ∧ scal (c4 s k) = true then ((s.getD k 0).toNat % 8 * 262144 + (s.getD (k + 1) 0).toNat % 64 * 4096 + (s.getD (k + 2) 0).toNat % 64 * 64 + (s.getD (k + 3) 0).toNat % 64, 4) else (65533, 1)) else (65533, 1)) := by
    unfold decRune Utf8.decode
    simp only [Nat.add_zero, hsz, get!_list, hv, ← e3, ← e4, hre, Bool.and_eq_true, beq_iff_eq, decide_eq_true_eq]
  have hr2 : runeAt s k = (if bat s k < 128 then (bat s k, 1, false) else if k + 1 < s.length ∧ bat s k / 32 = 6 ∧ bat s (k + 1) / 64 = 2 ∧ 128 ≤ c2 s k then (c2 s k, 2, false)
      else if (k + 2 < s.length ∧ bat s k / 16 = 14 ∧ bat s (k + 1) / 64 = 2 ∧ bat s (k + 2) / 64 = 2 ∧ 2048 ≤ c3 s k) ∧ scal (c3 s k) = true then (c3 s k, 3, false)
      else if (k + 3 < s.length ∧ bat s k / 8 = 30 ∧ bat s (k + 1) / 64 = 2 ∧ bat s (k + 2) / 64 = 2 ∧ bat s (k + 3) / 64 = 2 ∧ 65536 ≤ c4 s k) ∧ scal (c4 s k) = true then (c4 s k, 4, false) else (65533, 1, true)) := by
    unfold runeAt ut1 ut2 ut3 ut4
    simp only [Bool.and_eq_true, decide_eq_true_eq]
  rw [← hr2, ← hl] at h
  exact ⟨congrArg Prod.fst h, congrArg Prod.snd h⟩
end Go.Abs
namespace Go.Abs
set_option autoImplicit false

theorem w32 {x : Int} (h1 : -2147483648 ≤ x) (h2 : x ≤ 2147483647) : IntKind.i32.wrap x = x := by
  change (if (true && decide (x % (4294967296 : Int) ≥ (2147483648 : Int))) = true then x % (4294967296 : Int) - (4294967296 : Int) else x % (4294967296 : Int)) = x
  by_cases h : x % (4294967296 : Int) ≥ (2147483648 : Int)
  · rw [if_pos (by simp [h])]; omega
  · rw [if_neg (by simp [h])]; omega

def bytesI (r : Int) : List Int :=
  if r < 128 then [r] else if r < 2048 then [192 + r / 64, 128 + r % 64] else if r < 65536 then [224 + r / 4096, 128 + r / 64 % 64, 128 + r % 64] else [240 + r / 262144, 128 + r / 4096 % 64, 128 + r / 64 % 64, 128 + r % 64]

theorem c_ref02_Scalar_val (r : Int) : c_ref02_Scalar r = some (scal r) := by
  rw [c_ref02_Scalar_eq, Z81_eq]
  unfold scal
  by_cases a : 0 ≤ r
  · rw [show decide (r ≥ 0) = true from decide_eq_true a, cond_true]
    by_cases b : r ≤ 1114111
    · rw [decide_eq_true b, cond_true]
      by_cases c : r < 55296
      · rw [decide_eq_true c, cond_true, decide_eq_true (by omega)]
      · rw [decide_eq_false c, cond_false]
        congr 1
        by_cases d : r > 57343
        · rw [decide_eq_true d, decide_eq_true (by omega)]
        · rw [decide_eq_false d, decide_eq_false (by omega)]
    · rw [decide_eq_false b, cond_false, decide_eq_false (by omega)]
  · rw [show decide (r ≥ 0) = false from decide_eq_false (by omega), cond_false, decide_eq_false (by omega)]

theorem c_ref02_Bytes_val (r : Int) (h0 : 0 ≤ r) (h1 : r < 2097152) : c_ref02_Bytes r = some (bytesI r) := by
  rw [c_ref02_Bytes_eq, Zb1_eq]
  unfold bytesI
  have td : ∀ d : Int, 0 < d → Int.tdiv r d = r / d := fun d _ => Int.tdiv_eq_ediv_of_nonneg h0
  have tm : ∀ x : Int, 0 ≤ x → Int.tmod x 64 = x % 64 := fun x hx => Int.tmod_eq_emod_of_nonneg hx
  by_cases a : r < 128
  · rw [decide_eq_true a, cond_true, if_pos a, w8 h0 (by omega)]
  · rw [decide_eq_false a, cond_false, if_neg a, td 64 (by omega), tm r h0, td 4096 (by omega), td 262144 (by omega)]
    rw [w32 (x := r / 64) (by omega) (by omega), w32 (x := 128 + r % 64) (by omega) (by omega), w32 (x := r / 4096) (by omega) (by omega), w32 (x := r / 262144) (by omega) (by omega), tm (r / 64) (by omega), tm (r / 4096) (by omega)]
    rw [w8 (x := 128 + r % 64) (by omega) (by omega), w32 (x := 128 + r / 64 % 64) (by omega) (by omega), w8 (x := 128 + r / 64 % 64) (by omega) (by omega), w32 (x := 128 + r / 4096 % 64) (by omega) (by omega), w8 (x := 128 + r / 4096 % 64) (by omega) (by omega)]
    by_cases b : r < 2048
    · rw [decide_eq_true b, cond_true, if_pos b, w32 (by omega) (by omega), w8 (by omega) (by omega)]
    · rw [decide_eq_false b, cond_false, if_neg b]
      by_cases c : r < 65536
      · rw [decide_eq_true c, cond_true, if_pos c, w32 (by omega) (by omega), w8 (by omega) (by omega)]
      · rw [decide_eq_false c, cond_false, if_neg c, w32 (by omega) (by omega), w8 (by omega) (by omega)]

def atB (s : List UInt8) (k : Nat) : List Int → Bool
  | [] => true
  | b :: l => decide (k < s.length ∧ bat s k = b) && atB s (k + 1) l

theorem p_at_val (s : List UInt8) (k : Nat) (bs : List Int) (hs : s.length ≤ 1073741824) (hb : bs.length ≤ 4) (hk : k + bs.length ≤ s.length) : ∀ (m i : Nat), i + m = bs.length → Zd1 s (k : Int) bs (i : Int) = some (atB s (k + i) (bs.drop i))
  | 0, i, h => by
    have : i = bs.length := by omega
    subst this
    rw [Zd1_eq, lt_nat, decide_eq_false (Nat.lt_irrefl _), cond_false, List.drop_length]; rfl
  | m + 1, i, h => by
    have hi : i < bs.length := by omega
    have hw : IntKind.i64.wrap ((k : Int) + (i : Int)) = ((k + i : Nat) : Int) := by rw [w64 (by omega) (by omega)]; omega
    have hw1 : IntKind.i64.wrap ((i : Int) + 1) = ((i + 1 : Nat) : Int) := by rw [w64 (by omega) (by omega)]; omega
    have hg : List.getD bs (Int.toNat (i : Int)) (Ty.zero (.int .u8)) = bs[i] := by
      rw [Int.toNat_natCast, List.getD_eq_getElem?_getD, List.getElem?_eq_getElem hi]; rfl
    rw [Zd1_eq, lt_nat, decide_eq_true hi, cond_true, hw, hw1, inside_nat, decide_eq_true (by omega), cond_true, inside_nat, decide_eq_true hi, cond_true, hg, Int.toNat_natCast, List.drop_eq_getElem_cons hi, atB]
    rw [show (((s.getD (k + i) 0).toNat : Nat) : Int) = bat s (k + i) from rfl]
    by_cases e : bat s (k + i) = bs[i]
    · rw [show (bat s (k + i) != bs[i]) = false from by simpa using e, cond_false, p_at_val s k bs hs hb hk m (i + 1) (by omega), decide_eq_true ⟨by omega, e⟩, Bool.true_and, Nat.add_assoc]
    · rw [show (bat s (k + i) != bs[i]) = true from by simpa using e, cond_true, decide_eq_false (fun h => e h.2), Bool.false_and]
theorem c_ref02_at_val (s : List UInt8) (k : Nat) (bs : List Int) (hs : s.length ≤ 1073741824) (hb : bs.length ≤ 4) (hk : k ≤ s.length) : c_ref02_at (s, (k : Int), bs) = some (atB s k bs) := by
  rw [c_ref02_at_eq, Zc1_eq]
  simp only
  rw [w64 (by omega) (by omega)]
  by_cases h : k + bs.length ≤ s.length
  · rw [show decide ((s.length : Int) - (k : Int) < (bs.length : Int)) = false from decide_eq_false (by omega), cond_false]
    exact p_at_val s k bs hs hb h bs.length 0 (by omega)
  · rw [show decide ((s.length : Int) - (k : Int) < (bs.length : Int)) = true from decide_eq_true (by omega), cond_true]
    have : ∀ (l : List Int) (k : Nat), s.length < k + l.length → k ≤ s.length → atB s k l = false := by
      intro l
      induction l with
      | nil => intro k h1 h2; simp at h1; omega
      | cons b l ih =>
        intro k h1 h2
        rw [atB]
        by_cases c : k < s.length
        · rw [ih (k + 1) (by simp only [List.length_cons] at h1; omega) (by omega), Bool.and_false]
        · rw [decide_eq_false (fun h => c h.1), Bool.false_and]
    rw [this bs k (by omega) hk]

theorem and_mask {x : Int} (m : Nat) (h0 : 0 ≤ x) (h1 : x ≤ 255) (hm : m ≤ 8) : bits Go.BinOp.and IntKind.u8 x ((2 ^ m - 1 : Nat) : Int) = x % ((2 ^ m : Nat) : Int) := by
  obtain ⟨n, rfl⟩ := Int.eq_ofNat_of_zero_le h0
  have hp : 2 ^ m ≤ 256 := by
    have := Nat.pow_le_pow_right (n := 2) (by omega) hm
    simpa using this
  have hp0 : 0 < 2 ^ m := Nat.pow_pos (by omega)
  have e1 : (BitVec.ofInt 8 (n : Int)).toNat = n := by
    rw [BitVec.toNat_ofInt]; omega
  have e2 : (BitVec.ofInt 8 (((2 ^ m - 1 : Nat) : Nat) : Int)).toNat = 2 ^ m - 1 := by
    rw [BitVec.toNat_ofInt]; omega
  have e : (BitVec.ofInt 8 (n : Int) &&& BitVec.ofInt 8 (((2 ^ m - 1 : Nat) : Nat) : Int)).toNat = n % 2 ^ m := by
    rw [BitVec.toNat_and, e1, e2, Nat.and_two_pow_sub_one_eq_mod]
  show IntKind.u8.wrap (((BitVec.ofInt 8 (n : Int) &&& BitVec.ofInt 8 (((2 ^ m - 1 : Nat) : Nat) : Int)).toNat : Nat) : Int) = _
  have hlt : n % 2 ^ m < 2 ^ m := Nat.mod_lt _ hp0
  rw [e, w8 (by omega) (by omega)]
  exact Int.natCast_emod _ _
theorem m127 {x : Int} (h : 0 ≤ x ∧ x ≤ 255) : bits Go.BinOp.and IntKind.u8 x 127 = x % 128 := and_mask 7 h.1 h.2 (by omega)
theorem m31 {x : Int} (h : 0 ≤ x ∧ x ≤ 255) : bits Go.BinOp.and IntKind.u8 x 31 = x % 32 := and_mask 5 h.1 h.2 (by omega)
theorem m15 {x : Int} (h : 0 ≤ x ∧ x ≤ 255) : bits Go.BinOp.and IntKind.u8 x 15 = x % 16 := and_mask 4 h.1 h.2 (by omega)
theorem m7 {x : Int} (h : 0 ≤ x ∧ x ≤ 255) : bits Go.BinOp.and IntKind.u8 x 7 = x % 8 := and_mask 3 h.1 h.2 (by omega)
theorem m63 {x : Int} (h : 0 ≤ x ∧ x ≤ 255) : bits Go.BinOp.and IntKind.u8 x 63 = x % 64 := and_mask 6 h.1 h.2 (by omega)

theorem guess_step (s : List UInt8) (k w i : Nat) (r : Int) (hs : s.length ≤ 1073741824) (hi : i < w) (hw4 : w ≤ 4) (hk : k + w ≤ s.length) (h0 : 0 ≤ r) (h1 : r < 32768) :
    Za1 s (k : Int) (w : Int) r (i : Int) = Za1 s (k : Int) (w : Int) (r * 64 + bat s (k + i) % 64) ((i + 1 : Nat) : Int) := by
  have hb := bat_lt s (k + i)
  have hw : IntKind.i64.wrap ((k : Int) + (i : Int)) = ((k + i : Nat) : Int) := by rw [w64 (by omega) (by omega)]; omega
  have hw1 : IntKind.i64.wrap ((i : Int) + 1) = ((i + 1 : Nat) : Int) := by rw [w64 (by omega) (by omega)]; omega
  rw [Za1_eq, lt_nat, decide_eq_true hi, cond_true, hw, hw1, inside_nat, decide_eq_true (by omega), cond_true, Int.toNat_natCast]
  rw [show (((s.getD (k + i) 0).toNat : Nat) : Int) = bat s (k + i) from rfl, m63 hb, w32 (x := bat s (k + i) % 64) (by omega) (by omega), w32 (x := r * 64) (by omega) (by omega), w32 (by omega) (by omega)]
theorem guess_end (s : List UInt8) (k w : Nat) (r : Int) : Za1 s (k : Int) (w : Int) r (w : Int) = some r := by
  rw [Za1_eq, lt_nat, decide_eq_false (Nat.lt_irrefl _), cond_false]

def guess (s : List UInt8) (k w : Nat) : Int := match w with
  | 1 => bat s k % 128
  | 2 => c2 s k
  | 3 => c3 s k
  | _ => c4 s k
theorem c_ref02_guess_val (s : List UInt8) (k w : Nat) (hs : s.length ≤ 1073741824) (h1 : 1 ≤ w) (h4 : w ≤ 4) (hk : k + w ≤ s.length) : c_ref02_guess (s, (k : Int), (w : Int)) = some (guess s k w) := by
  have hb := bat_lt s k
  rw [c_ref02_guess_eq, Z91_eq]
  simp only
  rw [inside_nat, decide_eq_true (by omega), cond_true, show inside (w : Int) [(0 : Int), 127, 31, 15, 7].length = true from by rw [inside_nat]; exact decide_eq_true (by simp; omega), cond_true, Int.toNat_natCast, Int.toNat_natCast]
  rw [show (((s.getD k 0).toNat : Nat) : Int) = bat s k from rfl]
  have e : w = 1 ∨ w = 2 ∨ w = 3 ∨ w = 4 := by omega
  rcases e with rfl | rfl | rfl | rfl
  · rw [show List.getD [(0 : Int), 127, 31, 15, 7] 1 (Ty.zero (.int .u8)) = 127 from rfl, m127 hb, w32 (by omega) (by omega)]
    exact guess_end s k 1 _
  · rw [show List.getD [(0 : Int), 127, 31, 15, 7] 2 (Ty.zero (.int .u8)) = 31 from rfl, m31 hb, w32 (by omega) (by omega)]
    have := guess_step s k 2 1 (bat s k % 32) hs (by omega) (by omega) hk (by omega) (by omega)
    rw [show ((1 : Nat) : Int) = 1 from rfl] at this
    rw [this]
    exact guess_end s k 2 _
  · rw [show List.getD [(0 : Int), 127, 31, 15, 7] 3 (Ty.zero (.int .u8)) = 15 from rfl, m15 hb, w32 (by omega) (by omega)]
    have := guess_step s k 3 1 (bat s k % 16) hs (by omega) (by omega) hk (by omega) (by omega)
    have b1 := bat_lt s (k + 1)
    rw [show ((1 : Nat) : Int) = 1 from rfl] at this
    rw [this, guess_step s k 3 2 _ hs (by omega) (by omega) hk (by omega) (by omega)]
    refine (guess_end s k 3 _).trans ?_
    show some _ = some (c3 s k)
    unfold c3; congr 1; omega
  · rw [show List.getD [(0 : Int), 127, 31, 15, 7] 4 (Ty.zero (.int .u8)) = 7 from rfl, m7 hb, w32 (by omega) (by omega)]
    have := guess_step s k 4 1 (bat s k % 8) hs (by omega) (by omega) hk (by omega) (by omega)
    have b1 := bat_lt s (k + 1)
    have b2 := bat_lt s (k + 2)
    rw [show ((1 : Nat) : Int) = 1 from rfl] at this
    rw [this, guess_step s k 4 2 _ hs (by omega) (by omega) hk (by omega) (by omega), guess_step s k 4 3 _ hs (by omega) (by omega) hk (by omega) (by omega)]
    refine (guess_end s k 4 _).trans ?_
    show some _ = some (c4 s k)
    unfold c4; congr 1; omega
end Go.Abs
namespace Go.Abs
set_option autoImplicit false

def tryW (s : List UInt8) (k w : Nat) : Bool := scal (guess s k w) && (decide ((bytesI (guess s k w)).length = w) && atB s k (bytesI (guess s k w)))

theorem guess_range (s : List UInt8) (k w : Nat) : 0 ≤ guess s k w ∧ guess s k w < 2097152 := by
  have h0 := bat_lt s k
  have h1 := bat_lt s (k + 1)
  have h2 := bat_lt s (k + 2)
  have h3 := bat_lt s (k + 3)
  unfold guess c2 c3 c4
  split <;> omega

theorem bytesI_len (r : Int) : (bytesI r).length = if r < 128 then 1 else if r < 2048 then 2 else if r < 65536 then 3 else 4 := by
  unfold bytesI
  split
  · rfl
  · split
    · rfl
    · split <;> rfl

theorem One_step (s : List UInt8) (k w : Nat) (b : D181) (hs : s.length ≤ 1073741824) (h1 : 1 ≤ w) (h4 : w ≤ 4) (hk : k + w ≤ s.length) :
    Z71 s (k : Int) false (w : Int) b = if tryW s k w = true then some ((k : Int), ((w : Int), (guess s k w, false))) else Z71 s (k : Int) false ((w + 1 : Nat) : Int) b := by
  have hw : IntKind.i64.wrap ((k : Int) + (w : Int)) = ((k + w : Nat) : Int) := by rw [w64 (by omega) (by omega)]; omega
  have hw1 : IntKind.i64.wrap ((w : Int) + 1) = ((w + 1 : Nat) : Int) := by rw [w64 (by omega) (by omega)]; omega
  have hg := guess_range s k w
  rw [Z71_eq, show decide ((w : Int) ≤ 4) = true from decide_eq_true (by omega), cond_true, hw, show decide (((k + w : Nat) : Int) ≤ (s.length : Int)) = true from decide_eq_true (by omega), cond_true, hw1]
  rw [c_ref02_guess_val s k w hs h1 h4 hk, Option.bind_some, c_ref02_Scalar_val, Option.bind_some, c_ref02_Bytes_val _ hg.1 hg.2, Option.bind_some]
  unfold tryW
  have hbl := bytesI_len (guess s k w)
  have hb4 : (bytesI (guess s k w)).length ≤ 4 := by rw [hbl]; split <;> (try split) <;> (try split) <;> omega
  cases scal (guess s k w) with
  | false => simp only [cond_false, Bool.false_and, Bool.false_eq_true, if_false]
  | true =>
    rw [cond_true, Bool.true_and]
    by_cases hl : (bytesI (guess s k w)).length = w
    · rw [show (((bytesI (guess s k w)).length : Int) == (w : Int)) = true from beq_iff_eq.2 (by omega), cond_true, Option.bind_some, c_ref02_at_val s k _ hs hb4 (by omega), Option.bind_some, decide_eq_true hl, Bool.true_and]
      cases atB s k (bytesI (guess s k w)) <;> rfl
    · rw [show (((bytesI (guess s k w)).length : Int) == (w : Int)) = false from beq_eq_false_iff_ne.2 (by omega), cond_false, decide_eq_false hl, Bool.false_and]; rfl
theorem One_over (s : List UInt8) (k w : Nat) (b : D181) (hs : s.length ≤ 1073741824) (hk1 : k ≤ s.length) (hk : s.length < k + w ∨ 4 < w) (h5 : w ≤ 5) :
    Z71 s (k : Int) false (w : Int) b = some ((k : Int), (1, (65533, true))) := by
  have hw : IntKind.i64.wrap ((k : Int) + (w : Int)) = ((k + w : Nat) : Int) := by rw [w64 (by omega) (by omega)]; omega
  rw [Z71_eq, hw]
  by_cases h : (w : Int) ≤ 4
  · rw [decide_eq_true h, cond_true, show decide (((k + w : Nat) : Int) ≤ (s.length : Int)) = false from decide_eq_false (by omega), cond_false]
  · rw [decide_eq_false h, cond_false]

theorem tryW1 (s : List UInt8) (k : Nat) (hk : k + 1 ≤ s.length) : tryW s k 1 = ut1 s k := by
  have h0 := bat_lt s k
  unfold tryW ut1
  have hg : guess s k 1 = bat s k % 128 := rfl
  have hb : bytesI (bat s k % 128) = [bat s k % 128] := by unfold bytesI; rw [if_pos (by omega)]
  rw [hg, hb, show scal (bat s k % 128) = true from by unfold scal; exact decide_eq_true (by omega), Bool.true_and]
  rw [show decide ([bat s k % 128].length = 1) = true from rfl, Bool.true_and, atB, atB, Bool.and_true]
  by_cases c : bat s k < 128
  · rw [decide_eq_true c, decide_eq_true ⟨by omega, by omega⟩]
  · rw [decide_eq_false c, decide_eq_false (fun h => c (by omega))]
theorem tryW2 (s : List UInt8) (k : Nat) (hk : k + 2 ≤ s.length) : tryW s k 2 = ut2 s k := by
  have h0 := bat_lt s k
  have h1 := bat_lt s (k + 1)
  unfold tryW ut2
  have hg : guess s k 2 = c2 s k := rfl
  have hc : 0 ≤ c2 s k ∧ c2 s k < 2048 := by unfold c2; omega
  rw [hg, show scal (c2 s k) = true from by unfold scal; exact decide_eq_true (by omega), Bool.true_and, bytesI_len]
  by_cases c : c2 s k < 128
  · rw [if_pos c, show decide ((1 : Nat) = 2) = false from rfl, Bool.false_and, decide_eq_false (by omega)]
  · rw [if_neg c, if_pos hc.2, show decide ((2 : Nat) = 2) = true from rfl, Bool.true_and]
    have hb : bytesI (c2 s k) = [192 + c2 s k / 64, 128 + c2 s k % 64] := by unfold bytesI; rw [if_neg c, if_pos hc.2]
    rw [hb, atB, atB, atB, Bool.and_true, Bool.eq_iff_iff]
    simp only [Bool.and_eq_true, decide_eq_true_eq]
    have e : c2 s k = bat s k % 32 * 64 + bat s (k + 1) % 64 := rfl
    omega
theorem tryW3 (s : List UInt8) (k : Nat) (hk : k + 3 ≤ s.length) : tryW s k 3 = ut3 s k := by
  have h0 := bat_lt s k
  have h1 := bat_lt s (k + 1)
  have h2 := bat_lt s (k + 2)
  unfold tryW ut3
  have hg : guess s k 3 = c3 s k := rfl
  have hc : 0 ≤ c3 s k ∧ c3 s k < 65536 := by unfold c3; omega
  rw [hg, bytesI_len]
  cases scal (c3 s k) with
  | false => rw [Bool.false_and, Bool.and_false]
  | true =>
    rw [Bool.true_and, Bool.and_true]
    by_cases c : c3 s k < 128
    · rw [if_pos c, show decide ((1 : Nat) = 3) = false from rfl, Bool.false_and, decide_eq_false (by omega)]
    · rw [if_neg c]
      by_cases d : c3 s k < 2048
      · rw [if_pos d, show decide ((2 : Nat) = 3) = false from rfl, Bool.false_and, decide_eq_false (by omega)]
      · rw [if_neg d, if_pos hc.2, show decide ((3 : Nat) = 3) = true from rfl, Bool.true_and]
        have hb : bytesI (c3 s k) = [224 + c3 s k / 4096, 128 + c3 s k / 64 % 64, 128 + c3 s k % 64] := by unfold bytesI; rw [if_neg c, if_neg d, if_pos hc.2]
        rw [hb, atB, atB, atB, atB, Bool.and_true, Bool.eq_iff_iff]
        simp only [Bool.and_eq_true, decide_eq_true_eq]
        have e : c3 s k = bat s k % 16 * 4096 + bat s (k + 1) % 64 * 64 + bat s (k + 2) % 64 := rfl
        rw [show k + 1 + 1 = k + 2 from rfl]
        omega
theorem tryW4 (s : List UInt8) (k : Nat) (hk : k + 4 ≤ s.length) : tryW s k 4 = ut4 s k := by
  have h0 := bat_lt s k
  have h1 := bat_lt s (k + 1)
  have h2 := bat_lt s (k + 2)
  have h3 := bat_lt s (k + 3)
  unfold tryW ut4
  have hg : guess s k 4 = c4 s k := rfl
  have hc : 0 ≤ c4 s k ∧ c4 s k < 2097152 := by unfold c4; omega
  rw [hg, bytesI_len]
  cases scal (c4 s k) with
  | false => rw [Bool.false_and, Bool.and_false]
  | true =>
    rw [Bool.true_and, Bool.and_true]
    by_cases d : c4 s k < 65536
    · have : decide ((if c4 s k < 128 then 1 else if c4 s k < 2048 then 2 else if c4 s k < 65536 then 3 else 4) = 4) = false := by
        apply decide_eq_false
        split
        · omega
        · split
          · omega
          · first | omega | (rw [if_pos d]; omega)
      rw [this, Bool.false_and, decide_eq_false (by omega)]
    · rw [if_neg (by omega), if_neg (by omega), if_neg d, show decide ((4 : Nat) = 4) = true from rfl, Bool.true_and]
      have hb : bytesI (c4 s k) = [240 + c4 s k / 262144, 128 + c4 s k / 4096 % 64, 128 + c4 s k / 64 % 64, 128 + c4 s k % 64] := by unfold bytesI; rw [if_neg (by omega), if_neg (by omega), if_neg d]
      rw [hb, atB, atB, atB, atB, atB, Bool.and_true, Bool.eq_iff_iff]
      simp only [Bool.and_eq_true, decide_eq_true_eq]
      have e : c4 s k = bat s k % 8 * 262144 + bat s (k + 1) % 64 * 4096 + bat s (k + 2) % 64 * 64 + bat s (k + 3) % 64 := rfl
      rw [show k + 1 + 1 + 1 = k + 3 from rfl, show k + 1 + 1 = k + 2 from rfl]
      omega

theorem c_ref02_One_val (s : List UInt8) (k : Nat) (hs : s.length ≤ 1073741824) (hk : k < s.length) : c_ref02_One (s, (k : Int), false) = some ((k : Int), ((runeAt s k).2.1, ((runeAt s k).1, (runeAt s k).2.2))) := by
  rw [c_ref02_One_eq, Z61_eq]
  simp only
  generalize ((Ty.zero (.int .i64)), ((Ty.zero (.int .i64)), ((Ty.zero (.int .i32)), (Ty.zero .bool)))) = b
  have s1 := One_step s k 1 b hs (by omega) (by omega) (by omega)
  rw [show ((1 : Nat) : Int) = 1 from rfl] at s1
  rw [s1, tryW1 s k (by omega)]
  unfold runeAt
  by_cases q1 : ut1 s k = true
  · rw [if_pos q1, if_pos q1]
    have : guess s k 1 = bat s k := by
      have h0 := bat_lt s k
      have := of_decide_eq_true q1
      show bat s k % 128 = _
      omega
    rw [this]
  rw [if_neg q1, if_neg q1]
  by_cases l2 : k + 2 ≤ s.length
  · rw [One_step s k 2 b hs (by omega) (by omega) l2, tryW2 s k l2]
    by_cases q2 : ut2 s k = true
    · rw [if_pos q2, if_pos q2]; rfl
    rw [if_neg q2, if_neg q2]
    by_cases l3 : k + 3 ≤ s.length
    · rw [One_step s k 3 b hs (by omega) (by omega) l3, tryW3 s k l3]
      by_cases q3 : ut3 s k = true
      · rw [if_pos q3, if_pos q3]; rfl
      rw [if_neg q3, if_neg q3]
      by_cases l4 : k + 4 ≤ s.length
      · rw [One_step s k 4 b hs (by omega) (by omega) l4, tryW4 s k l4]
        by_cases q4 : ut4 s k = true
        · rw [if_pos q4, if_pos q4]; rfl
        rw [if_neg q4, if_neg q4, One_over s k 5 b hs (by omega) (.inr (by omega)) (by omega)]
      · have q4 : ¬ ut4 s k = true := by unfold ut4; rw [decide_eq_false (by omega), Bool.false_and]; simp
        rw [if_neg q4, One_over s k 4 b hs (by omega) (.inl (by omega)) (by omega)]
    · have q3 : ¬ ut3 s k = true := by unfold ut3; rw [decide_eq_false (by omega), Bool.false_and]; simp
      have q4 : ¬ ut4 s k = true := by unfold ut4; rw [decide_eq_false (by omega), Bool.false_and]; simp
      rw [if_neg q3, if_neg q4, One_over s k 3 b hs (by omega) (.inl (by omega)) (by omega)]
  · have q2 : ¬ ut2 s k = true := by unfold ut2; rw [decide_eq_false (by omega)]; simp
    have q3 : ¬ ut3 s k = true := by unfold ut3; rw [decide_eq_false (by omega), Bool.false_and]; simp
    have q4 : ¬ ut4 s k = true := by unfold ut4; rw [decide_eq_false (by omega), Bool.false_and]; simp
    rw [if_neg q2, if_neg q3, if_neg q4, One_over s k 2 b hs (by omega) (.inl (by omega)) (by omega)]
end Go.Abs
namespace Go.Abs
set_option autoImplicit false

theorem runeAt_width (s : List UInt8) (k : Nat) (hk : k < s.length) : 1 ≤ (runeAt s k).2.1 ∧ (runeAt s k).2.1 ≤ 4 ∧ (k : Int) + (runeAt s k).2.1 ≤ s.length := by
  unfold runeAt
  by_cases q1 : ut1 s k = true
  · rw [if_pos q1]; simp only; omega
  rw [if_neg q1]
  by_cases q2 : ut2 s k = true
  · rw [if_pos q2]; have := of_decide_eq_true q2; simp only; omega
  rw [if_neg q2]
  by_cases q3 : ut3 s k = true
  · rw [if_pos q3]
    unfold ut3 at q3
    rw [Bool.and_eq_true] at q3
    have := of_decide_eq_true q3.1; simp only; omega
  rw [if_neg q3]
  by_cases q4 : ut4 s k = true
  · rw [if_pos q4]
    unfold ut4 at q4
    rw [Bool.and_eq_true] at q4
    have := of_decide_eq_true q4.1; simp only; omega
  rw [if_neg q4]; simp only; omega

def wd (s : List UInt8) (k : Nat) : Nat := (runeAt s k).2.1.toNat
theorem wd_bound (s : List UInt8) (k : Nat) (hk : k < s.length) : 1 ≤ wd s k ∧ wd s k ≤ 4 ∧ k + wd s k ≤ s.length ∧ ((wd s k : Nat) : Int) = (runeAt s k).2.1 := by
  have := runeAt_width s k hk
  unfold wd; omega
theorem decRune_wd (s : List UInt8) (k : Nat) : (decRune s k).2 = wd s k := by
  have := (decRune_val s k).2
  unfold wd; omega
theorem decRune_rune (s : List UInt8) (k : Nat) : (((decRune s k).1 : Nat) : Int) = (runeAt s k).1 := (decRune_val s k).1

def pcs (s : List UInt8) : Nat → Nat → List (Nat × (Int × (Int × Bool)))
  | 0, _ => []
  | n + 1, k => if k < s.length then (k, runeAt s k) :: pcs s n (k + wd s k) else []
def piecesOf (s : List UInt8) : List (Nat × (Int × (Int × Bool))) := pcs s s.length 0
def toD (x : Nat × (Int × (Int × Bool))) : D181 := ((x.1 : Int), (x.2.2.1, (x.2.1, x.2.2.2)))
def scalarsOf (s : List UInt8) : List Int := (piecesOf s).map (·.2.1)
def firstBad : List (Nat × (Int × (Int × Bool))) → Option Nat
  | [] => none
  | x :: l => if x.2.2.2 = true then some x.1 else firstBad l
def validOf (s : List UInt8) : Bool × Int := match firstBad (piecesOf s) with
  | none => (true, 0)
  | some k => (false, (k : Int))

theorem pcs_len (s : List UInt8) : ∀ (n k : Nat), (pcs s n k).length ≤ n
  | 0, _ => by simp [pcs]
  | n + 1, k => by
    unfold pcs
    split
    · simp only [List.length_cons]; have := pcs_len s n (k + wd s k); omega
    · simp

theorem Pieces_go (s : List UInt8) (hs : s.length ≤ 1073741824) : ∀ (n k : Nat) (r : List D181), s.length ≤ k + n → k ≤ s.length → r.length + n ≤ 1073741824 → Z51 s (k : Int) r = some (r ++ (pcs s n k).map toD)
  | 0, k, r, hn, hk, hr => by
    rw [Z51_eq, lt_nat, decide_eq_false (by omega), cond_false, pcs]; simp
  | n + 1, k, r, hn, hk, hr => by
    rw [Z51_eq, lt_nat]
    unfold pcs
    by_cases c : k < s.length
    · have hw := wd_bound s k c
      rw [decide_eq_true c, cond_true, if_pos c, c_ref02_One_val s k hs c, Option.bind_some]
      simp only
      rw [show decide (r.length + [((k : Int), ((runeAt s k).2.1, ((runeAt s k).1, (runeAt s k).2.2)))].length ≤ lim) = true from decide_eq_true (by simp [lim]; omega), cond_true]
      rw [← hw.2.2.2, w64 (by omega) (by omega), show (k : Int) + ((wd s k : Nat) : Int) = ((k + wd s k : Nat) : Int) from by omega]
      rw [Pieces_go s hs n (k + wd s k) _ (by omega) (by omega) (by simp; omega), hw.2.2.2]
      simp [toD]
    · rw [decide_eq_false c, cond_false, if_neg c]; simp
theorem c_ref02_Pieces_val (s : List UInt8) (hs : s.length ≤ 1073741824) : c_ref02_Pieces s = some ((piecesOf s).map toD) := by
  rw [c_ref02_Pieces_eq, Z41_eq]
  exact Pieces_go s hs s.length 0 [] (by omega) (by omega) (by simpa using hs)

theorem getD_map {α β : Type} (f : α → β) (l : List α) (i : Nat) (d : β) (hi : i < l.length) : List.getD (l.map f) i d = f l[i] := by
  rw [List.getD_eq_getElem?_getD, List.getElem?_map, List.getElem?_eq_getElem hi]; rfl

theorem Valid_go (s : List UInt8) (l : List (Nat × (Int × (Int × Bool)))) (hl : l.length ≤ 1073741824) : ∀ (n i : Nat), i + n = l.length → Z31 s (i : Int) (l.map toD) = some (match firstBad (l.drop i) with | none => (true, 0) | some k => (false, (k : Int)))
  | 0, i, h => by
    have : i = l.length := by omega
    subst this
    rw [Z31_eq, List.length_map, lt_nat, decide_eq_false (Nat.lt_irrefl _), cond_false, List.drop_length]; rfl
  | n + 1, i, h => by
    have hi : i < l.length := by omega
    have hw : IntKind.i64.wrap ((i : Int) + 1) = ((i + 1 : Nat) : Int) := by rw [w64 (by omega) (by omega)]; omega
    rw [Z31_eq, List.length_map, lt_nat, decide_eq_true hi, cond_true, inside_nat, decide_eq_true hi, cond_true, cond_true, hw, Int.toNat_natCast, getD_map toD l i _ hi, List.drop_eq_getElem_cons hi, firstBad]
    show (bif l[i].2.2.2 then some (false, ((l[i].1 : Nat) : Int)) else _) = _
    cases l[i].2.2.2 with
    | true => rw [cond_true, if_pos rfl]
    | false => rw [cond_false, if_neg (by simp), Valid_go s l hl n (i + 1) (by omega)]
theorem c_ref02_Valid_val (s : List UInt8) (hs : s.length ≤ 1073741824) : c_ref02_Valid s = some (validOf s) := by
  rw [c_ref02_Valid_eq, Z21_eq, c_ref02_Pieces_val s hs, Option.bind_some]
  have := pcs_len s s.length 0
  exact Valid_go s (piecesOf s) (by unfold piecesOf; omega) (piecesOf s).length 0 (by omega)

theorem scalarsOf_len (s : List UInt8) : (scalarsOf s).length ≤ s.length := by
  unfold scalarsOf piecesOf
  rw [List.length_map]
  exact pcs_len s s.length 0

def has (s : List UInt8) (c : Int) : Bool := (scalarsOf s).any fun x => x == c
theorem hasRune_go (s : List UInt8) (c : Int) : ∀ (n k : Nat), s.length ≤ k + n → k ≤ s.length → Z62 s c s k = some (((pcs s n k).map (·.2.1)).any fun x => x == c)
  | 0, k, hn, hk => by
    rw [Z62_eq, decide_eq_false (by omega), cond_false]; rfl
  | n + 1, k, hn, hk => by
    rw [Z62_eq]
    unfold pcs
    by_cases h : k < s.length
    · have hw := wd_bound s k h
      rw [decide_eq_true h, cond_true, if_pos h, decRune_rune, decRune_wd, List.map_cons, List.any_cons, hasRune_go s c n (k + wd s k) (by omega) (by omega)]
      cases ((runeAt s k).1 == c) <;> rfl
    · rw [decide_eq_false h, cond_false, if_neg h]; rfl
theorem c_host_hasRune_val (s : List UInt8) (c : Int) : c_host_hasRune (s, c) = some (has s c) := by
  rw [c_host_hasRune_eq, Z52_eq]
  exact hasRune_go s c s.length 0 (by omega) (by omega)

theorem bat_drop (s : List UInt8) (k i : Nat) : bat (s.drop k) i = bat s (k + i) := by
  unfold bat; simp [List.getD_eq_getElem?_getD]
theorem bat_drop0 (s : List UInt8) (k : Nat) : bat (s.drop k) 0 = bat s k := bat_drop s k 0
theorem bat_dropS (s : List UInt8) (k i : Nat) : bat (s.drop k) (0 + i) = bat s (k + i) := by rw [Nat.zero_add]; exact bat_drop s k i
theorem runeAt_drop (s : List UInt8) (k : Nat) (hk : k ≤ s.length) : runeAt (s.drop k) 0 = runeAt s k := by
  have e2 : c2 (s.drop k) 0 = c2 s k := by unfold c2; rw [bat_drop0, bat_dropS]
  have e3 : c3 (s.drop k) 0 = c3 s k := by unfold c3; rw [bat_drop0, bat_dropS, bat_dropS]
  have e4 : c4 (s.drop k) 0 = c4 s k := by unfold c4; rw [bat_drop0, bat_dropS, bat_dropS, bat_dropS]
  have hl : (s.drop k).length = s.length - k := List.length_drop ..
  have u1 : ut1 (s.drop k) 0 = ut1 s k := by unfold ut1; rw [bat_drop0]
  have u2 : ut2 (s.drop k) 0 = ut2 s k := by
    unfold ut2; apply decide_eq_decide.2; rw [e2, bat_drop0, bat_dropS, hl]; omega
  have u3 : ut3 (s.drop k) 0 = ut3 s k := by
    unfold ut3; rw [e3, bat_drop0, bat_dropS, bat_dropS, hl, Bool.eq_iff_iff, Bool.and_eq_true, Bool.and_eq_true, decide_eq_true_eq, decide_eq_true_eq]; exact and_congr_left fun _ => by omega
  have u4 : ut4 (s.drop k) 0 = ut4 s k := by
    unfold ut4; rw [e4, bat_drop0, bat_dropS, bat_dropS, bat_dropS, hl, Bool.eq_iff_iff, Bool.and_eq_true, Bool.and_eq_true, decide_eq_true_eq, decide_eq_true_eq]; exact and_congr_left fun _ => by omega
  unfold runeAt
  rw [u1, u2, u3, u4, e2, e3, e4, bat_drop0]

theorem c_utf_at_val (s : List UInt8) (k : Nat) (hk : k < s.length) : c_utf_at (s, (k : Int)) = some ((k : Int), ((runeAt s k).2.1, ((runeAt s k).1, (runeAt s k).2.2))) := by
  rw [c_utf_at_eq, Z42_eq]
  simp only
  rw [cut_from (by omega), cond_true, cutList_from, c_utf8_DecodeRuneInString_eq, primDecode]
  have hne : (s.drop k).isEmpty = false := by
    cases hd : s.drop k with
    | nil => have := List.drop_eq_nil_iff.1 hd; omega
    | cons => rfl
  rw [hne, cond_false, Option.bind_some]
  simp only
  rw [(decRune_val (s.drop k) 0).1, (decRune_val (s.drop k) 0).2, runeAt_drop s k (by omega)]
  have hb : (runeAt s k).2.2 = (((runeAt s k).1 == 65533) && ((runeAt s k).2.1 == 1)) := by
    unfold runeAt
    by_cases q1 : ut1 s k = true
    · rw [if_pos q1]
      have := of_decide_eq_true q1
      simp only
      rw [show (bat s k == 65533) = false from beq_eq_false_iff_ne.2 (by omega)]; rfl
    rw [if_neg q1]
    by_cases q2 : ut2 s k = true
    · rw [if_pos q2]; simp
    rw [if_neg q2]
    by_cases q3 : ut3 s k = true
    · rw [if_pos q3]; simp
    rw [if_neg q3]
    by_cases q4 : ut4 s k = true
    · rw [if_pos q4]; simp
    rw [if_neg q4]; rfl
  rw [hb]
  cases ((runeAt s k).1 == 65533) <;> rfl

theorem utfValid_go (s : List UInt8) : ∀ (n k : Nat), s.length ≤ k + n → k ≤ s.length → Zo1 s s k = some (match firstBad (pcs s n k) with | none => (true, 0) | some k => (false, (k : Int)))
  | 0, k, hn, hk => by
    rw [Zo1_eq, decide_eq_false (by omega), cond_false]; rfl
  | n + 1, k, hn, hk => by
    rw [Zo1_eq]
    unfold pcs
    by_cases h : k < s.length
    · have hw := wd_bound s k h
      rw [decide_eq_true h, cond_true, if_pos h, c_utf_at_val s k h, Option.bind_some, decRune_wd, firstBad]
      simp only
      cases hb : (runeAt s k).2.2 with
      | true => rw [cond_true, if_pos rfl]
      | false => rw [cond_false, if_neg (by simp), utfValid_go s n (k + wd s k) (by omega) (by omega)]
    · rw [decide_eq_false h, cond_false, if_neg h]; rfl
theorem c_utf_Valid_val (s : List UInt8) : c_utf_Valid s = some (validOf s) := by
  rw [c_utf_Valid_eq, Zn1_eq]
  exact utfValid_go s s.length 0 (by omega) (by omega)
end Go.Abs
namespace Go.Abs
set_option autoImplicit false

def secI (b : Int) : Int × (Int × Int) :=
  if b < 194 then (0, 0, 0) else if b ≤ 223 then (128, 191, 2) else if b = 224 then (160, 191, 3) else if b ≤ 236 then (128, 191, 3) else if b = 237 then (128, 159, 3) else if b ≤ 239 then (128, 191, 3)
  else if b = 240 then (144, 191, 4) else if b ≤ 243 then (128, 191, 4) else if b = 244 then (128, 143, 4) else (0, 0, 0)
theorem c_utf_second_val (b : Int) : c_utf_second b = some (secI b) := by
  rw [c_utf_second_eq, Zx3_eq]
  unfold secI
  have hc : (b < 194) ∨ (194 ≤ b ∧ b ≤ 223) ∨ (b = 224) ∨ (225 ≤ b ∧ b ≤ 236) ∨ (b = 237) ∨ (238 ≤ b ∧ b ≤ 239) ∨ (b = 240) ∨ (241 ≤ b ∧ b ≤ 243) ∨ (b = 244) ∨ (244 < b) := by omega
  rcases hc with h | h | h | h | h | h | h | h | h | h
  · simp only [show decide (b ≥ 194) = false from decide_eq_false (by omega), show decide (b ≥ 225) = false from decide_eq_false (by omega), show decide (b ≥ 241) = false from decide_eq_false (by omega), show decide (b ≤ 223) = true from decide_eq_true (by omega), show decide (b ≤ 239) = true from decide_eq_true (by omega), show decide (b ≤ 243) = true from decide_eq_true (by omega), show (b == 224) = false from beq_eq_false_iff_ne.2 (by omega), show (b == 237) = false from beq_eq_false_iff_ne.2 (by omega), show (b == 240) = false from beq_eq_false_iff_ne.2 (by omega), show (b == 244) = false from beq_eq_false_iff_ne.2 (by omega), cond_true, cond_false]
    rw [if_pos (show b < 194 by omega)]
  · simp only [show decide (b ≥ 194) = true from decide_eq_true (by omega), show decide (b ≥ 225) = false from decide_eq_false (by omega), show decide (b ≥ 241) = false from decide_eq_false (by omega), show decide (b ≤ 223) = true from decide_eq_true (by omega), show decide (b ≤ 239) = true from decide_eq_true (by omega), show decide (b ≤ 243) = true from decide_eq_true (by omega), show (b == 224) = false from beq_eq_false_iff_ne.2 (by omega), show (b == 237) = false from beq_eq_false_iff_ne.2 (by omega), show (b == 240) = false from beq_eq_false_iff_ne.2 (by omega), show (b == 244) = false from beq_eq_false_iff_ne.2 (by omega), cond_true, cond_false]
    rw [if_neg (show ¬ (b < 194) by omega), if_pos (show b ≤ 223 by omega)]
  · simp only [show decide (b ≥ 194) = true from decide_eq_true (by omega), show decide (b ≥ 225) = false from decide_eq_false (by omega), show decide (b ≥ 241) = false from decide_eq_false (by omega), show decide (b ≤ 223) = false from decide_eq_false (by omega), show decide (b ≤ 239) = true from decide_eq_true (by omega), show decide (b ≤ 243) = true from decide_eq_true (by omega), show (b == 224) = true from beq_iff_eq.2 (by omega), show (b == 237) = false from beq_eq_false_iff_ne.2 (by omega), show (b == 240) = false from beq_eq_false_iff_ne.2 (by omega), show (b == 244) = false from beq_eq_false_iff_ne.2 (by omega), cond_true, cond_false]
    rw [if_neg (show ¬ (b < 194) by omega), if_neg (show ¬ (b ≤ 223) by omega), if_pos (show b = 224 by omega)]
  · simp only [show decide (b ≥ 194) = true from decide_eq_true (by omega), show decide (b ≥ 225) = true from decide_eq_true (by omega), show decide (b ≥ 241) = false from decide_eq_false (by omega), show decide (b ≤ 223) = false from decide_eq_false (by omega), show decide (b ≤ 239) = true from decide_eq_true (by omega), show decide (b ≤ 243) = true from decide_eq_true (by omega), show (b == 224) = false from beq_eq_false_iff_ne.2 (by omega), show (b == 237) = false from beq_eq_false_iff_ne.2 (by omega), show (b == 240) = false from beq_eq_false_iff_ne.2 (by omega), show (b == 244) = false from beq_eq_false_iff_ne.2 (by omega), cond_true, cond_false]
    rw [if_neg (show ¬ (b < 194) by omega), if_neg (show ¬ (b ≤ 223) by omega), if_neg (show ¬ (b = 224) by omega), if_pos (show b ≤ 236 by omega)]
  · simp only [show decide (b ≥ 194) = true from decide_eq_true (by omega), show decide (b ≥ 225) = true from decide_eq_true (by omega), show decide (b ≥ 241) = false from decide_eq_false (by omega), show decide (b ≤ 223) = false from decide_eq_false (by omega), show decide (b ≤ 239) = true from decide_eq_true (by omega), show decide (b ≤ 243) = true from decide_eq_true (by omega), show (b == 224) = false from beq_eq_false_iff_ne.2 (by omega), show (b == 237) = true from beq_iff_eq.2 (by omega), show (b == 240) = false from beq_eq_false_iff_ne.2 (by omega), show (b == 244) = false from beq_eq_false_iff_ne.2 (by omega), cond_true, cond_false]
    rw [if_neg (show ¬ (b < 194) by omega), if_neg (show ¬ (b ≤ 223) by omega), if_neg (show ¬ (b = 224) by omega), if_neg (show ¬ (b ≤ 236) by omega), if_pos (show b = 237 by omega)]
  · simp only [show decide (b ≥ 194) = true from decide_eq_true (by omega), show decide (b ≥ 225) = true from decide_eq_true (by omega), show decide (b ≥ 241) = false from decide_eq_false (by omega), show decide (b ≤ 223) = false from decide_eq_false (by omega), show decide (b ≤ 239) = true from decide_eq_true (by omega), show decide (b ≤ 243) = true from decide_eq_true (by omega), show (b == 224) = false from beq_eq_false_iff_ne.2 (by omega), show (b == 237) = false from beq_eq_false_iff_ne.2 (by omega), show (b == 240) = false from beq_eq_false_iff_ne.2 (by omega), show (b == 244) = false from beq_eq_false_iff_ne.2 (by omega), cond_true, cond_false]
    rw [if_neg (show ¬ (b < 194) by omega), if_neg (show ¬ (b ≤ 223) by omega), if_neg (show ¬ (b = 224) by omega), if_neg (show ¬ (b ≤ 236) by omega), if_neg (show ¬ (b = 237) by omega), if_pos (show b ≤ 239 by omega)]
  · simp only [show decide (b ≥ 194) = true from decide_eq_true (by omega), show decide (b ≥ 225) = true from decide_eq_true (by omega), show decide (b ≥ 241) = false from decide_eq_false (by omega), show decide (b ≤ 223) = false from decide_eq_false (by omega), show decide (b ≤ 239) = false from decide_eq_false (by omega), show decide (b ≤ 243) = true from decide_eq_true (by omega), show (b == 224) = false from beq_eq_false_iff_ne.2 (by omega), show (b == 237) = false from beq_eq_false_iff_ne.2 (by omega), show (b == 240) = true from beq_iff_eq.2 (by omega), show (b == 244) = false from beq_eq_false_iff_ne.2 (by omega), cond_true, cond_false]
    rw [if_neg (show ¬ (b < 194) by omega), if_neg (show ¬ (b ≤ 223) by omega), if_neg (show ¬ (b = 224) by omega), if_neg (show ¬ (b ≤ 236) by omega), if_neg (show ¬ (b = 237) by omega), if_neg (show ¬ (b ≤ 239) by omega), if_pos (show b = 240 by omega)]
  · simp only [show decide (b ≥ 194) = true from decide_eq_true (by omega), show decide (b ≥ 225) = true from decide_eq_true (by omega), show decide (b ≥ 241) = true from decide_eq_true (by omega), show decide (b ≤ 223) = false from decide_eq_false (by omega), show decide (b ≤ 239) = false from decide_eq_false (by omega), show decide (b ≤ 243) = true from decide_eq_true (by omega), show (b == 224) = false from beq_eq_false_iff_ne.2 (by omega), show (b == 237) = false from beq_eq_false_iff_ne.2 (by omega), show (b == 240) = false from beq_eq_false_iff_ne.2 (by omega), show (b == 244) = false from beq_eq_false_iff_ne.2 (by omega), cond_true, cond_false]
    rw [if_neg (show ¬ (b < 194) by omega), if_neg (show ¬ (b ≤ 223) by omega), if_neg (show ¬ (b = 224) by omega), if_neg (show ¬ (b ≤ 236) by omega), if_neg (show ¬ (b = 237) by omega), if_neg (show ¬ (b ≤ 239) by omega), if_neg (show ¬ (b = 240) by omega), if_pos (show b ≤ 243 by omega)]
  · simp only [show decide (b ≥ 194) = true from decide_eq_true (by omega), show decide (b ≥ 225) = true from decide_eq_true (by omega), show decide (b ≥ 241) = true from decide_eq_true (by omega), show decide (b ≤ 223) = false from decide_eq_false (by omega), show decide (b ≤ 239) = false from decide_eq_false (by omega), show decide (b ≤ 243) = false from decide_eq_false (by omega), show (b == 224) = false from beq_eq_false_iff_ne.2 (by omega), show (b == 237) = false from beq_eq_false_iff_ne.2 (by omega), show (b == 240) = false from beq_eq_false_iff_ne.2 (by omega), show (b == 244) = true from beq_iff_eq.2 (by omega), cond_true, cond_false]
    rw [if_neg (show ¬ (b < 194) by omega), if_neg (show ¬ (b ≤ 223) by omega), if_neg (show ¬ (b = 224) by omega), if_neg (show ¬ (b ≤ 236) by omega), if_neg (show ¬ (b = 237) by omega), if_neg (show ¬ (b ≤ 239) by omega), if_neg (show ¬ (b = 240) by omega), if_neg (show ¬ (b ≤ 243) by omega), if_pos (show b = 244 by omega)]
  · simp only [show decide (b ≥ 194) = true from decide_eq_true (by omega), show decide (b ≥ 225) = true from decide_eq_true (by omega), show decide (b ≥ 241) = true from decide_eq_true (by omega), show decide (b ≤ 223) = false from decide_eq_false (by omega), show decide (b ≤ 239) = false from decide_eq_false (by omega), show decide (b ≤ 243) = false from decide_eq_false (by omega), show (b == 224) = false from beq_eq_false_iff_ne.2 (by omega), show (b == 237) = false from beq_eq_false_iff_ne.2 (by omega), show (b == 240) = false from beq_eq_false_iff_ne.2 (by omega), show (b == 244) = false from beq_eq_false_iff_ne.2 (by omega), cond_true, cond_false]
    rw [if_neg (show ¬ (b < 194) by omega), if_neg (show ¬ (b ≤ 223) by omega), if_neg (show ¬ (b = 224) by omega), if_neg (show ¬ (b ≤ 236) by omega), if_neg (show ¬ (b = 237) by omega), if_neg (show ¬ (b ≤ 239) by omega), if_neg (show ¬ (b = 240) by omega), if_neg (show ¬ (b ≤ 243) by omega), if_neg (show ¬ (b = 244) by omega)]
end Go.Abs
namespace Go.Abs
set_option autoImplicit false

def contB (b : Int) : Bool := decide (128 ≤ b ∧ b ≤ 191)
def webW (s : List UInt8) (k : Nat) : Nat :=
  if k + 1 < s.length ∧ 3 ≤ (secI (bat s k)).2.2 ∧ (secI (bat s k)).1 ≤ bat s (k + 1) ∧ bat s (k + 1) ≤ (secI (bat s k)).2.1 then
    (if k + 2 < s.length ∧ (secI (bat s k)).2.2 = 4 ∧ contB (bat s (k + 2)) = true then 3 else 2)
  else 1
theorem webW_drop (s : List UInt8) (k : Nat) (hk : k ≤ s.length) : webW (s.drop k) 0 = webW s k := by
  unfold webW
  rw [bat_drop0, bat_dropS, bat_dropS, List.length_drop]
  have e1 : (0 + 1 < s.length - k) ↔ (k + 1 < s.length) := by omega
  have e2 : (0 + 2 < s.length - k) ↔ (k + 2 < s.length) := by omega
  simp only [e1, e2]
theorem secI_all (b : Int) : (secI b).2.2 = 0 ∨ (secI b).2.2 = 2 ∨ (secI b).2.2 = 3 ∨ (secI b).2.2 = 4 := by
  unfold secI
  repeat' split
  all_goals simp

theorem width_stop (t : List UInt8) (lo hi all : Int) (i : Nat) (ha : 0 ≤ all ∧ all ≤ 4) (h : ¬ ((i : Int) < all - 1 ∧ i < t.length ∧ lo ≤ bat t i ∧ bat t i ≤ hi)) : Zk3 t lo hi all (i : Int) = some (i : Int) := by
  rw [Zk3_eq, w64 (by omega) (by omega), lt_nat]
  by_cases a : (i : Int) < all - 1
  · rw [decide_eq_true a, cond_true]
    by_cases b : i < t.length
    · rw [decide_eq_true b, cond_true, inside_nat, decide_eq_true b, cond_true, Int.toNat_natCast, show (((t.getD i 0).toNat : Nat) : Int) = bat t i from rfl]
      by_cases c : lo ≤ bat t i
      · rw [show decide (bat t i ≥ lo) = true from decide_eq_true c, cond_true, cond_true, show decide (bat t i ≤ hi) = false from decide_eq_false (fun d => h ⟨a, b, c, d⟩), cond_false]
      · rw [show decide (bat t i ≥ lo) = false from decide_eq_false c, cond_false]
    · rw [decide_eq_false b, cond_false]
  · rw [decide_eq_false a, cond_false]
theorem width_go (t : List UInt8) (lo hi all : Int) (i : Nat) (hi4 : i ≤ 4) (ha : 0 ≤ all ∧ all ≤ 4) (h : (i : Int) < all - 1 ∧ i < t.length ∧ lo ≤ bat t i ∧ bat t i ≤ hi) : Zk3 t lo hi all (i : Int) = Zk3 t 128 191 all ((i + 1 : Nat) : Int) := by
  have hw : IntKind.i64.wrap ((i : Int) + 1) = ((i + 1 : Nat) : Int) := by rw [w64 (by omega) (by omega)]; omega
  rw [Zk3_eq, w64 (x := all - 1) (by omega) (by omega), lt_nat, decide_eq_true h.1, cond_true, decide_eq_true h.2.1, cond_true, inside_nat, decide_eq_true h.2.1, cond_true, Int.toNat_natCast, show (((t.getD i 0).toNat : Nat) : Int) = bat t i from rfl,
    show decide (bat t i ≥ lo) = true from decide_eq_true h.2.2.1, cond_true, cond_true, show decide (bat t i ≤ hi) = true from decide_eq_true h.2.2.2, cond_true, hw]

theorem c_utf_width_val (t : List UInt8) (h0 : 0 < t.length) : c_utf_width t = some ((webW t 0 : Nat) : Int) := by
  rw [c_utf_width_eq, Zj3_eq, show inside (0 : Int) t.length = true from by rw [show (0 : Int) = ((0 : Nat) : Int) from rfl, inside_nat]; exact decide_eq_true h0, cond_true]
  rw [show (((t.getD (Int.toNat (0 : Int)) 0).toNat : Nat) : Int) = bat t 0 from rfl, c_utf_second_val, Option.bind_some]
  have hall := secI_all (bat t 0)
  unfold webW
  rw [show (0 : Nat) + 1 = 1 from rfl, show (0 : Nat) + 2 = 2 from rfl]
  by_cases a : 1 < t.length ∧ 3 ≤ (secI (bat t 0)).2.2 ∧ (secI (bat t 0)).1 ≤ bat t 1 ∧ bat t 1 ≤ (secI (bat t 0)).2.1
  · rw [if_pos a]
    have := width_go t (secI (bat t 0)).1 (secI (bat t 0)).2.1 (secI (bat t 0)).2.2 1 (by omega) (by omega) ⟨by omega, a.1, a.2.2.1, a.2.2.2⟩
    rw [show ((1 : Nat) : Int) = 1 from rfl] at this
    rw [this]
    by_cases b : 2 < t.length ∧ (secI (bat t 0)).2.2 = 4 ∧ contB (bat t 2) = true
    · have hc := of_decide_eq_true b.2.2
      rw [if_pos b, width_go t _ _ _ 2 (by omega) (by omega) ⟨by omega, b.1, hc.1, hc.2⟩, width_stop t _ _ _ 3 (by omega) (by omega)]
    · rw [if_neg b, width_stop t _ _ _ 2 (by omega)]
      rintro ⟨h1, h2, h3, h4⟩
      exact b ⟨h2, by omega, decide_eq_true ⟨h3, h4⟩⟩
  · rw [if_neg a]
    have := width_stop t (secI (bat t 0)).1 (secI (bat t 0)).2.1 (secI (bat t 0)).2.2 1 (by omega) (by
      rintro ⟨h1, h2, h3, h4⟩
      exact a ⟨h2, by omega, h3, h4⟩)
    rw [show ((1 : Nat) : Int) = 1 from rfl] at this
    exact this

def wwd (s : List UInt8) (k : Nat) : Nat := if (runeAt s k).2.2 = true then webW s k else wd s k
def wpcs (s : List UInt8) : Nat → Nat → List (Nat × (Int × (Int × Bool)))
  | 0, _ => []
  | n + 1, k => if k < s.length then (k, ((runeAt s k).1, (((wwd s k : Nat) : Int), (runeAt s k).2.2))) :: wpcs s n (k + wwd s k) else []
def webOf (s : List UInt8) : List (Nat × (Int × (Int × Bool))) := wpcs s s.length 0
theorem wwd_bound (s : List UInt8) (k : Nat) (hk : k < s.length) : 1 ≤ wwd s k ∧ wwd s k ≤ 4 ∧ k + wwd s k ≤ s.length := by
  have := wd_bound s k hk
  unfold wwd
  split
  · unfold webW
    split
    · split <;> omega
    · omega
  · omega
theorem wpcs_len (s : List UInt8) : ∀ (n k : Nat), (wpcs s n k).length ≤ n
  | 0, _ => by simp [wpcs]
  | n + 1, k => by
    unfold wpcs
    split
    · simp only [List.length_cons]; have := wpcs_len s n (k + wwd s k); omega
    · simp

theorem WebPieces_go (s : List UInt8) (hs : s.length ≤ 1073741824) : ∀ (n k : Nat) (r : List D181), s.length ≤ k + n → k ≤ s.length → r.length + n ≤ 1073741824 → Zs2 s (k : Int) r = some (r ++ (wpcs s n k).map toD)
  | 0, k, r, hn, hk, hr => by
    rw [Zs2_eq, lt_nat, decide_eq_false (by omega), cond_false, wpcs]; simp
  | n + 1, k, r, hn, hk, hr => by
    rw [Zs2_eq, lt_nat]
    unfold wpcs
    by_cases c : k < s.length
    · have hw := wwd_bound s k c
      have hwd := wd_bound s k c
      have fin : ∀ b : Bool, ∀ d : D181, d = ((k : Int), (((wwd s k : Nat) : Int), ((runeAt s k).1, b))) → Zt2 s (k : Int) d r = some (r ++ (((k, ((runeAt s k).1, (((wwd s k : Nat) : Int), b))) :: wpcs s n (k + wwd s k)).map toD)) := by
        rintro b d rfl
        rw [Zt2_eq, show decide (r.length + [((k : Int), (((wwd s k : Nat) : Int), ((runeAt s k).1, b)))].length ≤ lim) = true from decide_eq_true (by simp [lim]; omega), cond_true]
        simp only
        rw [w64 (by omega) (by omega), show (k : Int) + ((wwd s k : Nat) : Int) = ((k + wwd s k : Nat) : Int) from by omega]
        rw [WebPieces_go s hs n (k + wwd s k) _ (by omega) (by omega) (by simp; omega), List.map_cons, List.append_assoc]
        simp [toD]
      rw [decide_eq_true c, cond_true, if_pos c, c_utf_at_val s k c, Option.bind_some]
      simp only
      cases hb : (runeAt s k).2.2 with
      | true =>
        rw [cond_true, cut_from hk, cond_true, cutList_from, c_utf_width_val (s.drop k) (by rw [List.length_drop]; omega), Option.bind_some, webW_drop s k hk]
        have : wwd s k = webW s k := by unfold wwd; rw [if_pos hb]
        refine fin true _ ?_
        rw [this]
      | false =>
        rw [cond_false]
        have : wwd s k = wd s k := by unfold wwd; rw [if_neg (by rw [hb]; simp)]
        refine fin false _ ?_
        rw [this, hwd.2.2.2]
    · rw [decide_eq_false c, cond_false, if_neg c]; simp
theorem c_utf_WebPieces_val (s : List UInt8) (hs : s.length ≤ 1073741824) : c_utf_WebPieces s = some ((webOf s).map toD) := by
  rw [c_utf_WebPieces_eq, Zr2_eq]
  exact WebPieces_go s hs s.length 0 [] (by omega) (by omega) (by simpa using hs)

theorem wu8mod (x : Int) : IntKind.u8.wrap x = x % 256 := by
  change (if (false && decide (x % (256 : Int) ≥ (128 : Int))) = true then x % (256 : Int) - (256 : Int) else x % (256 : Int)) = _
  rw [if_neg (by simp)]
theorem wu32 {x : Int} (h0 : 0 ≤ x) (h1 : x < 4294967296) : IntKind.u32.wrap x = x := by
  change (if (false && decide (x % (4294967296 : Int) ≥ (2147483648 : Int))) = true then x % (4294967296 : Int) - (4294967296 : Int) else x % (4294967296 : Int)) = _
  rw [if_neg (by simp)]; omega
theorem or_hi (m : Nat) (q : Nat) {y : Int} (h0 : 0 ≤ y) (h1 : y < ((2 ^ m : Nat) : Int)) (hq : 2 ^ m * q + 2 ^ m ≤ 256) : bits Go.BinOp.or IntKind.u8 ((2 ^ m * q : Nat) : Int) y = ((2 ^ m * q : Nat) : Int) + y := by
  obtain ⟨n, rfl⟩ := Int.eq_ofNat_of_zero_le h0
  have hn : n < 2 ^ m := by omega
  have e1 : (BitVec.ofInt 8 (((2 ^ m * q : Nat) : Nat) : Int)).toNat = 2 ^ m * q := by
    rw [BitVec.toNat_ofInt]; omega
  have e2 : (BitVec.ofInt 8 (n : Int)).toNat = n := by
    rw [BitVec.toNat_ofInt]; omega
  have e : (BitVec.ofInt 8 (((2 ^ m * q : Nat) : Nat) : Int) ||| BitVec.ofInt 8 (n : Int)).toNat = 2 ^ m * q + n := by
    rw [BitVec.toNat_or, e1, e2, ← Nat.two_pow_add_eq_or_of_lt hn]
  show IntKind.u8.wrap (((BitVec.ofInt 8 (((2 ^ m * q : Nat) : Nat) : Int) ||| BitVec.ofInt 8 (n : Int)).toNat : Nat) : Int) = _
  rw [e, w8 (by omega) (by omega)]
  omega
theorem or192 {y : Int} (h0 : 0 ≤ y) (h1 : y < 32) : bits Go.BinOp.or IntKind.u8 192 y = 192 + y := or_hi 5 6 h0 (by simpa using h1) (by decide)
theorem or128 {y : Int} (h0 : 0 ≤ y) (h1 : y < 64) : bits Go.BinOp.or IntKind.u8 128 y = 128 + y := or_hi 6 2 h0 (by simpa using h1) (by decide)
theorem or224 {y : Int} (h0 : 0 ≤ y) (h1 : y < 16) : bits Go.BinOp.or IntKind.u8 224 y = 224 + y := or_hi 4 14 h0 (by simpa using h1) (by decide)
theorem or240 {y : Int} (h0 : 0 ≤ y) (h1 : y < 8) : bits Go.BinOp.or IntKind.u8 240 y = 240 + y := or_hi 3 30 h0 (by simpa using h1) (by decide)
theorem shr32k (r : Int) (k : Nat) (hk : k ≤ 32) : shr IntKind.i32 r (k : Int) = r / 2 ^ k := by
  show r.fdiv (2 ^ (min (Int.toNat (k : Int)) 32)) = _
  rw [Int.toNat_natCast, Nat.min_eq_left hk, Int.fdiv_eq_ediv_of_nonneg _ (Int.le_of_lt (Int.pow_pos (by omega)))]
theorem sh6 (r : Int) : shr IntKind.i32 r 6 = r / 64 := shr32k r 6 (by omega)
theorem sh12 (r : Int) : shr IntKind.i32 r 12 = r / 4096 := shr32k r 12 (by omega)
theorem sh18 (r : Int) : shr IntKind.i32 r 18 = r / 262144 := shr32k r 18 (by omega)

theorem AppendRune_val (l : List Int) (r : Int) (hl : l.length ≤ 4294967200) (hr : scal r = true) : c_utf8_AppendRune (l, r) = some (l ++ bytesI r) := by
  have hr := of_decide_eq_true hr
  rw [c_utf8_AppendRune_eq, Zi3_eq]
  simp only
  rw [wu32 (by omega) (by omega)]
  unfold bytesI
  by_cases a : r < 128
  · rw [show decide (r ≤ 127) = true from decide_eq_true (by omega), cond_true, w8 (by omega) (by omega), show decide (l.length + [r].length ≤ lim) = true from decide_eq_true (by simp [lim]; omega), cond_true, if_pos a]
  · rw [show decide (r ≤ 127) = false from decide_eq_false (by omega), cond_false, if_neg a, c_utf8_appendRuneNonASCII_eq, Zv3_eq]
    simp only
    have u6 := wu8mod r
    rw [wu32 (x := r) (by omega) (by omega), sh6, u6, m63 (x := r % 256) (by omega), show r % 256 % 64 = r % 64 from by omega, or128 (y := r % 64) (by omega) (by omega)]
    by_cases b : r < 2048
    · rw [show decide (r ≤ 2047) = true from decide_eq_true (by omega), cond_true, w8 (x := r / 64) (by omega) (by omega), or192 (by omega) (by omega), if_pos b]
      rw [show decide (l.length + [192 + r / 64, 128 + r % 64].length ≤ lim) = true from decide_eq_true (by simp [lim]; omega), cond_true]; rfl
    · rw [show decide (r ≤ 2047) = false from decide_eq_false (by omega), cond_false, if_neg b]
      by_cases c : r < 65536
      · have key : Zw3 r r true l = some (l ++ [224 + r / 4096, 128 + r / 64 % 64, 128 + r % 64]) := by
          rw [Zw3_eq, cond_true, sh12, sh6, u6, m63 (x := r % 256) (by omega), show r % 256 % 64 = r % 64 from by omega, or128 (y := r % 64) (by omega) (by omega), wu8mod (r / 64), m63 (x := r / 64 % 256) (by omega), show r / 64 % 256 % 64 = r / 64 % 64 from by omega, or128 (y := r / 64 % 64) (by omega) (by omega),
            w8 (x := r / 4096) (by omega) (by omega), or224 (by omega) (by omega), show decide (l.length + [224 + r / 4096, 128 + r / 64 % 64, 128 + r % 64].length ≤ lim) = true from decide_eq_true (by simp [lim]; omega), cond_true]
        rw [if_pos c]
        by_cases d : r < 55296
        · rw [decide_eq_true d, cond_true, key]; rfl
        · rw [decide_eq_false d, cond_false, show decide ((57343 : Int) < r) = true from decide_eq_true (by omega), cond_true, show decide (r ≤ 65535) = true from decide_eq_true (by omega), key]; rfl
      · rw [if_neg c, show decide (r < 55296) = false from decide_eq_false (by omega), cond_false, show decide ((57343 : Int) < r) = true from decide_eq_true (by omega), cond_true, show decide (r ≤ 65535) = false from decide_eq_false (by omega), Zw3_eq, cond_false,
          show decide (r > 65535) = true from decide_eq_true (by omega), cond_true, show decide (r ≤ 1114111) = true from decide_eq_true (by omega), cond_true]
        rw [sh18, sh12, sh6, u6, m63 (x := r % 256) (by omega), show r % 256 % 64 = r % 64 from by omega, or128 (y := r % 64) (by omega) (by omega), wu8mod (r / 64), m63 (x := r / 64 % 256) (by omega), show r / 64 % 256 % 64 = r / 64 % 64 from by omega, or128 (y := r / 64 % 64) (by omega) (by omega),
          wu8mod (r / 4096), m63 (x := r / 4096 % 256) (by omega), show r / 4096 % 256 % 64 = r / 4096 % 64 from by omega, or128 (y := r / 4096 % 64) (by omega) (by omega), w8 (x := r / 262144) (by omega) (by omega), or240 (by omega) (by omega)]
        rw [show decide (l.length + [240 + r / 262144, 128 + r / 4096 % 64, 128 + r / 64 % 64, 128 + r % 64].length ≤ lim) = true from decide_eq_true (by simp [lim]; omega), cond_true]; rfl
end Go.Abs
namespace Go.Abs
set_option autoImplicit false

theorem runeAt_scal (s : List UInt8) (k : Nat) : scal (runeAt s k).1 = true := by
  have h0 := bat_lt s k
  have h1 := bat_lt s (k + 1)
  unfold runeAt
  by_cases q1 : ut1 s k = true
  · rw [if_pos q1]
    have := of_decide_eq_true q1
    exact decide_eq_true (by simp only; omega)
  rw [if_neg q1]
  by_cases q2 : ut2 s k = true
  · rw [if_pos q2]
    have : 0 ≤ c2 s k ∧ c2 s k < 2048 := by unfold c2; omega
    exact decide_eq_true (by simp only; omega)
  rw [if_neg q2]
  by_cases q3 : ut3 s k = true
  · rw [if_pos q3]
    unfold ut3 at q3
    rw [Bool.and_eq_true] at q3
    exact q3.2
  rw [if_neg q3]
  by_cases q4 : ut4 s k = true
  · rw [if_pos q4]
    unfold ut4 at q4
    rw [Bool.and_eq_true] at q4
    exact q4.2
  rw [if_neg q4]; rfl
theorem bytesI_le4 (r : Int) : 1 ≤ (bytesI r).length ∧ (bytesI r).length ≤ 4 := by
  rw [bytesI_len]; split
  · omega
  · split
    · omega
    · split <;> omega

def runesB (l : List Int) : List Int := l.flatMap bytesI
theorem runesB_len : ∀ l : List Int, (runesB l).length ≤ 4 * l.length
  | [] => by simp [runesB]
  | r :: l => by
    have := runesB_len l
    have h := bytesI_le4 r
    simp only [runesB, List.flatMap_cons, List.length_append, List.length_cons] at this ⊢
    omega
def textOf (l : List Int) : List UInt8 := strOf (runesB l)

theorem told_go (s l : List D181) (hl : l.length ≤ 1000000000) (hr : ∀ x ∈ l, scal x.2.2.1 = true) : ∀ (n i : Nat) (r : List Int), i + n = l.length → r.length ≤ 4 * i → Zq2 s l (l.length : Int) (i : Int) r = some (strOf (r ++ runesB ((l.drop i).map (·.2.2.1))))
  | 0, i, r, h, hrl => by
    have : i = l.length := by omega
    subst this
    rw [Zq2_eq, lt_nat, decide_eq_false (Nat.lt_irrefl _), cond_false, List.drop_length]; simp [runesB]
  | n + 1, i, r, h, hrl => by
    have hi : i < l.length := by omega
    have hw : IntKind.i64.wrap ((i : Int) + 1) = ((i + 1 : Nat) : Int) := by rw [w64 (by omega) (by omega)]; omega
    have hg : List.getD l (Int.toNat (i : Int)) (Ty.zero T181) = l[i] := by
      rw [Int.toNat_natCast, List.getD_eq_getElem?_getD, List.getElem?_eq_getElem hi]; rfl
    have hb := bytesI_le4 l[i].2.2.1
    rw [Zq2_eq, lt_nat, decide_eq_true hi, cond_true, inside_nat, decide_eq_true hi, cond_true, hg, AppendRune_val _ _ (by omega) (hr _ (List.getElem_mem hi)), Option.bind_some, hw,
      told_go s l hl hr n (i + 1) _ (by omega) (by simp only [List.length_append]; omega), List.drop_eq_getElem_cons hi, List.map_cons]
    simp only [runesB, List.flatMap_cons, List.append_assoc]
theorem c_utf_told_val (l : List D181) (hl : l.length ≤ 1000000000) (hr : ∀ x ∈ l, scal x.2.2.1 = true) : c_utf_told l = some (textOf (l.map (·.2.2.1))) := by
  rw [c_utf_told_eq, Zo2_eq, Zp2_eq]
  cases l with
  | nil => rfl
  | cons x l =>
    have hb := bytesI_le4 x.2.2.1
    rw [show decide ((0 : Int) < (((x :: l).length : Nat) : Int)) = true from decide_eq_true (by simp only [List.length_cons]; omega), cond_true, in_zero, cond_true, show List.getD (x :: l) (Int.toNat (0 : Int)) (Ty.zero T181) = x from rfl, AppendRune_val [] _ (by simp) (hr x (by simp)), Option.bind_some]
    have := told_go (x :: l) (x :: l) hl hr l.length 1 ([] ++ bytesI x.2.2.1) (by simp only [List.length_cons]; omega) (by simp only [List.nil_append]; omega)
    rw [show IntKind.i64.wrap ((0 : Int) + 1) = ((1 : Nat) : Int) from a1, this]
    simp [textOf, runesB]
theorem toD_runes : ∀ l : List (Nat × (Int × (Int × Bool))), (l.map toD).map (fun x : D181 => x.2.2.1) = l.map (fun x => x.2.1)
  | [] => rfl
  | x :: l => by simp only [List.map_cons, toD_runes l, toD]
def webRunes (s : List UInt8) : List Int := (webOf s).map (·.2.1)
def webFix (s : List UInt8) : List UInt8 := textOf (webRunes s)
theorem wpcs_scal (s : List UInt8) : ∀ (n k : Nat), ∀ x ∈ wpcs s n k, scal x.2.1 = true
  | 0, _, x, h => by cases h
  | n + 1, k, x, h => by
    unfold wpcs at h
    split at h
    · rcases List.mem_cons.1 h with rfl | h
      · (dsimp only; exact runeAt_scal s k)
      · exact wpcs_scal s n _ x h
    · cases h
theorem c_utf_WebFix_val (s : List UInt8) (hs : s.length ≤ 1000000000) : c_utf_WebFix s = some (webFix s) := by
  rw [c_utf_WebFix_eq, Z12_eq, c_utf_WebPieces_val s (by omega), Option.bind_some]
  have hl := wpcs_len s s.length 0
  rw [c_utf_told_val _ (by rw [List.length_map]; unfold webOf; omega) (by
    intro x hx
    obtain ⟨y, hy, rfl⟩ := List.mem_map.1 hx
    exact wpcs_scal s s.length 0 y hy), Option.bind_some]
  unfold webFix webRunes
  rw [toD_runes]
theorem webFix_len (s : List UInt8) : (webFix s).length ≤ 4 * s.length := by
  have h1 := runesB_len (webRunes s)
  have h2 := wpcs_len s s.length 0
  unfold webFix textOf strOf
  rw [List.length_map]
  have : (webRunes s).length ≤ s.length := by unfold webRunes webOf; rw [List.length_map]; exact h2
  omega
end Go.Abs
