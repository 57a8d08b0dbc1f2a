/- Part L3 of the proof: see the last text of the claim. No condition of its own. -/
import Derived.Test.YtddagflhafkbnaaGreatDoorL2
import Derived.Test.YtddagflhafkbnaaGreatDoorQ2
import Derived.Test.YtddagflhafkbnaaGreatDoorQ3
set_option linter.all false
/- UTF-8: what stands at a place of a text, as the model has it. -/
namespace Go.Abs
set_option autoImplicit false

/-- A byte at a place. -/
def bat (s : List UInt8) (k : Nat) : Int := byteI (s.getD k 0)
theorem bat_lt (s : List UInt8) (k : Nat) : 0 ≤ bat s k ∧ bat s k ≤ 255 := byteI_lt _

def c2 (s : List UInt8) (k : Nat) : Int := bat s k % 32 * 64 + bat s (k + 1) % 64
def c3 (s : List UInt8) (k : Nat) : Int := bat s k % 16 * 4096 + bat s (k + 1) % 64 * 64 + bat s (k + 2) % 64
def c4 (s : List UInt8) (k : Nat) : Int := bat s k % 8 * 262144 + bat s (k + 1) % 64 * 4096 + bat s (k + 2) % 64 * 64 + bat s (k + 3) % 64
def scal (r : Int) : Bool := decide (0 ≤ r ∧ r ≤ 1114111 ∧ ¬ (55296 ≤ r ∧ r ≤ 57343))
def ut1 (s : List UInt8) (k : Nat) : Bool := decide (bat s k < 128)
def ut2 (s : List UInt8) (k : Nat) : Bool := decide (k + 1 < s.length ∧ bat s k / 32 = 6 ∧ bat s (k + 1) / 64 = 2 ∧ 128 ≤ c2 s k)
def ut3 (s : List UInt8) (k : Nat) : Bool := decide (k + 2 < s.length ∧ bat s k / 16 = 14 ∧ bat s (k + 1) / 64 = 2 ∧ bat s (k + 2) / 64 = 2 ∧ 2048 ≤ c3 s k) && scal (c3 s k)
def ut4 (s : List UInt8) (k : Nat) : Bool := decide (k + 3 < s.length ∧ bat s k / 8 = 30 ∧ bat s (k + 1) / 64 = 2 ∧ bat s (k + 2) / 64 = 2 ∧ bat s (k + 3) / 64 = 2 ∧ 65536 ≤ c4 s k) && scal (c4 s k)
/-- The rune at a place, its width, and whether it is one. -/
def runeAt (s : List UInt8) (k : Nat) : Int × (Int × Bool) :=
  if ut1 s k = true then (bat s k, 1, false) else if ut2 s k = true then (c2 s k, 2, false) else if ut3 s k = true then (c3 s k, 3, false) else if ut4 s k = true then (c4 s k, 4, false) else (65533, 1, true)

theorem chainN (a0 a1 a2 a3 C2 C3 C4 k n : Nat) (s3 s4 : Bool) (b0 b1 b2 b3 D2 D3 D4 : Int) (hb0 : b0 = (a0 : Int)) (hb1 : b1 = (a1 : Int)) (hb2 : b2 = (a2 : Int)) (hb3 : b3 = (a3 : Int)) (hD2 : D2 = (C2 : Int)) (hD3 : D3 = (C3 : Int)) (hD4 : D4 = (C4 : Int)) :
    Prod.map (fun x : Nat => ((x : Nat) : Int)) (fun x : Nat => ((x : Nat) : Int)) (if a0 < 128 then (a0, 1) else if a0 / 32 = 6 ∧ k + 1 < n ∧ a1 / 64 = 2 then (if C2 ≥ 128 then (C2, 2) else (65533, 1))
      else if (a0 / 16 = 14 ∧ k + 1 < n ∧ a1 / 64 = 2) ∧ k + 2 < n ∧ a2 / 64 = 2 then (if C3 ≥ 2048 ∧ s3 = true then (C3, 3) else (65533, 1))
      else if ((a0 / 8 = 30 ∧ k + 1 < n ∧ a1 / 64 = 2) ∧ k + 2 < n ∧ a2 / 64 = 2) ∧ k + 3 < n ∧ a3 / 64 = 2 then (if C4 ≥ 65536 ∧ s4 = true then (C4, 4) else (65533, 1)) else (65533, 1)) =
    (fun y : Int × (Int × Bool) => (y.1, y.2.1)) (if b0 < 128 then (b0, 1, false) else if k + 1 < n ∧ b0 / 32 = 6 ∧ b1 / 64 = 2 ∧ 128 ≤ D2 then (D2, 2, false)
      else if (k + 2 < n ∧ b0 / 16 = 14 ∧ b1 / 64 = 2 ∧ b2 / 64 = 2 ∧ 2048 ≤ D3) ∧ s3 = true then (D3, 3, false)
      else if (k + 3 < n ∧ b0 / 8 = 30 ∧ b1 / 64 = 2 ∧ b2 / 64 = 2 ∧ b3 / 64 = 2 ∧ 65536 ≤ D4) ∧ s4 = true then (D4, 4, false) else (65533, 1, true)) := by
  subst hb0 hb1 hb2 hb3 hD2 hD3 hD4
  by_cases q1 : a0 < 128
  · rw [if_pos q1, if_pos (show (a0 : Int) < 128 by omega)]; rfl
  rw [if_neg q1, if_neg (show ¬ ((a0 : Int) < 128) by omega)]
  by_cases q2 : a0 / 32 = 6 ∧ k + 1 < n ∧ a1 / 64 = 2
  · rw [if_pos q2]
    by_cases q : C2 ≥ 128
    · rw [if_pos q, if_pos (show k + 1 < n ∧ (a0 : Int) / 32 = 6 ∧ (a1 : Int) / 64 = 2 ∧ 128 ≤ (C2 : Int) by omega)]; rfl
    · rw [if_neg q, if_neg (show ¬ (k + 1 < n ∧ (a0 : Int) / 32 = 6 ∧ (a1 : Int) / 64 = 2 ∧ 128 ≤ (C2 : Int)) by omega),
        if_neg (show ¬ ((k + 2 < n ∧ (a0 : Int) / 16 = 14 ∧ (a1 : Int) / 64 = 2 ∧ (a2 : Int) / 64 = 2 ∧ 2048 ≤ (C3 : Int)) ∧ s3 = true) from fun h => by omega),
        if_neg (show ¬ ((k + 3 < n ∧ (a0 : Int) / 8 = 30 ∧ (a1 : Int) / 64 = 2 ∧ (a2 : Int) / 64 = 2 ∧ (a3 : Int) / 64 = 2 ∧ 65536 ≤ (C4 : Int)) ∧ s4 = true) from fun h => by omega)]
      rfl
  rw [if_neg q2, if_neg (show ¬ (k + 1 < n ∧ (a0 : Int) / 32 = 6 ∧ (a1 : Int) / 64 = 2 ∧ 128 ≤ (C2 : Int)) by omega)]
  by_cases q3 : (a0 / 16 = 14 ∧ k + 1 < n ∧ a1 / 64 = 2) ∧ k + 2 < n ∧ a2 / 64 = 2
  · rw [if_pos q3]
    by_cases q : C3 ≥ 2048 ∧ s3 = true
    · rw [if_pos q, if_pos (show (k + 2 < n ∧ (a0 : Int) / 16 = 14 ∧ (a1 : Int) / 64 = 2 ∧ (a2 : Int) / 64 = 2 ∧ 2048 ≤ (C3 : Int)) ∧ s3 = true from ⟨by omega, q.2⟩)]; rfl
    · rw [if_neg q, if_neg (show ¬ ((k + 2 < n ∧ (a0 : Int) / 16 = 14 ∧ (a1 : Int) / 64 = 2 ∧ (a2 : Int) / 64 = 2 ∧ 2048 ≤ (C3 : Int)) ∧ s3 = true) from fun h => q ⟨by omega, h.2⟩),
        if_neg (show ¬ ((k + 3 < n ∧ (a0 : Int) / 8 = 30 ∧ (a1 : Int) / 64 = 2 ∧ (a2 : Int) / 64 = 2 ∧ (a3 : Int) / 64 = 2 ∧ 65536 ≤ (C4 : Int)) ∧ s4 = true) from fun h => by omega)]
      rfl
  rw [if_neg q3, if_neg (show ¬ ((k + 2 < n ∧ (a0 : Int) / 16 = 14 ∧ (a1 : Int) / 64 = 2 ∧ (a2 : Int) / 64 = 2 ∧ 2048 ≤ (C3 : Int)) ∧ s3 = true) from fun h => by omega)]
  by_cases q4 : ((a0 / 8 = 30 ∧ k + 1 < n ∧ a1 / 64 = 2) ∧ k + 2 < n ∧ a2 / 64 = 2) ∧ k + 3 < n ∧ a3 / 64 = 2
  · rw [if_pos q4]
    by_cases q : C4 ≥ 65536 ∧ s4 = true
    · rw [if_pos q, if_pos (show (k + 3 < n ∧ (a0 : Int) / 8 = 30 ∧ (a1 : Int) / 64 = 2 ∧ (a2 : Int) / 64 = 2 ∧ (a3 : Int) / 64 = 2 ∧ 65536 ≤ (C4 : Int)) ∧ s4 = true from ⟨by omega, q.2⟩)]; rfl
    · rw [if_neg q, if_neg (show ¬ ((k + 3 < n ∧ (a0 : Int) / 8 = 30 ∧ (a1 : Int) / 64 = 2 ∧ (a2 : Int) / 64 = 2 ∧ (a3 : Int) / 64 = 2 ∧ 65536 ≤ (C4 : Int)) ∧ s4 = true) from fun h => q ⟨by omega, h.2⟩)]
      rfl
  rw [if_neg q4, if_neg (show ¬ ((k + 3 < n ∧ (a0 : Int) / 8 = 30 ∧ (a1 : Int) / 64 = 2 ∧ (a2 : Int) / 64 = 2 ∧ (a3 : Int) / 64 = 2 ∧ 65536 ≤ (C4 : Int)) ∧ s4 = true) from fun h => by omega)]
  rfl

set_option maxRecDepth 20000 in
theorem decRune_val (s : List UInt8) (k : Nat) : (((decRune s k).1 : Nat) : Int) = (runeAt s k).1 ∧ (((decRune s k).2 : Nat) : Int) = (runeAt s k).2.1 := by
  have hsz : (⟨s.toArray⟩ : ByteArray).size = s.length := by simp [ByteArray.size]
  have hv : ∀ n : Int, Utf8.valid n = scal n := by
    intro n
    unfold Utf8.valid scal
    rw [Bool.eq_iff_iff]
    simp only [Bool.or_eq_true, Bool.and_eq_true, decide_eq_true_eq]
    omega
  have hre : Utf8.runeError = 65533 := rfl
  have e2 : c2 s k = (((s.getD k 0).toNat % 32 * 64 + (s.getD (k + 1) 0).toNat % 64 : Nat) : Int) := by unfold c2 bat byteI; omega
  have e3 : c3 s k = (((s.getD k 0).toNat % 16 * 4096 + (s.getD (k + 1) 0).toNat % 64 * 64 + (s.getD (k + 2) 0).toNat % 64 : Nat) : Int) := by unfold c3 bat byteI; omega
  have e4 : c4 s k = (((s.getD k 0).toNat % 8 * 262144 + (s.getD (k + 1) 0).toNat % 64 * 4096 + (s.getD (k + 2) 0).toNat % 64 * 64 + (s.getD (k + 3) 0).toNat % 64 : Nat) : Int) := by unfold c4 bat byteI; omega
  have h := chainN (s.getD k 0).toNat (s.getD (k + 1) 0).toNat (s.getD (k + 2) 0).toNat (s.getD (k + 3) 0).toNat ((s.getD k 0).toNat % 32 * 64 + (s.getD (k + 1) 0).toNat % 64)
    ((s.getD k 0).toNat % 16 * 4096 + (s.getD (k + 1) 0).toNat % 64 * 64 + (s.getD (k + 2) 0).toNat % 64) ((s.getD k 0).toNat % 8 * 262144 + (s.getD (k + 1) 0).toNat % 64 * 4096 + (s.getD (k + 2) 0).toNat % 64 * 64 + (s.getD (k + 3) 0).toNat % 64) k s.length (scal (c3 s k)) (scal (c4 s k)) (bat s k) (bat s (k + 1)) (bat s (k + 2)) (bat s (k + 3)) (c2 s k) (c3 s k) (c4 s k) rfl rfl rfl rfl e2 e3 e4
  have hl : decRune s k = (if (s.getD k 0).toNat < 128 then ((s.getD k 0).toNat, 1) else if (s.getD k 0).toNat / 32 = 6 ∧ k + 1 < s.length ∧ (s.getD (k + 1) 0).toNat / 64 = 2 then (if (s.getD k 0).toNat % 32 * 64 + (s.getD (k + 1) 0).toNat % 64 ≥ 128 then ((s.getD k 0).toNat % 32 * 64 + (s.getD (k + 1) 0).toNat % 64, 2) else (65533, 1))
      else if ((s.getD k 0).toNat / 16 = 14 ∧ k + 1 < s.length ∧ (s.getD (k + 1) 0).toNat / 64 = 2) ∧ k + 2 < s.length ∧ (s.getD (k + 2) 0).toNat / 64 = 2 then (if (s.getD k 0).toNat % 16 * 4096 + (s.getD (k + 1) 0).toNat % 64 * 64 + (s.getD (k + 2) 0).toNat % 64 ≥ 2048 ∧ scal (c3 s k) = true then ((s.getD k 0).toNat % 16 * 4096 + (s.getD (k + 1) 0).toNat % 64 * 64 + (s.getD (k + 2) 0).toNat % 64, 3) else (65533, 1))
      else if (((s.getD k 0).toNat / 8 = 30 ∧ k + 1 < s.length ∧ (s.getD (k + 1) 0).toNat / 64 = 2) ∧ k + 2 < s.length ∧ (s.getD (k + 2) 0).toNat / 64 = 2) ∧ k + 3 < s.length ∧ (s.getD (k + 3) 0).toNat / 64 = 2 then (if (s.getD k 0).toNat % 8 * 262144 + (s.getD (k + 1) 0).toNat % 64 * 4096 + (s.getD (k + 2) 0).toNat % 64 * 64 + (s.getD (k + 3) 0).toNat % 64 ≥ 65536 ∧ scal (c4 s k) = true then ((s.getD k 0).toNat % 8 * 262144 + (s.getD (k + 1) 0).toNat % 64 * 4096 + (s.getD (k + 2) 0).toNat % 64 * 64 + (s.getD (k + 3) 0).toNat % 64, 4) else (65533, 1)) else (65533, 1)) := by
    unfold decRune Utf8.decode
    simp only [Nat.add_zero, hsz, get!_list, hv, ← e3, ← e4, hre, Bool.and_eq_true, beq_iff_eq, decide_eq_true_eq]
  have hr2 : runeAt s k = (if bat s k < 128 then (bat s k, 1, false) else if k + 1 < s.length ∧ bat s k / 32 = 6 ∧ bat s (k + 1) / 64 = 2 ∧ 128 ≤ c2 s k then (c2 s k, 2, false)
      else if (k + 2 < s.length ∧ bat s k / 16 = 14 ∧ bat s (k + 1) / 64 = 2 ∧ bat s (k + 2) / 64 = 2 ∧ 2048 ≤ c3 s k) ∧ scal (c3 s k) = true then (c3 s k, 3, false)
      else if (k + 3 < s.length ∧ bat s k / 8 = 30 ∧ bat s (k + 1) / 64 = 2 ∧ bat s (k + 2) / 64 = 2 ∧ bat s (k + 3) / 64 = 2 ∧ 65536 ≤ c4 s k) ∧ scal (c4 s k) = true then (c4 s k, 4, false) else (65533, 1, true)) := by
    unfold runeAt ut1 ut2 ut3 ut4
    simp only [Bool.and_eq_true, decide_eq_true_eq]
  rw [← hr2, ← hl] at h
  exact ⟨congrArg Prod.fst h, congrArg Prod.snd h⟩
end Go.Abs
/- The reference's reading of UTF-8. -/
namespace Go.Abs
set_option autoImplicit false

theorem w32 {x : Int} (h1 : -2147483648 ≤ x) (h2 : x ≤ 2147483647) : IntKind.i32.wrap x = x := by
  change (if (true && decide (x % (4294967296 : Int) ≥ (2147483648 : Int))) = true then x % (4294967296 : Int) - (4294967296 : Int) else x % (4294967296 : Int)) = x
  by_cases h : x % (4294967296 : Int) ≥ (2147483648 : Int)
  · rw [if_pos (by simp [h])]; omega
  · rw [if_neg (by simp [h])]; omega

def bytesI (r : Int) : List Int :=
  if r < 128 then [r] else if r < 2048 then [192 + r / 64, 128 + r % 64] else if r < 65536 then [224 + r / 4096, 128 + r / 64 % 64, 128 + r % 64] else [240 + r / 262144, 128 + r / 4096 % 64, 128 + r / 64 % 64, 128 + r % 64]

/-! does a text go on so? -/
/-! guessing by the low bits -/
end Go.Abs
/- The reference's piece at a place. -/
namespace Go.Abs
set_option autoImplicit false

theorem bytesI_len (r : Int) : (bytesI r).length = if r < 128 then 1 else if r < 2048 then 2 else if r < 65536 then 3 else 4 := by
  unfold bytesI
  split
  · rfl
  · split
    · rfl
    · split <;> rfl

end Go.Abs
/- The pieces of a text. -/
namespace Go.Abs
set_option autoImplicit false

theorem runeAt_width (s : List UInt8) (k : Nat) (hk : k < s.length) : 1 ≤ (runeAt s k).2.1 ∧ (runeAt s k).2.1 ≤ 4 ∧ (k : Int) + (runeAt s k).2.1 ≤ s.length := by
  unfold runeAt
  by_cases q1 : ut1 s k = true
  · rw [if_pos q1]; simp only; omega
  rw [if_neg q1]
  by_cases q2 : ut2 s k = true
  · rw [if_pos q2]; have := of_decide_eq_true q2; simp only; omega
  rw [if_neg q2]
  by_cases q3 : ut3 s k = true
  · rw [if_pos q3]
    unfold ut3 at q3
    rw [Bool.and_eq_true] at q3
    have := of_decide_eq_true q3.1; simp only; omega
  rw [if_neg q3]
  by_cases q4 : ut4 s k = true
  · rw [if_pos q4]
    unfold ut4 at q4
    rw [Bool.and_eq_true] at q4
    have := of_decide_eq_true q4.1; simp only; omega
  rw [if_neg q4]; simp only; omega

def wd (s : List UInt8) (k : Nat) : Nat := (runeAt s k).2.1.toNat
theorem wd_bound (s : List UInt8) (k : Nat) (hk : k < s.length) : 1 ≤ wd s k ∧ wd s k ≤ 4 ∧ k + wd s k ≤ s.length ∧ ((wd s k : Nat) : Int) = (runeAt s k).2.1 := by
  have := runeAt_width s k hk
  unfold wd; omega
theorem decRune_wd (s : List UInt8) (k : Nat) : (decRune s k).2 = wd s k := by
  have := (decRune_val s k).2
  unfold wd; omega
theorem decRune_rune (s : List UInt8) (k : Nat) : (((decRune s k).1 : Nat) : Int) = (runeAt s k).1 := (decRune_val s k).1

/-- The pieces from a place on. -/
def pcs (s : List UInt8) : Nat → Nat → List (Nat × (Int × (Int × Bool)))
  | 0, _ => []
  | n + 1, k => if k < s.length then (k, runeAt s k) :: pcs s n (k + wd s k) else []
def piecesOf (s : List UInt8) : List (Nat × (Int × (Int × Bool))) := pcs s s.length 0
def scalarsOf (s : List UInt8) : List Int := (piecesOf s).map (·.2.1)
def firstBad : List (Nat × (Int × (Int × Bool))) → Option Nat
  | [] => none
  | x :: l => if x.2.2.2 = true then some x.1 else firstBad l
def validOf (s : List UInt8) : Bool × Int := match firstBad (piecesOf s) with
  | none => (true, 0)
  | some k => (false, (k : Int))

theorem pcs_len (s : List UInt8) : ∀ (n k : Nat), (pcs s n k).length ≤ n
  | 0, _ => by simp [pcs]
  | n + 1, k => by
    unfold pcs
    split
    · simp only [List.length_cons]; have := pcs_len s n (k + wd s k); omega
    · simp

theorem scalarsOf_len (s : List UInt8) : (scalarsOf s).length ≤ s.length := by
  unfold scalarsOf piecesOf
  rw [List.length_map]
  exact pcs_len s s.length 0

def has (s : List UInt8) (c : Int) : Bool := (scalarsOf s).any fun x => x == c
/-! The program's. -/
theorem hasRune_go (s : List UInt8) (c : Int) : ∀ (n k : Nat), s.length ≤ k + n → k ≤ s.length → p_host_hasRune_1 s c s k = some (((pcs s n k).map (·.2.1)).any fun x => x == c)
  | 0, k, hn, hk => by
    rw [p_host_hasRune_1_eq, decide_eq_false (by omega), cond_false]; rfl
  | n + 1, k, hn, hk => by
    rw [p_host_hasRune_1_eq]
    unfold pcs
    by_cases h : k < s.length
    · have hw := wd_bound s k h
      rw [decide_eq_true h, cond_true, if_pos h, decRune_rune, decRune_wd, List.map_cons, List.any_cons, hasRune_go s c n (k + wd s k) (by omega) (by omega)]
      cases ((runeAt s k).1 == c) <;> rfl
    · rw [decide_eq_false h, cond_false, if_neg h]; rfl
theorem c_host_hasRune_val (s : List UInt8) (c : Int) : c_host_hasRune (s, c) = some (has s c) := by
  rw [c_host_hasRune_eq, p_host_hasRune_0_eq]
  exact hasRune_go s c s.length 0 (by omega) (by omega)

theorem bat_drop (s : List UInt8) (k i : Nat) : bat (s.drop k) i = bat s (k + i) := by
  unfold bat; simp [List.getD_eq_getElem?_getD]
theorem bat_drop0 (s : List UInt8) (k : Nat) : bat (s.drop k) 0 = bat s k := bat_drop s k 0
theorem bat_dropS (s : List UInt8) (k i : Nat) : bat (s.drop k) (0 + i) = bat s (k + i) := by rw [Nat.zero_add]; exact bat_drop s k i
theorem runeAt_drop (s : List UInt8) (k : Nat) (hk : k ≤ s.length) : runeAt (s.drop k) 0 = runeAt s k := by
  have e2 : c2 (s.drop k) 0 = c2 s k := by unfold c2; rw [bat_drop0, bat_dropS]
  have e3 : c3 (s.drop k) 0 = c3 s k := by unfold c3; rw [bat_drop0, bat_dropS, bat_dropS]
  have e4 : c4 (s.drop k) 0 = c4 s k := by unfold c4; rw [bat_drop0, bat_dropS, bat_dropS, bat_dropS]
  have hl : (s.drop k).length = s.length - k := List.length_drop ..
  have u1 : ut1 (s.drop k) 0 = ut1 s k := by unfold ut1; rw [bat_drop0]
  have u2 : ut2 (s.drop k) 0 = ut2 s k := by
    unfold ut2; apply decide_eq_decide.2; rw [e2, bat_drop0, bat_dropS, hl]; omega
  have u3 : ut3 (s.drop k) 0 = ut3 s k := by
    unfold ut3; rw [e3, bat_drop0, bat_dropS, bat_dropS, hl, Bool.eq_iff_iff, Bool.and_eq_true, Bool.and_eq_true, decide_eq_true_eq, decide_eq_true_eq]; exact and_congr_left fun _ => by omega
  have u4 : ut4 (s.drop k) 0 = ut4 s k := by
    unfold ut4; rw [e4, bat_drop0, bat_dropS, bat_dropS, bat_dropS, hl, Bool.eq_iff_iff, Bool.and_eq_true, Bool.and_eq_true, decide_eq_true_eq, decide_eq_true_eq]; exact and_congr_left fun _ => by omega
  unfold runeAt
  rw [u1, u2, u3, u4, e2, e3, e4, bat_drop0]

/-- utf.at -/
theorem c_utf_at_val (s : List UInt8) (k : Nat) (hk : k < s.length) : c_utf_at (s, (k : Int)) = some ((k : Int), ((runeAt s k).2.1, ((runeAt s k).1, (runeAt s k).2.2))) := by
  rw [c_utf_at_eq, p_utf_at_0_eq]
  simp only
  rw [cut_from (by omega), cond_true, cutList_from, c_utf8_DecodeRuneInString_eq, primDecode]
  have hne : (s.drop k).isEmpty = false := by
    cases hd : s.drop k with
    | nil => have := List.drop_eq_nil_iff.1 hd; omega
    | cons => rfl
  rw [hne, cond_false, Option.bind_some]
  simp only
  rw [(decRune_val (s.drop k) 0).1, (decRune_val (s.drop k) 0).2, runeAt_drop s k (by omega)]
  have hb : (runeAt s k).2.2 = (((runeAt s k).1 == 65533) && ((runeAt s k).2.1 == 1)) := by
    unfold runeAt
    by_cases q1 : ut1 s k = true
    · rw [if_pos q1]
      have := of_decide_eq_true q1
      simp only
      rw [show (bat s k == 65533) = false from beq_eq_false_iff_ne.2 (by omega)]; rfl
    rw [if_neg q1]
    by_cases q2 : ut2 s k = true
    · rw [if_pos q2]; simp
    rw [if_neg q2]
    by_cases q3 : ut3 s k = true
    · rw [if_pos q3]; simp
    rw [if_neg q3]
    by_cases q4 : ut4 s k = true
    · rw [if_pos q4]; simp
    rw [if_neg q4]; rfl
  rw [hb]
  cases ((runeAt s k).1 == 65533) <;> rfl

theorem utfValid_go (s : List UInt8) : ∀ (n k : Nat), s.length ≤ k + n → k ≤ s.length → p_utf_Valid_1 s s k = some (match firstBad (pcs s n k) with | none => (true, 0) | some k => (false, (k : Int)))
  | 0, k, hn, hk => by
    rw [p_utf_Valid_1_eq, decide_eq_false (by omega), cond_false]; rfl
  | n + 1, k, hn, hk => by
    rw [p_utf_Valid_1_eq]
    unfold pcs
    by_cases h : k < s.length
    · have hw := wd_bound s k h
      rw [decide_eq_true h, cond_true, if_pos h, c_utf_at_val s k h, Option.bind_some, decRune_wd, firstBad]
      simp only
      cases hb : (runeAt s k).2.2 with
      | true => rw [cond_true, if_pos rfl]
      | false => rw [cond_false, if_neg (by simp), utfValid_go s n (k + wd s k) (by omega) (by omega)]
    · rw [decide_eq_false h, cond_false, if_neg h]; rfl
theorem c_utf_Valid_val (s : List UInt8) : c_utf_Valid s = some (validOf s) := by
  rw [c_utf_Valid_eq, p_utf_Valid_0_eq]
  exact utfValid_go s s.length 0 (by omega) (by omega)
end Go.Abs
/- Texts put right, by the web's reading. -/
namespace Go.Abs
set_option autoImplicit false

end Go.Abs
/- utf.WebFix. -/
namespace Go.Abs
set_option autoImplicit false

/-! a rune's bytes -/
end Go.Abs
/- utf.WebFix, whole. -/
namespace Go.Abs
set_option autoImplicit false

theorem runeAt_scal (s : List UInt8) (k : Nat) : scal (runeAt s k).1 = true := by
  have h0 := bat_lt s k
  have h1 := bat_lt s (k + 1)
  unfold runeAt
  by_cases q1 : ut1 s k = true
  · rw [if_pos q1]
    have := of_decide_eq_true q1
    exact decide_eq_true (by simp only; omega)
  rw [if_neg q1]
  by_cases q2 : ut2 s k = true
  · rw [if_pos q2]
    have : 0 ≤ c2 s k ∧ c2 s k < 2048 := by unfold c2; omega
    exact decide_eq_true (by simp only; omega)
  rw [if_neg q2]
  by_cases q3 : ut3 s k = true
  · rw [if_pos q3]
    unfold ut3 at q3
    rw [Bool.and_eq_true] at q3
    exact q3.2
  rw [if_neg q3]
  by_cases q4 : ut4 s k = true
  · rw [if_pos q4]
    unfold ut4 at q4
    rw [Bool.and_eq_true] at q4
    exact q4.2
  rw [if_neg q4]; rfl
theorem bytesI_le4 (r : Int) : 1 ≤ (bytesI r).length ∧ (bytesI r).length ≤ 4 := by
  rw [bytesI_len]; split
  · omega
  · split
    · omega
    · split <;> omega

/-- The bytes of runes. -/
def runesB (l : List Int) : List Int := l.flatMap bytesI
def textOf (l : List Int) : List UInt8 := strOf (runesB l)

end Go.Abs
