/- Part L4 of the proof: see the last text of the claim. No condition of its own. -/
import Derived.Test.YtddagflhafkbnaaGreatDoorL3
import Derived.Test.YtddagflhafkbnaaGreatDoorK8
set_option linter.all false
namespace Go.Abs
set_option autoImplicit false

def caps : List UInt8 := [48, 49, 50, 51, 52, 53, 54, 55, 56, 57, 65, 66, 67, 68, 69, 70]
theorem pnib_all : (List.range 256).all (fun n => decide ((let i := Lib.indexByte caps (UInt8.ofNat (n : Int).toNat); if i ≥ 0 then i else if 97 ≤ (n : Int) ∧ (n : Int) ≤ 102 then (n : Int) - 87 else -1) = nib (n : Int))) = true := by kernel_rfl
theorem c_percent_nibble_val (b : Int) (h0 : 0 ≤ b) (h1 : b ≤ 255) : c_percent_nibble b = some (nib b) := by
  obtain ⟨n, rfl⟩ := Int.eq_ofNat_of_zero_le h0
  have := of_decide_eq_true (List.all_eq_true.1 pnib_all n (List.mem_range.2 (by omega)))
  rw [c_percent_nibble_eq, Zl3_eq, c_strings_IndexByte_eq, primIndexByte]
  rw [show ([(48 : UInt8), (49 : UInt8), (50 : UInt8), (51 : UInt8), (52 : UInt8), (53 : UInt8), (54 : UInt8), (55 : UInt8), (56 : UInt8), (57 : UInt8), (65 : UInt8), (66 : UInt8), (67 : UInt8), (68 : UInt8), (69 : UInt8), (70 : UInt8)] : List UInt8) = caps from rfl, Option.bind_some]
  simp only at this
  rw [← this]
  by_cases a : Lib.indexByte caps (UInt8.ofNat (n : Int).toNat) ≥ 0
  · rw [decide_eq_true a, cond_true, if_pos a]
  · rw [decide_eq_false a, cond_false, if_neg a]
    by_cases b : 97 ≤ (n : Int)
    · rw [show decide ((n : Int) ≥ 97) = true from decide_eq_true b, cond_true]
      by_cases c : (n : Int) ≤ 102
      · rw [decide_eq_true c, cond_true, if_pos ⟨b, c⟩, w8 (by omega) (by omega), w64 (x := (n : Int) - 97) (by omega) (by omega), w64 (by omega) (by omega)]
        congr 1; omega
      · rw [decide_eq_false c, cond_false, if_neg (fun h => c h.2)]
    · rw [show decide ((n : Int) ≥ 97) = false from decide_eq_false b, cond_false, if_neg (fun h => b h.1)]

def trip (s : List UInt8) (k : Nat) : Int := if k + 2 < s.length ∧ bat s k = 37 ∧ 0 ≤ nib (bat s (k + 1)) ∧ 0 ≤ nib (bat s (k + 2)) then nib (bat s (k + 1)) * 16 + nib (bat s (k + 2)) else -1
theorem trip_le (s : List UInt8) (k : Nat) : -1 ≤ trip s k ∧ trip s k ≤ 255 := by
  have := nib_le (bat s (k + 1))
  have := nib_le (bat s (k + 2))
  unfold trip; split <;> omega

theorem or16 {h l : Int} (h0 : 0 ≤ h ∧ h ≤ 15) (l0 : 0 ≤ l ∧ l ≤ 15) : bits Go.BinOp.or IntKind.i64 (shl IntKind.i64 h 4) l = h * 16 + l := by
  rw [show shl IntKind.i64 h 4 = h * 16 from shl64 (y := 4) (by omega) (by omega) (by omega)]
  obtain ⟨m, rfl⟩ := Int.eq_ofNat_of_zero_le h0.1
  obtain ⟨n, rfl⟩ := Int.eq_ofNat_of_zero_le l0.1
  have e1 : (BitVec.ofInt 64 ((m : Int) * 16)).toNat = 2 ^ 4 * m := by
    rw [BitVec.toNat_ofInt]; omega
  have e2 : (BitVec.ofInt 64 (n : Int)).toNat = n := by
    rw [BitVec.toNat_ofInt]; omega
  have e : (BitVec.ofInt 64 ((m : Int) * 16) ||| BitVec.ofInt 64 (n : Int)).toNat = m * 16 + n := by
    rw [BitVec.toNat_or, e1, e2, ← Nat.two_pow_add_eq_or_of_lt (by omega)]; omega
  show IntKind.i64.wrap (((BitVec.ofInt 64 ((m : Int) * 16) ||| BitVec.ofInt 64 (n : Int)).toNat : Nat) : Int) = _
  rw [e, w64 (by omega) (by omega)]
  omega

theorem c_percent_triple_val (s : List UInt8) (k : Nat) (hs : s.length ≤ 1073741824) (hk : k < s.length) : c_percent_triple (s, (k : Int)) = some (trip s k) := by
  have e1 : IntKind.i64.wrap ((k : Int) + 1) = ((k + 1 : Nat) : Int) := by rw [w64 (by omega) (by omega)]; omega
  have e2 : IntKind.i64.wrap ((k : Int) + 2) = ((k + 2 : Nat) : Int) := by rw [w64 (by omega) (by omega)]; omega
  have b1 := bat_lt s (k + 1)
  have b2 := bat_lt s (k + 2)
  have n1 := nib_le (bat s (k + 1))
  have n2 := nib_le (bat s (k + 2))
  rw [c_percent_triple_eq, Zu2_eq]
  simp only
  rw [e1, e2]
  unfold trip
  by_cases a : k + 2 < s.length
  · rw [show decide (((k + 2 : Nat) : Int) ≥ (s.length : Int)) = false from decide_eq_false (by omega), cond_false, inside_nat, decide_eq_true hk, cond_true, Int.toNat_natCast, Int.toNat_natCast, Int.toNat_natCast,
      show (((s.getD k 0).toNat : Nat) : Int) = bat s k from rfl, show (((s.getD (k + 1) 0).toNat : Nat) : Int) = bat s (k + 1) from rfl, show (((s.getD (k + 2) 0).toNat : Nat) : Int) = bat s (k + 2) from rfl]
    by_cases b : bat s k = 37
    · rw [show (bat s k != 37) = false from by simpa using b, cond_false, inside_nat, decide_eq_true (by omega), cond_true, inside_nat, decide_eq_true a, cond_true, c_percent_nibble_val _ b1.1 b1.2, Option.bind_some, c_percent_nibble_val _ b2.1 b2.2, Option.bind_some]
      by_cases c : nib (bat s (k + 1)) < 0
      · rw [decide_eq_true c, cond_true, if_neg (by omega)]
      · rw [decide_eq_false c, cond_false]
        by_cases d : nib (bat s (k + 2)) < 0
        · rw [decide_eq_true d, cond_true, if_neg (by omega)]
        · rw [decide_eq_false d, cond_false, if_pos (by omega), or16 (by omega) (by omega)]
    · rw [show (bat s k != 37) = true from by simpa using b, cond_true, if_neg (fun h => b h.2.1)]
  · rw [show decide (((k + 2 : Nat) : Int) ≥ (s.length : Int)) = true from decide_eq_true (by omega), cond_true, if_neg (fun h => a h.1)]

def pdec (s : List UInt8) : Nat → Nat → List Int
  | 0, _ => []
  | n + 1, k => if k < s.length then (if 0 ≤ trip s k then trip s k :: pdec s n (k + 3) else bat s k :: pdec s n (k + 1)) else []
theorem pdec_len (s : List UInt8) : ∀ (n k : Nat), (pdec s n k).length ≤ n
  | 0, _ => by simp [pdec]
  | n + 1, k => by
    unfold pdec
    split
    · split
      · simp only [List.length_cons]; have := pdec_len s n (k + 3); omega
      · simp only [List.length_cons]; have := pdec_len s n (k + 1); omega
    · simp
theorem Decode_go (s : List UInt8) (hs : s.length ≤ 1073741824) : ∀ (n k : Nat) (r : List Int), s.length ≤ k + n → k ≤ s.length → r.length + n ≤ 1073741824 → Z32 s (k : Int) r = some (r ++ pdec s n k)
  | 0, k, r, hn, hk, hr => by
    rw [Z32_eq, lt_nat, decide_eq_false (by omega), cond_false, pdec, List.append_nil]
  | n + 1, k, r, hn, hk, hr => by
    rw [Z32_eq, lt_nat]
    unfold pdec
    by_cases c : k < s.length
    · have ht := trip_le s k
      rw [decide_eq_true c, cond_true, if_pos c, c_percent_triple_val s k hs c, Option.bind_some]
      by_cases d : 0 ≤ trip s k
      · have hk2 : k + 2 < s.length := by
          unfold trip at d
          split at d
          · rename_i h; exact h.1
          · omega
        rw [show decide (trip s k ≥ 0) = true from decide_eq_true d, cond_true, if_pos d, w8 d ht.2, show decide (r.length + [trip s k].length ≤ lim) = true from decide_eq_true (by simp [lim]; omega), cond_true,
          w64 (x := (k : Int) + 2) (by omega) (by omega), w64 (by omega) (by omega), show (k : Int) + 2 + 1 = ((k + 3 : Nat) : Int) from by omega, Decode_go s hs n (k + 3) _ (by omega) (by omega) (by simp; omega), List.append_assoc]
        rfl
      · rw [show decide (trip s k ≥ 0) = false from decide_eq_false d, cond_false, if_neg d, inside_nat, decide_eq_true c, cond_true, Int.toNat_natCast, show (((s.getD k 0).toNat : Nat) : Int) = bat s k from rfl,
          show decide (r.length + [bat s k].length ≤ lim) = true from decide_eq_true (by simp [lim]; omega), cond_true, w64 (by omega) (by omega), show (k : Int) + 1 = ((k + 1 : Nat) : Int) from by omega, Decode_go s hs n (k + 1) _ (by omega) (by omega) (by simp; omega), List.append_assoc]
        rfl
    · rw [decide_eq_false c, cond_false, if_neg c, List.append_nil]
def decText (s : List UInt8) : List UInt8 := webFix (strOf (pdec s s.length 0))
theorem c_percent_DecodeText_val (s : List UInt8) (hs : s.length ≤ 1000000000) : c_percent_DecodeText s = some (decText s) := by
  rw [c_percent_DecodeText_eq, Zm1_eq, c_percent_Decode_eq, Z22_eq]
  have h := Decode_go s (by omega) s.length 0 [] (by omega) (by omega) (by simp; omega)
  have hl := pdec_len s s.length 0
  rw [show ((0 : Nat) : Int) = 0 from rfl] at h
  rw [h, Option.bind_some, List.nil_append, c_utf_WebFix_val _ (by unfold strOf; rw [List.length_map]; omega)]
  rfl
theorem esc_all : (List.range 256).all (fun n => inside (shr IntKind.u8 (n : Int) 4) 16 && (inside (bits Go.BinOp.and IntKind.u8 (n : Int) 15) 16)) = true := by kernel_rfl
def esc (c : Int) : List Int := [37, (((caps.getD (shr IntKind.u8 c 4).toNat 0).toNat : Nat) : Int), (((caps.getD (bits Go.BinOp.and IntKind.u8 c 15).toNat 0).toNat : Nat) : Int)]
theorem c_percent_escape_val (l : List Int) (c : Int) (hl : l.length ≤ 4294967200) (h0 : 0 ≤ c) (h1 : c ≤ 255) : c_percent_escape (l, c) = some (l ++ esc c) := by
  obtain ⟨n, rfl⟩ := Int.eq_ofNat_of_zero_le h0
  have := List.all_eq_true.1 esc_all n (List.mem_range.2 (by omega))
  rw [Bool.and_eq_true] at this
  rw [c_percent_escape_eq, Zn2_eq]
  simp only
  rw [show ([(48 : UInt8), (49 : UInt8), (50 : UInt8), (51 : UInt8), (52 : UInt8), (53 : UInt8), (54 : UInt8), (55 : UInt8), (56 : UInt8), (57 : UInt8), (65 : UInt8), (66 : UInt8), (67 : UInt8), (68 : UInt8), (69 : UInt8), (70 : UInt8)] : List UInt8) = caps from rfl, show caps.length = 16 from rfl, this.1, cond_true, this.2, cond_true]
  rw [show decide (l.length + [(37 : Int), (((caps.getD (shr IntKind.u8 (n : Int) 4).toNat 0).toNat : Nat) : Int), (((caps.getD (bits Go.BinOp.and IntKind.u8 (n : Int) 15).toNat 0).toNat : Nat) : Int)].length ≤ lim) = true from decide_eq_true (by simp [lim]; omega), cond_true]
  rfl

def ctlSet : List Bool := (List.range 256).map fun c => decide (c < 32) || decide (126 < c)
def fstSet (o : Option (List (List Bool))) : Option (List Bool) := match o with
  | some l => some (l.getD 1 [])
  | none => none
theorem all_run : fstSet (enterF E (run E 20000) 221 ()) = some ctlSet := by kernel_rfl
theorem percent_all_val : ∃ y : List (List Bool), c_percent_all () = some y ∧ y.getD 1 [] = ctlSet := by
  have h := all_run
  cases hr : enterF E (run E 20000) 221 () with
  | none => rw [hr] at h; cases h
  | some y =>
    rw [hr] at h
    exact ⟨y, Call_of E hr, Option.some.inj h⟩
def encB (c : Int) : List Int := if ctlSet.getD c.toNat false = true then esc c else [c]
theorem encB_len (c : Int) : 1 ≤ (encB c).length ∧ (encB c).length ≤ 3 := by unfold encB esc; split <;> simp
theorem Encode_go (b : List Int) (hb : ∀ x ∈ b, 0 ≤ x ∧ x ≤ 255) (hl : b.length ≤ 1000000000) : ∀ (n i : Nat) (r : List Int), i + n = b.length → r.length ≤ 3 * i → Z02 1 b b (b.length : Int) (i : Int) ctlSet r = some (strOf (r ++ (b.drop i).flatMap encB), 0)
  | 0, i, r, h, hr => by
    have : i = b.length := by omega
    subst this
    rw [Z02_eq, lt_nat, decide_eq_false (Nat.lt_irrefl _), cond_false, List.drop_length]; simp
  | n + 1, i, r, h, hr => by
    have hi : i < b.length := by omega
    have hw : IntKind.i64.wrap ((i : Int) + 1) = ((i + 1 : Nat) : Int) := by rw [w64 (by omega) (by omega)]; omega
    have hg : List.getD b (Int.toNat (i : Int)) (Ty.zero (.int .u8)) = b[i] := by
      rw [Int.toNat_natCast, List.getD_eq_getElem?_getD, List.getElem?_eq_getElem hi]; rfl
    have hx := hb _ (List.getElem_mem hi)
    have he := encB_len b[i]
    have hin : inside b[i] 256 = true := by unfold inside; rw [decide_eq_true hx.1, decide_eq_true (by omega)]; rfl
    rw [Z02_eq, lt_nat, decide_eq_true hi, cond_true, inside_nat, decide_eq_true hi, cond_true, hg, hin, cond_true, hw, show (Ty.zero .bool : Bool) = false from rfl, List.drop_eq_getElem_cons hi, List.flatMap_cons]
    cases hc : ctlSet.getD b[i].toNat false with
    | true =>
      have e : encB b[i] = esc b[i] := by unfold encB; rw [if_pos hc]
      rw [cond_true, c_percent_escape_val r _ (by omega) hx.1 hx.2, Option.bind_some, Encode_go b hb hl n (i + 1) _ (by omega) (by rw [List.length_append, ← e]; omega), e, List.append_assoc]
    | false =>
      have e : encB b[i] = [b[i]] := by unfold encB; rw [if_neg (by rw [hc]; simp)]
      rw [cond_false, show decide (r.length + [b[i]].length ≤ lim) = true from decide_eq_true (by simp [lim]; omega), cond_true, Encode_go b hb hl n (i + 1) _ (by omega) (by rw [List.length_append, ← e]; omega), e, List.append_assoc]
def encText (s : List UInt8) : List UInt8 := strOf ((bytesOf (webFix s)).flatMap encB)
theorem c_percent_EncodeText_val (s : List UInt8) (hs : s.length ≤ 200000000) : c_percent_EncodeText (1, s) = some (encText s, 0) := by
  have hl := webFix_len s
  have hbl : (bytesOf (webFix s)).length = (webFix s).length := by unfold bytesOf; rw [List.length_map]
  rw [c_percent_EncodeText_eq, Zl1_eq]
  simp only
  rw [c_utf_WebFix_val s (by omega), Option.bind_some, c_percent_Encode_eq, Zz1_eq]
  simp only
  rw [c_percent_isSet_eq, Zm2_eq, show decide ((1 : Int) ≥ 1) = true from rfl, cond_true, show decide ((1 : Int) ≤ 8) = true from rfl, Option.bind_some, Bool.not_true, cond_false]
  obtain ⟨y, h1, h2⟩ := percent_all_val
  rw [h1, Option.bind_some, show inside (1 : Int) 9 = true from rfl, cond_true]
  have hget : List.getD y (Int.toNat 1) (Ty.zero (.arr 256 .bool)) = ctlSet := by
    rw [← h2]
    cases hy : y[1]? with
    | none =>
      exfalso
      have : y.getD 1 [] = [] := by rw [List.getD_eq_getElem?_getD, hy]; rfl
      rw [h2] at this
      exact absurd (congrArg List.length this) (by simp [ctlSet])
    | some z =>
      have e : Int.toNat 1 = 1 := rfl
      rw [e, List.getD_eq_getElem?_getD, List.getD_eq_getElem?_getD, hy]; rfl
  rw [hget]
  have hb : ∀ x ∈ bytesOf (webFix s), 0 ≤ x ∧ x ≤ 255 := by
    intro x hx
    obtain ⟨b, _, rfl⟩ := List.mem_map.1 hx
    exact byteI_lt b
  have := Encode_go (bytesOf (webFix s)) hb (by omega) (bytesOf (webFix s)).length 0 [] (by omega) (by simp)
  rw [show ((0 : Nat) : Int) = 0 from rfl] at this
  rw [this]; rfl
end Go.Abs
namespace Go.Abs
set_option autoImplicit false

theorem piece_high (s : List UInt8) (k : Nat) (hk : k < s.length) (h : ¬ ut1 s k = true) : 128 ≤ (runeAt s k).1 ∧ ∀ j, j < wd s k → 128 ≤ bat s (k + j) := by
  have hb0 : 128 ≤ bat s k := by
    unfold ut1 at h
    rw [decide_eq_true_eq] at h; omega
  unfold wd runeAt
  rw [if_neg h]
  by_cases q2 : ut2 s k = true
  · rw [if_pos q2]
    have := of_decide_eq_true q2
    refine ⟨this.2.2.2, fun j hj => ?_⟩
    have hj : j < 2 := hj
    have e : j = 0 ∨ j = 1 := by omega
    rcases e with rfl | rfl
    · exact hb0
    · omega
  rw [if_neg q2]
  by_cases q3 : ut3 s k = true
  · rw [if_pos q3]
    unfold ut3 at q3
    rw [Bool.and_eq_true] at q3
    have := of_decide_eq_true q3.1
    refine ⟨by have := this.2.2.2.2; dsimp only; omega, fun j hj => ?_⟩
    have hj : j < 3 := hj
    have e : j = 0 ∨ j = 1 ∨ j = 2 := by omega
    rcases e with rfl | rfl | rfl
    · exact hb0
    · omega
    · omega
  rw [if_neg q3]
  by_cases q4 : ut4 s k = true
  · rw [if_pos q4]
    unfold ut4 at q4
    rw [Bool.and_eq_true] at q4
    have := of_decide_eq_true q4.1
    refine ⟨by have := this.2.2.2.2.2; dsimp only; omega, fun j hj => ?_⟩
    have hj : j < 4 := hj
    have e : j = 0 ∨ j = 1 ∨ j = 2 ∨ j = 3 := by omega
    rcases e with rfl | rfl | rfl | rfl
    · exact hb0
    · omega
    · omega
    · omega
  rw [if_neg q4]
  refine ⟨by dsimp only; omega, fun j hj => ?_⟩
  have hj : j < 1 := hj
  have e : j = 0 := by omega
  subst e; exact hb0
theorem piece_low (s : List UInt8) (k : Nat) (h : ut1 s k = true) : (runeAt s k).1 = bat s k ∧ wd s k = 1 := by
  unfold wd runeAt; rw [if_pos h]; exact ⟨rfl, rfl⟩

theorem drop_bat (s : List UInt8) (k : Nat) (hk : k < s.length) : s.drop k = s[k] :: s.drop (k + 1) ∧ byteI s[k] = bat s k := by
  refine ⟨List.drop_eq_getElem_cons hk, ?_⟩
  unfold bat; rw [List.getD_eq_getElem?_getD, List.getElem?_eq_getElem hk]; rfl
theorem any_skip (s : List UInt8) (P : Int → Bool) (hP : ∀ x, 128 ≤ x → P x = false) : ∀ (w k : Nat), k + w ≤ s.length → (∀ j, j < w → 128 ≤ bat s (k + j)) → (s.drop k).any (fun b => P (byteI b)) = (s.drop (k + w)).any (fun b => P (byteI b))
  | 0, k, _, _ => rfl
  | w + 1, k, h, hj => by
    obtain ⟨h1, h2⟩ := drop_bat s k (by omega)
    have h0 := hj 0 (by omega)
    rw [Nat.add_zero] at h0
    rw [h1, List.any_cons, h2, hP _ h0, Bool.false_or, any_skip s P hP w (k + 1) (by omega) (fun j hw => by have := hj (j + 1) (by omega); rwa [show k + 1 + j = k + (j + 1) from by omega])]
    rw [show k + 1 + w = k + (w + 1) from by omega]
theorem any_low (s : List UInt8) (P : Int → Bool) (hP : ∀ x, 128 ≤ x → P x = false) : ∀ (n k : Nat), s.length ≤ k + n → ((pcs s n k).map (·.2.1)).any P = (s.drop k).any (fun b => P (byteI b))
  | 0, k, h => by rw [List.drop_eq_nil_of_le (by omega)]; rfl
  | n + 1, k, h => by
    unfold pcs
    by_cases c : k < s.length
    · have hw := wd_bound s k c
      rw [if_pos c, List.map_cons, List.any_cons, any_low s P hP n (k + wd s k) (by omega)]
      by_cases q : ut1 s k = true
      · obtain ⟨e1, e2⟩ := piece_low s k q
        obtain ⟨h1, h2⟩ := drop_bat s k c
        rw [e2, h1, List.any_cons, h2]
        dsimp only
        rw [e1]
      · obtain ⟨e1, e2⟩ := piece_high s k c q
        rw [any_skip s P hP (wd s k) k hw.2.2.1 e2]
        dsimp only
        rw [hP _ e1, Bool.false_or]
    · rw [if_neg c, List.drop_eq_nil_of_le (by omega)]; rfl
theorem any_high (s : List UInt8) : ∀ (n k : Nat), s.length ≤ k + n → ((pcs s n k).map (·.2.1)).any (fun x => decide (127 < x)) = (s.drop k).any (fun b => decide (127 < byteI b))
  | 0, k, h => by rw [List.drop_eq_nil_of_le (by omega)]; rfl
  | n + 1, k, h => by
    unfold pcs
    by_cases c : k < s.length
    · have hw := wd_bound s k c
      obtain ⟨h1, h2⟩ := drop_bat s k c
      rw [if_pos c, List.map_cons, List.any_cons, any_high s n (k + wd s k) (by omega), h1, List.any_cons, h2]
      dsimp only
      by_cases q : ut1 s k = true
      · obtain ⟨e1, e2⟩ := piece_low s k q
        rw [e2, e1]
      · obtain ⟨e1, e2⟩ := piece_high s k c q
        have hb := e2 0 (by omega)
        rw [Nat.add_zero] at hb
        rw [decide_eq_true (show 127 < (runeAt s k).1 by omega), decide_eq_true (show 127 < bat s k by omega), Bool.true_or, Bool.true_or]
    · rw [if_neg c, List.drop_eq_nil_of_le (by omega)]; rfl
def basicB (s : List UInt8) : Bool := !(s.any fun b => decide (127 < byteI b))

def IdxOK (b : Bool) (o : Option Int) : Prop := ∃ y : Int, o = some y ∧ decide (y ≥ 0) = b
theorem idx_lt {b : Bool} {y : Int} (h : decide (y ≥ 0) = b) : decide (y < 0) = !b := by
  subst h
  by_cases c : y ≥ 0
  · rw [decide_eq_true c, decide_eq_false (by omega)]; rfl
  · rw [decide_eq_false c, decide_eq_true (by omega)]; rfl
theorem hostIdx_go (s : List UInt8) : ∀ (n k : Nat), s.length ≤ k + n → k ≤ s.length → IdxOK (((pcs s n k).map (·.2.1)).any fun x => decide (127 < x)) (Z43 s () true s k)
  | 0, k, h, hk => by
    rw [Z43_eq, decide_eq_false (by omega), cond_false]
    exact ⟨-1, rfl, rfl⟩
  | n + 1, k, h, hk => by
    rw [Z43_eq]
    unfold pcs
    by_cases c : k < s.length
    · have hw := wd_bound s k c
      rw [decide_eq_true c, cond_true, if_pos c, c_host_basic_1_eq, Zv2_eq, Option.bind_some, decRune_rune, decRune_wd, List.map_cons, List.any_cons]
      dsimp only
      by_cases d : (127 : Int) < (runeAt s k).1
      · rw [show decide ((runeAt s k).1 > 127) = true from decide_eq_true d, show (true == true) = true from rfl, cond_true, Bool.true_or]
        exact ⟨_, rfl, decide_eq_true (by omega)⟩
      · rw [show decide ((runeAt s k).1 > 127) = false from decide_eq_false d, show (false == true) = false from rfl, cond_false, Bool.false_or]
        exact hostIdx_go s n (k + wd s k) (by omega) (by omega)
    · rw [decide_eq_false c, cond_false, if_neg c]
      exact ⟨-1, rfl, rfl⟩
theorem c_host_basic_val (s : List UInt8) : c_host_basic s = some (basicB s) := by
  rw [c_host_basic_eq, Z72_eq, c_strings_IndexFunc_eq, Z92_eq, c_strings_indexFunc_eq, Z33_eq]
  obtain ⟨y, h1, h2⟩ := hostIdx_go s s.length 0 (by omega) (by omega)
  rw [any_high s s.length 0 (by omega), List.drop_zero] at h2
  simp only
  rw [h1]
  simp only [Option.bind_some]
  rw [idx_lt h2]; rfl
theorem punyIdx_go (s : List UInt8) : ∀ (n k : Nat), s.length ≤ k + n → k ≤ s.length → IdxOK (((pcs s n k).map (·.2.1)).any fun x => decide (127 < x)) (Z63 s () true s k)
  | 0, k, h, hk => by
    rw [Z63_eq, decide_eq_false (by omega), cond_false]
    exact ⟨-1, rfl, rfl⟩
  | n + 1, k, h, hk => by
    rw [Z63_eq]
    unfold pcs
    by_cases c : k < s.length
    · have hw := wd_bound s k c
      rw [decide_eq_true c, cond_true, if_pos c, c_puny_basic_1_eq, Zg3_eq, Option.bind_some, decRune_rune, decRune_wd, List.map_cons, List.any_cons]
      dsimp only
      by_cases d : (127 : Int) < (runeAt s k).1
      · rw [show decide ((runeAt s k).1 > 127) = true from decide_eq_true d, show (true == true) = true from rfl, cond_true, Bool.true_or]
        exact ⟨_, rfl, decide_eq_true (by omega)⟩
      · rw [show decide ((runeAt s k).1 > 127) = false from decide_eq_false d, show (false == true) = false from rfl, cond_false, Bool.false_or]
        exact punyIdx_go s n (k + wd s k) (by omega) (by omega)
    · rw [decide_eq_false c, cond_false, if_neg c]
      exact ⟨-1, rfl, rfl⟩
theorem c_puny_basic_val (s : List UInt8) : c_puny_basic s = some (basicB s) := by
  rw [c_puny_basic_eq, Ze2_eq, c_strings_IndexFunc__puny_basic_1_eq, Za2_eq, c_strings_indexFunc__puny_basic_1_eq, Z53_eq]
  obtain ⟨y, h1, h2⟩ := punyIdx_go s s.length 0 (by omega) (by omega)
  rw [any_high s s.length 0 (by omega), List.drop_zero] at h2
  simp only
  rw [h1]
  simp only [Option.bind_some]
  rw [idx_lt h2]; rfl

def dotI (x : Int) : Bool := x == 46 || (x == 12290 || (x == 65294 || x == 65377))
theorem c_host_dot_val (x : Int) : c_host_dot x = some (dotI x) := by
  rw [c_host_dot_eq, Zp1_eq]
  unfold dotI
  cases (x == 46) <;> cases (x == 12290) <;> cases (x == 65294) <;> rfl
theorem dotIdx_go (s : List UInt8) : ∀ (n k : Nat), s.length ≤ k + n → k ≤ s.length → IdxOK (((pcs s n k).map (·.2.1)).any dotI) (Z83 s () true s k)
  | 0, k, h, hk => by
    rw [Z83_eq, decide_eq_false (by omega), cond_false]
    exact ⟨-1, rfl, rfl⟩
  | n + 1, k, h, hk => by
    rw [Z83_eq]
    unfold pcs
    by_cases c : k < s.length
    · have hw := wd_bound s k c
      rw [decide_eq_true c, cond_true, if_pos c, c_host_dot_val, Option.bind_some, decRune_rune, decRune_wd, List.map_cons, List.any_cons]
      dsimp only
      cases dotI (runeAt s k).1 with
      | true =>
        rw [show (true == true) = true from rfl, cond_true, Bool.true_or]
        exact ⟨_, rfl, decide_eq_true (by omega)⟩
      | false =>
        rw [show (false == true) = false from rfl, cond_false, Bool.false_or]
        exact dotIdx_go s n (k + wd s k) (by omega) (by omega)
    · rw [decide_eq_false c, cond_false, if_neg c]
      exact ⟨-1, rfl, rfl⟩
def dotted (s : List UInt8) : Bool := (scalarsOf s).any dotI
theorem c_dotIdx_val (s : List UInt8) : IdxOK (dotted s) (c_strings_IndexFunc__host_dot (s, ())) := by
  rw [c_strings_IndexFunc__host_dot_eq, Zb2_eq, c_strings_indexFunc__host_dot_eq, Z73_eq]
  obtain ⟨y, h1, h2⟩ := dotIdx_go s s.length 0 (by omega) (by omega)
  simp only
  rw [h1]
  exact ⟨y, rfl, h2⟩
end Go.Abs
namespace Go.Abs
set_option autoImplicit false

def forb : List UInt8 := [0, 9, 10, 13, 32, 35, 47, 58, 60, 62, 63, 64, 91, 92, 93, 94, 124]
def forbI (x : Int) : Bool := forb.any fun b => byteI b == x
theorem forb_high (x : Int) (h : 128 ≤ x) : forbI x = false := by
  unfold forbI
  rw [List.any_eq_false]
  intro b hb
  have : byteI b < 128 := by
    have : ∀ b ∈ forb, byteI b < 128 := by decide
    exact this b hb
  simp only [beq_iff_eq]; omega
theorem forb_all : (List.range 128).all (fun n => decide (Lib.indexByte forb (UInt8.ofNat (n : Int).toNat) ≥ 0) == forbI (n : Int)) = true := by kernel_rfl
theorem forb_low (x : Int) (h0 : 0 ≤ x) (h1 : x < 128) : decide (Lib.indexByte forb (UInt8.ofNat x.toNat) ≥ 0) = forbI x := by
  obtain ⟨n, rfl⟩ := Int.eq_ofNat_of_zero_le h0
  have := List.all_eq_true.1 forb_all n (List.mem_range.2 (by omega))
  exact beq_iff_eq.1 this

theorem indexByte_none : ∀ (l : List UInt8) (c : UInt8), (∀ b ∈ l, b ≠ c) → Lib.indexByte l c < 0
  | [], c, _ => by rw [Lib.indexByte]; omega
  | b :: l, c, h => by
    have ih := indexByte_none l c (fun x hx => h x (by simp [hx]))
    have hb := h b (by simp)
    unfold Lib.indexByte
    split
    · rename_i e; exact absurd (by simpa using e) hb
    · split
      · omega
      · rename_i e
        have := Lib.indexByte_ge l c
        have : Lib.indexByte l c = -1 := by omega
        rw [this] at e; simp at e

theorem enc_last (r : Int) (h0 : 128 ≤ r) (hr : scal r = true) : ∃ l b, encRune r = l ++ [b] ∧ 128 ≤ byteI b ∧ l.length ≤ 3 := by
  have hr := of_decide_eq_true hr
  have hv : Utf8.valid r = true := by
    unfold Utf8.valid
    simp only [Bool.or_eq_true, Bool.and_eq_true, decide_eq_true_eq]; omega
  have hb : ∀ n : Nat, n < 64 → 128 ≤ byteI (UInt8.ofNat (128 + n)) := by
    intro n hn
    unfold byteI
    rw [UInt8.toNat_ofNat', Nat.mod_eq_of_lt (by omega)]; omega
  unfold encRune Utf8.encode
  rw [if_pos hv]
  by_cases a : r.toNat < 128
  · omega
  · rw [if_neg a]
    by_cases b : r.toNat < 2048
    · rw [if_pos b]
      exact ⟨[_], _, rfl, hb _ (Nat.mod_lt _ (by omega)), by simp⟩
    · rw [if_neg b]
      by_cases c : r.toNat < 65536
      · rw [if_pos c]
        exact ⟨[_, _], _, rfl, hb _ (Nat.mod_lt _ (by omega)), by simp⟩
      · rw [if_neg c]
        exact ⟨[_, _, _], _, rfl, hb _ (Nat.mod_lt _ (by omega)), by simp⟩
theorem valid_val (r : Int) (hr : scal r = true) : c_utf8_ValidRune r = some true := by
  have hr := of_decide_eq_true hr
  rw [c_utf8_ValidRune_eq, Zh3_eq, show decide ((0 : Int) ≤ r) = true from decide_eq_true hr.1, cond_true]
  by_cases a : r < 55296
  · rw [decide_eq_true a, cond_true]
  · rw [decide_eq_false a, cond_false, show decide ((57343 : Int) < r) = true from decide_eq_true (by omega), cond_true, show decide (r ≤ 1114111) = true from decide_eq_true hr.2.1, cond_true]
theorem rune65533 : c_strings_IndexRune (forb, 65533) = some (-1) := Call_of E (k := 2000) (by kernel_rfl)
theorem IndexRune_forb (r : Int) (hr : scal r = true) : IdxOK (forbI r) (c_strings_IndexRune (forb, r)) := by
  have hr' := of_decide_eq_true hr
  by_cases a : r < 128
  · rw [c_strings_IndexRune_eq, Zg2_eq]
    simp only
    rw [show decide ((0 : Int) ≤ r) = true from decide_eq_true hr'.1, cond_true, decide_eq_true a, cond_true, c_strings_IndexByte_eq, primIndexByte, w8 hr'.1 (by omega)]
    exact ⟨_, rfl, forb_low r hr'.1 a⟩
  · rw [forb_high r (by omega)]
    by_cases b : r = 65533
    · subst b; exact ⟨-1, rune65533, rfl⟩
    · obtain ⟨l, x, he, hx, hl⟩ := enc_last r (by omega) hr
      rw [c_strings_IndexRune_eq, Zg2_eq]
      simp only
      rw [show decide ((0 : Int) ≤ r) = true from decide_eq_true hr'.1, cond_true, decide_eq_false a, cond_false, show (r == 65533) = false from beq_eq_false_iff_ne.2 b, cond_false, valid_val r hr, Option.bind_some, Bool.not_true, cond_false, he]
      have hlen : (l ++ [x]).length = l.length + 1 := by simp
      have hw : IntKind.i64.wrap ((((l ++ [x]).length : Nat) : Int) - 1) = ((l.length : Nat) : Int) := by rw [hlen, w64 (by omega) (by omega)]; omega
      have hfl : forb.length = 17 := rfl
      have hw1 : IntKind.i64.wrap (((l.length : Nat) : Int) + 1) = ((l.length + 1 : Nat) : Int) := by rw [w64 (by omega) (by omega)]; omega
      have hg : List.getD (l ++ [x]) l.length 0 = x := by simp [List.getD_eq_getElem?_getD]
      have hfb : ∀ b ∈ forb, byteI b < 128 := by decide
      have hfg : byteI (List.getD forb l.length 0) < 128 := by
        rw [List.getD_eq_getElem?_getD, List.getElem?_eq_getElem (show l.length < forb.length by omega)]
        exact hfb _ (List.getElem_mem _)
      rw [hw, Zi2_eq, lt_nat, decide_eq_true (by omega), cond_true, inside_nat, decide_eq_true (by omega), cond_true, hlen, inside_nat, decide_eq_true (by omega), cond_true, Int.toNat_natCast, hg]
      rw [show (((((List.getD forb l.length 0).toNat : Nat) : Int)) != ((x.toNat : Nat) : Int)) = true from bne_iff_ne.2 (by
        have e1 : (((List.getD forb l.length 0).toNat : Nat) : Int) = byteI (List.getD forb l.length 0) := rfl
        have e2 : ((x.toNat : Nat) : Int) = byteI x := rfl
        rw [e1, e2]; omega), cond_true, hw1, cut_from (by omega), cond_true, cond_true, cutList_from, c_strings_IndexByte_eq, primIndexByte, Option.bind_some]
      have hn : Lib.indexByte (forb.drop (l.length + 1)) (UInt8.ofNat (((x.toNat : Nat) : Int)).toNat) < 0 := by
        refine indexByte_none _ _ (fun b hb e => ?_)
        have h1 := hfb b (List.mem_of_mem_drop hb)
        rw [Int.toNat_natCast, UInt8.ofNat_toNat] at e
        subst e; omega
      rw [decide_eq_true hn, cond_true]
      exact ⟨-1, rfl, rfl⟩

theorem IndexAny_runes (s : List UInt8) : ∀ (n k : Nat), s.length ≤ k + n → k ≤ s.length → IdxOK (((pcs s n k).map (·.2.1)).any forbI) (Zy1 s forb s k)
  | 0, k, h, hk => by
    rw [Zy1_eq, decide_eq_false (by omega), cond_false]
    exact ⟨-1, rfl, rfl⟩
  | n + 1, k, h, hk => by
    rw [Zy1_eq]
    unfold pcs
    by_cases c : k < s.length
    · have hw := wd_bound s k c
      obtain ⟨y, h1, h2⟩ := IndexRune_forb (runeAt s k).1 (runeAt_scal s k)
      rw [decide_eq_true c, cond_true, if_pos c, decRune_rune, decRune_wd, h1, Option.bind_some, List.map_cons, List.any_cons]
      dsimp only
      rw [h2]
      cases forbI (runeAt s k).1 with
      | true => rw [cond_true, Bool.true_or]; exact ⟨_, rfl, decide_eq_true (by omega)⟩
      | false => rw [cond_false, Bool.false_or]; exact IndexAny_runes s n (k + wd s k) (by omega) (by omega)
    · rw [decide_eq_false c, cond_false, if_neg c]
      exact ⟨-1, rfl, rfl⟩
def forbSet : List Bool := (List.range 256).map fun n : Nat => forbI (n : Int)
theorem makeSet : c_strings_makeASCIISet forb = some (forbSet, true) := Call_of E (k := 2000) (by kernel_rfl)
theorem forbSet_get (b : UInt8) : List.getD forbSet b.toNat false = forbI (byteI b) := by
  have := b.toNat_lt
  unfold forbSet byteI
  rw [List.getD_eq_getElem?_getD, List.getElem?_map, List.getElem?_range this]; rfl
theorem IndexAny_set (s : List UInt8) (hs : s.length ≤ 1073741824) : ∀ (n i : Nat), i + n = s.length → IdxOK ((s.drop i).any fun b => forbI (byteI b)) (Zw1 s forb (i : Int) forbSet)
  | 0, i, h => by
    have : i = s.length := by omega
    subst this
    rw [Zw1_eq, lt_nat, decide_eq_false (Nat.lt_irrefl _), cond_false, List.drop_length]
    exact ⟨-1, rfl, rfl⟩
  | n + 1, i, h => by
    have hi : i < s.length := by omega
    have hw : IntKind.i64.wrap ((i : Int) + 1) = ((i + 1 : Nat) : Int) := by rw [w64 (by omega) (by omega)]; omega
    have hg : List.getD s i 0 = s[i] := by rw [List.getD_eq_getElem?_getD, List.getElem?_eq_getElem hi]; rfl
    have hb := s[i].toNat_lt
    rw [Zw1_eq, lt_nat, decide_eq_true hi, cond_true, inside_nat, decide_eq_true hi, cond_true, Int.toNat_natCast, hg, c_strings_asciiSet_contains_eq, Zl2_eq]
    simp only
    rw [inside_nat, decide_eq_true hb, cond_true, Option.bind_some, Int.toNat_natCast, show (Ty.zero .bool : Bool) = false from rfl, forbSet_get, hw, List.drop_eq_getElem_cons hi, List.any_cons]
    dsimp only
    cases forbI (byteI s[i]) with
    | true => rw [cond_true, Bool.true_or]; exact ⟨_, rfl, decide_eq_true (by omega)⟩
    | false => rw [cond_false, Bool.false_or]; exact IndexAny_set s hs n (i + 1) (by omega)
def forbids (s : List UInt8) : Bool := s.any fun b => forbI (byteI b)
theorem ContainsAny_val (s : List UInt8) (hs : s.length ≤ 1073741824) : c_strings_ContainsAny (s, forb) = some (forbids s) := by
  have key : IdxOK (forbids s) (c_strings_IndexAny (s, forb)) := by
    rw [c_strings_IndexAny_eq, Zu1_eq]
    simp only
    rw [show (forb == ([] : List UInt8)) = false from rfl, cond_false, show (((forb.length : Nat) : Int) == 1) = false from rfl, cond_false, c_strings_shouldUseASCIISet_eq, Zk2_eq, Option.bind_some]
    by_cases c : ((s.length : Nat) : Int) > 8
    · rw [decide_eq_true c, cond_true, makeSet, Option.bind_some, cond_true]
      exact IndexAny_set s hs s.length 0 (by omega)
    · rw [decide_eq_false c, cond_false, Zx1_eq]
      have := IndexAny_runes s s.length 0 (by omega) (by omega)
      rw [any_low s forbI (fun x hx => forb_high x hx) s.length 0 (by omega), List.drop_zero] at this
      exact this
  obtain ⟨y, h1, h2⟩ := key
  rw [c_strings_ContainsAny_eq, Zk1_eq, h1, Option.bind_some, h2]
end Go.Abs
namespace Go.Abs
set_option autoImplicit false

def thr (k bias : Int) : Int := if k ≤ bias then 1 else if bias + 26 ≤ k then 26 else k - bias
theorem thr_range (k bias : Int) : 1 ≤ thr k bias ∧ thr k bias ≤ 26 := by
  unfold thr; split
  · omega
  · split <;> omega
theorem c_puny_threshold_val (k bias : Int) (h1 : 0 ≤ k ∧ k ≤ 1099511627776) (h2 : 0 ≤ bias ∧ bias ≤ 4096) : c_puny_threshold (k, bias) = some (thr k bias) := by
  rw [c_puny_threshold_eq, Zy3_eq]
  simp only
  rw [w64 (x := bias + 26) (by omega) (by omega), w64 (x := k - bias) (by omega) (by omega)]
  unfold thr
  by_cases a : k ≤ bias
  · rw [decide_eq_true a, cond_true, if_pos a]
  · rw [decide_eq_false a, cond_false, if_neg a]
    by_cases b : bias + 26 ≤ k
    · rw [show decide (k ≥ bias + 26) = true from decide_eq_true b, cond_true, if_pos b]
    · rw [show decide (k ≥ bias + 26) = false from decide_eq_false b, cond_false, if_neg b]

def adaptGo : Nat → Int → Int → Int
  | 0, d, k => k + 36 * d / (d + 38)
  | n + 1, d, k => if 455 < d then adaptGo n (d / 35) (k + 36) else k + 36 * d / (d + 38)
def adaptV (delta points : Int) (first : Bool) : Int :=
  let d := if first = true then delta / 700 else delta / 2
  adaptGo 11 (d + d / points) 0
theorem adaptGo_range : ∀ (n : Nat) (d k : Int), 0 ≤ d → 0 ≤ k → 0 ≤ adaptGo n d k ∧ adaptGo n d k ≤ k + 36 * n + 36
  | 0, d, k, hd, hk => by
    unfold adaptGo
    have h1 : 0 ≤ 36 * d / (d + 38) := Int.ediv_nonneg (by omega) (by omega)
    have h2 : 36 * d / (d + 38) ≤ 36 := by
      apply Int.le_of_lt_add_one
      apply Int.ediv_lt_of_lt_mul (by omega); omega
    omega
  | n + 1, d, k, hd, hk => by
    unfold adaptGo
    split
    · have := adaptGo_range n (d / 35) (k + 36) (by omega) (by omega); omega
    · have h1 : 0 ≤ 36 * d / (d + 38) := Int.ediv_nonneg (by omega) (by omega)
      have h2 : 36 * d / (d + 38) ≤ 36 := by
        apply Int.le_of_lt_add_one
        apply Int.ediv_lt_of_lt_mul (by omega); omega
      omega
theorem quot36 (d : Int) (hd : 0 ≤ d) : 0 ≤ 36 * d / (d + 38) ∧ 36 * d / (d + 38) ≤ 36 := by
  refine ⟨Int.ediv_nonneg (by omega) (by omega), ?_⟩
  apply Int.le_of_lt_add_one
  apply Int.ediv_lt_of_lt_mul (by omega); omega
theorem adapt2_stop (pts : Int) (fst : Bool) (d k : Int) (hd : 0 ≤ d) (hn : d ≤ 455) (hk : 0 ≤ k) (hk2 : k ≤ 100000) : Zq3 d pts fst k = some (k + 36 * d / (d + 38)) := by
  have h := quot36 d hd
  rw [Zq3_eq, show decide (d > 455) = false from decide_eq_false (by omega), cond_false, w64 (x := d + 38) (by omega) (by omega), show (d + 38 != 0) = true from bne_iff_ne.2 (by omega), cond_true, w64 (x := 36 * d) (by omega) (by omega), Int.tdiv_eq_ediv_of_nonneg (by omega), w64 (x := 36 * d / (d + 38)) (by omega) (by omega), w64 (by omega) (by omega)]
theorem adapt2_go (pts : Int) (fst : Bool) (d k : Int) (hd : 455 < d) (hd2 : d ≤ 9223372036854775807) (hk : 0 ≤ k) (hk2 : k ≤ 100000) : Zq3 d pts fst k = Zq3 (d / 35) pts fst (k + 36) := by
  rw [Zq3_eq, show decide (d > 455) = true from decide_eq_true hd, cond_true, Int.tdiv_eq_ediv_of_nonneg (by omega), w64 (x := d / 35) (by omega) (by omega), w64 (x := k + 36) (by omega) (by omega)]
def lid : Nat → Int
  | 0 => 455
  | n + 1 => 35 * lid n + 34
theorem adapt2_val (pts : Int) (fst : Bool) (n : Nat) : ∀ (d k : Int), 0 ≤ d → d ≤ lid n → d ≤ 9223372036854775807 → 0 ≤ k → k + 36 * (n : Int) ≤ 100000 → Zq3 d pts fst k = some (adaptGo n d k) := by
  induction n with
  | zero => intro d k hd hn _ hk hk2; exact adapt2_stop pts fst d k hd hn hk (by omega)
  | succ n ih =>
    intro d k hd hn hb hk hk2
    unfold adaptGo
    unfold lid at hn
    by_cases c : 455 < d
    · rw [if_pos c, adapt2_go pts fst d k c hb hk (by omega)]
      exact ih (d / 35) (k + 36) (by omega) (by omega) (by omega) (by omega) (by omega)
    · rw [if_neg c]; exact adapt2_stop pts fst d k hd (by omega) hk (by omega)
theorem lid11 : 4611686018427387904 ≤ lid 11 := by decide
theorem c_puny_adapt_val (delta points : Int) (first : Bool) (h0 : 0 ≤ delta) (h1 : delta ≤ 1099511627776) (hp : 1 ≤ points) (hp2 : points ≤ 1099511627776) : c_puny_adapt (delta, points, first) = some (adaptV delta points first) := by
  have key : ∀ d : Int, 0 ≤ d → d ≤ 1099511627776 → Zp3 d points first = some (adaptGo 11 (d + d / points) 0) := by
    intro d a b
    have q0 : 0 ≤ d / points := Int.ediv_nonneg a (by omega)
    have q1 : d / points ≤ d := Int.ediv_le_self _ a
    have := lid11
    rw [Zp3_eq, show (points != 0) = true from bne_iff_ne.2 (by omega), cond_true, Int.tdiv_eq_ediv_of_nonneg a, w64 (x := d / points) (by omega) (by omega), w64 (x := d + d / points) (by omega) (by omega)]
    exact adapt2_val points first 11 _ 0 (by omega) (by omega) (by omega) (by omega) (by omega)
  rw [c_puny_adapt_eq, Zo3_eq]
  simp only
  unfold adaptV
  cases first with
  | true =>
    rw [cond_true, Int.tdiv_eq_ediv_of_nonneg h0, w64 (x := delta / 700) (by omega) (by omega), key _ (by omega) (by omega)]; rfl
  | false =>
    rw [cond_false, Int.tdiv_eq_ediv_of_nonneg h0, w64 (x := delta / 2) (by omega) (by omega), key _ (by omega) (by omega)]; rfl
theorem adaptV_range (delta points : Int) (first : Bool) (h0 : 0 ≤ delta) (hp : 1 ≤ points) : 0 ≤ adaptV delta points first ∧ adaptV delta points first ≤ 4096 := by
  unfold adaptV
  have key : ∀ d : Int, 0 ≤ d → 0 ≤ adaptGo 11 (d + d / points) 0 ∧ adaptGo 11 (d + d / points) 0 ≤ 4096 := by
    intro d a
    have q0 : 0 ≤ d / points := Int.ediv_nonneg a (by omega)
    have := adaptGo_range 11 (d + d / points) 0 (by omega) (by omega)
    omega
  cases first with
  | true => exact key _ (by rw [if_pos rfl]; omega)
  | false => exact key _ (by rw [if_neg (by simp)]; omega)
end Go.Abs
namespace Go.Abs
set_option autoImplicit false

def az36 : List UInt8 := [97, 98, 99, 100, 101, 102, 103, 104, 105, 106, 107, 108, 109, 110, 111, 112, 113, 114, 115, 116, 117, 118, 119, 120, 121, 122, 48, 49, 50, 51, 52, 53, 54, 55, 56, 57]
def dval (b : Int) : Int := if 97 ≤ b ∧ b ≤ 122 then b - 97 else if 65 ≤ b ∧ b ≤ 90 then b - 65 else if 48 ≤ b ∧ b ≤ 57 then b - 22 else -1
theorem dval_range (b : Int) : -1 ≤ dval b ∧ dval b ≤ 35 := by
  unfold dval; split
  · omega
  · split
    · omega
    · split <;> omega
def dexp (n : Nat) : Int :=
  let i := Lib.indexByte az36 (UInt8.ofNat (n : Int).toNat)
  let c := bits Go.BinOp.or IntKind.u8 (n : Int) 32
  if i < 0 then (if 97 ≤ c ∧ c ≤ 122 then IntKind.i64.wrap (IntKind.u8.wrap (c - 97)) else i) else i
theorem dexp_all : (List.range 256).all (fun n => decide (dexp n = dval (n : Int))) = true := by kernel_rfl
theorem dexp_val (n : Nat) (h : n < 256) : dexp n = dval (n : Int) := of_decide_eq_true (List.all_eq_true.1 dexp_all n (List.mem_range.2 h))

def numV (s : List UInt8) (bias : Int) (fr : Nat) : Nat → Nat → Int → Int → Int → Int × (Int × (Int × Int))
  | 0, at', _, _, _ => (0, (0, (31, (at' : Int))))
  | n + 1, at', i, w, k =>
    if dval (bat s at') < 0 then (0, (0, (31, (at' : Int))))
    else if 2147483647 < i + dval (bat s at') * w then (0, (0, (32, (fr : Int))))
    else if dval (bat s at') < thr k bias then (i + dval (bat s at') * w, (((at' + 1 : Nat) : Int), (0, 0)))
    else if 2147483647 < w * (36 - thr k bias) then (0, (0, (32, (fr : Int))))
    else numV s bias fr n (at' + 1) (i + dval (bat s at') * w) (w * (36 - thr k bias)) (k + 36)

theorem mul_le {a b A B : Int} (ha : 0 ≤ a) (hb : 0 ≤ b) (h1 : a ≤ A) (h2 : b ≤ B) : 0 ≤ a * b ∧ a * b ≤ A * B := ⟨Int.mul_nonneg ha hb, Int.mul_le_mul h1 h2 hb (Int.le_trans ha h1)⟩

theorem one_le_mul {a b : Int} (ha : 1 ≤ a) (hb : 1 ≤ b) : 1 ≤ a * b := by
  have := Int.mul_le_mul ha hb (by omega) (by omega)
  omega

theorem number_go (s : List UInt8) (bias : Int) (fr : Nat) (hs : s.length ≤ 1073741824) (hb : 0 ≤ bias ∧ bias ≤ 4096) (n : Nat) : ∀ (at' : Nat) (i w k : Int), at' + n = s.length → 0 ≤ i → i ≤ 2147483647 → 1 ≤ w → w ≤ 2147483647 → 0 ≤ k → k + 36 * (n : Int) ≤ 1099511627776 →
    Zt3 s (at' : Int) i bias (fr : Int) w k = some (numV s bias fr n at' i w k) := by
  induction n with
  | zero =>
    intro at' i w k hat _ _ _ _ _ _
    rw [Zt3_eq, show (((at' : Nat) : Int) == ((s.length : Nat) : Int)) = true from beq_iff_eq.2 (by omega), cond_true]
    rfl
  | succ n ih =>
    intro at' i w k hat hi0 hi1 hw0 hw1 hk0 hk1
    have hlt : at' < s.length := by omega
    have hby := bat_lt s at'
    have hd := dval_range (bat s at')
    have ht := thr_range k bias
    have hx : dexp (s.getD at' 0).toNat = dval (bat s at') := dexp_val _ (s.getD at' 0).toNat_lt
    have hwat : IntKind.i64.wrap ((at' : Int) + 1) = ((at' + 1 : Nat) : Int) := by rw [w64 (by omega) (by omega)]; omega
    have key : Zu3 s (at' : Int) i bias (fr : Int) w k (dval (bat s at')) = some (numV s bias fr (n + 1) at' i w k) := by
      rw [Zu3_eq]
      unfold numV
      by_cases a : dval (bat s at') < 0
      · rw [decide_eq_true a, cond_true, if_pos a]
      · have hm := mul_le (a := dval (bat s at')) (b := w) (A := 35) (B := 2147483647) (by omega) (by omega) hd.2 hw1
        rw [decide_eq_false a, cond_false, if_neg a, w64 (x := dval (bat s at') * w) (by omega) (by omega), w64 (x := i + dval (bat s at') * w) (by omega) (by omega)]
        by_cases b : 2147483647 < i + dval (bat s at') * w
        · rw [show decide (i + dval (bat s at') * w > 2147483647) = true from decide_eq_true b, cond_true, if_pos b]
        · rw [show decide (i + dval (bat s at') * w > 2147483647) = false from decide_eq_false b, cond_false, if_neg b, c_puny_threshold_val k bias ⟨hk0, by omega⟩ hb, Option.bind_some]
          by_cases c : dval (bat s at') < thr k bias
          · rw [decide_eq_true c, cond_true, if_pos c, hwat]
          · have hm2 := mul_le (a := w) (b := 36 - thr k bias) (A := 2147483647) (B := 35) (by omega) (by omega) hw1 (by omega)
            have hm3 : 1 ≤ w * (36 - thr k bias) := one_le_mul hw0 (by omega)
            rw [decide_eq_false c, cond_false, if_neg c, w64 (x := 36 - thr k bias) (by omega) (by omega), w64 (x := w * (36 - thr k bias)) (by omega) (by omega)]
            by_cases e : 2147483647 < w * (36 - thr k bias)
            · rw [show decide (w * (36 - thr k bias) > 2147483647) = true from decide_eq_true e, cond_true, if_pos e]
            · rw [show decide (w * (36 - thr k bias) > 2147483647) = false from decide_eq_false e, cond_false, if_neg e, hwat, w64 (x := k + 36) (by omega) (by omega)]
              exact ih (at' + 1) _ _ _ (by omega) (by omega) (by omega) hm3 (by omega) (by omega) (by omega)
    rw [Zt3_eq, show (((at' : Nat) : Int) == ((s.length : Nat) : Int)) = false from beq_eq_false_iff_ne.2 (by omega), cond_false, inside_nat, decide_eq_true hlt, cond_true, Int.toNat_natCast, c_strings_IndexByte_eq, primIndexByte, Option.bind_some, cond_true]
    rw [show ([(97 : UInt8), (98 : UInt8), (99 : UInt8), (100 : UInt8), (101 : UInt8), (102 : UInt8), (103 : UInt8), (104 : UInt8), (105 : UInt8), (106 : UInt8), (107 : UInt8), (108 : UInt8), (109 : UInt8), (110 : UInt8), (111 : UInt8), (112 : UInt8), (113 : UInt8), (114 : UInt8), (115 : UInt8), (116 : UInt8), (117 : UInt8), (118 : UInt8), (119 : UInt8), (120 : UInt8), (121 : UInt8), (122 : UInt8), (48 : UInt8), (49 : UInt8), (50 : UInt8), (51 : UInt8), (52 : UInt8), (53 : UInt8), (54 : UInt8), (55 : UInt8), (56 : UInt8), (57 : UInt8)] : List UInt8) = az36 from rfl]
    unfold dexp at hx
    simp only at hx
    generalize Lib.indexByte az36 (UInt8.ofNat (((s.getD at' 0).toNat : Nat) : Int).toNat) = x at hx ⊢
    generalize bits Go.BinOp.or IntKind.u8 (((s.getD at' 0).toNat : Nat) : Int) 32 = c at hx ⊢
    by_cases a : x < 0
    · rw [if_pos a] at hx
      rw [decide_eq_true a, cond_true]
      by_cases b : 97 ≤ c
      · rw [show decide (c ≥ 97) = true from decide_eq_true b, cond_true]
        by_cases e : c ≤ 122
        · rw [if_pos ⟨b, e⟩] at hx
          rw [decide_eq_true e, cond_true, hx]; exact key
        · rw [if_neg (fun h => e h.2)] at hx
          rw [decide_eq_false e, cond_false, hx]; exact key
      · rw [if_neg (fun h => b h.1)] at hx
        rw [show decide (c ≥ 97) = false from decide_eq_false b, cond_false, hx]; exact key
    · rw [if_neg a] at hx
      rw [decide_eq_false a, cond_false, hx]; exact key
theorem c_puny_number_val (s : List UInt8) (at' : Nat) (i bias : Int) (hs : s.length ≤ 1073741824) (hat : at' ≤ s.length) (hi0 : 0 ≤ i) (hi1 : i ≤ 2147483647) (hb : 0 ≤ bias ∧ bias ≤ 4096) :
    c_puny_number (s, (at' : Int), i, bias) = some (numV s bias at' (s.length - at') at' i 1 36) := by
  rw [c_puny_number_eq, Zs3_eq]
  exact number_go s bias at' hs hb (s.length - at') at' i 1 36 (by omega) hi0 hi1 (by omega) (by omega) (by omega) (by omega)
theorem numV_facts (s : List UInt8) (bias : Int) (fr : Nat) (n : Nat) : ∀ (at' : Nat) (i w k : Int), 0 ≤ i → 1 ≤ w → at' + n = s.length → (numV s bias fr n at' i w k).2.2.1 = 0 →
    i ≤ (numV s bias fr n at' i w k).1 ∧ (numV s bias fr n at' i w k).1 ≤ 2147483647 ∧ ∃ m : Nat, (numV s bias fr n at' i w k).2.1 = (m : Int) ∧ at' < m ∧ m ≤ s.length := by
  induction n with
  | zero => intro at' i w k _ _ _ h; exact absurd h (by unfold numV; simp)
  | succ n ih =>
    intro at' i w k hi hw hat
    have ht := thr_range k bias
    unfold numV
    by_cases a : dval (bat s at') < 0
    · rw [if_pos a]; intro h; exact absurd h (by simp)
    · rw [if_neg a]
      have hm : 0 ≤ dval (bat s at') * w := Int.mul_nonneg (by omega) (by omega)
      by_cases b : 2147483647 < i + dval (bat s at') * w
      · rw [if_pos b]; intro h; exact absurd h (by simp)
      · rw [if_neg b]
        by_cases c : dval (bat s at') < thr k bias
        · rw [if_pos c]; intro _; exact ⟨by dsimp only; omega, by dsimp only; omega, at' + 1, rfl, by omega, by omega⟩
        · rw [if_neg c]
          by_cases e : 2147483647 < w * (36 - thr k bias)
          · rw [if_pos e]; intro h; exact absurd h (by simp)
          · rw [if_neg e]
            intro h
            have hm3 : 1 ≤ w * (36 - thr k bias) := one_le_mul hw (by omega)
            obtain ⟨h1, h2, m, h3, h4, h5⟩ := ih (at' + 1) _ _ _ (by omega) hm3 (by omega) h
            exact ⟨by omega, h2, m, h3, by omega, h5⟩
end Go.Abs
namespace Go.Abs
set_option autoImplicit false

def valInt : Value → Int
  | .int _ n => n
  | _ => 0
theorem runesFrom_val (s : List UInt8) : ∀ (n k : Nat) (acc : Array Value), ((Conv.runesFrom ⟨s.toArray⟩ n k acc).map valInt).toList = (acc.map valInt).toList ++ (pcs s n k).map (·.2.1)
  | 0, k, acc => by simp [Conv.runesFrom, pcs]
  | n + 1, k, acc => by
    unfold Conv.runesFrom pcs
    have hsz : (⟨s.toArray⟩ : ByteArray).size = s.length := by simp [ByteArray.size]
    rw [hsz]
    by_cases c : k < s.length
    · rw [if_pos c, if_pos c]
      have h1 : (((Utf8.decode ⟨s.toArray⟩ k).1 : Nat) : Int) = (runeAt s k).1 := decRune_rune s k
      have h2 : (Utf8.decode ⟨s.toArray⟩ k).2 = wd s k := decRune_wd s k
      show ((Conv.runesFrom ⟨s.toArray⟩ n (k + (Utf8.decode ⟨s.toArray⟩ k).2) (acc.push (.int .i32 (Int.ofNat (Utf8.decode ⟨s.toArray⟩ k).1)))).map valInt).toList = _
      rw [runesFrom_val s n _ _, h2, Array.map_push, Array.toList_push, List.map_cons, List.append_assoc]
      have e : valInt (.int .i32 (Int.ofNat (Utf8.decode ⟨s.toArray⟩ k).1)) = (runeAt s k).1 := h1
      rw [e]; rfl
    · rw [if_neg c, if_neg c]; simp
theorem runesOf_val (s : List UInt8) : runesOf s = scalarsOf s := by
  have h := runesFrom_val s s.length 0 #[]
  have e : runesOf s = ((Conv.runesFrom ⟨s.toArray⟩ s.length 0 #[]).map valInt).toList := by
    unfold runesOf
    congr 2
  rw [e, h]; simp [scalarsOf, piecesOf]

def lastB (s : List UInt8) : Nat → Int
  | 0 => -1
  | n + 1 => if bat s n = 45 then (n : Int) else lastB s n
theorem lastB_range (s : List UInt8) : ∀ n : Nat, -1 ≤ lastB s n ∧ lastB s n < n
  | 0 => by unfold lastB; omega
  | n + 1 => by
    have := lastB_range s n
    unfold lastB; split <;> omega
theorem last_go (s : List UInt8) (hs : s.length ≤ 1073741824) : ∀ n : Nat, n ≤ s.length → Z04 s 45 ((n : Int) - 1) = some (lastB s n)
  | 0, h => by
    rw [Z04_eq, show decide (((0 : Nat) : Int) - 1 ≥ 0) = false from rfl, cond_false]; rfl
  | n + 1, h => by
    have e : ((n + 1 : Nat) : Int) - 1 = (n : Int) := by omega
    rw [e, Z04_eq, show decide ((n : Int) ≥ 0) = true from decide_eq_true (by omega), cond_true, inside_nat, decide_eq_true (by omega), cond_true, Int.toNat_natCast, show (((s.getD n 0).toNat : Nat) : Int) = bat s n from rfl]
    unfold lastB
    by_cases c : bat s n = 45
    · rw [show (bat s n == 45) = true from beq_iff_eq.2 c, cond_true, if_pos c]
    · rw [show (bat s n == 45) = false from beq_eq_false_iff_ne.2 c, cond_false, if_neg c, w64 (by omega) (by omega), last_go s hs n (by omega)]
theorem c_last_val (s : List UInt8) (hs : s.length ≤ 1073741824) : c_strings_LastIndexByte (s, 45) = some (lastB s s.length) := by
  rw [c_strings_LastIndexByte_eq, Zr3_eq, c_ibytealg_LastIndexByteString_eq, Zz3_eq]
  simp only
  rw [w64 (by omega) (by omega), last_go s hs s.length (Nat.le_refl _)]; rfl

def ins (l : List Int) (i : Nat) (x : Int) : List Int := l.take i ++ [x] ++ l.drop i
theorem ins_len (l : List Int) (i : Nat) (x : Int) (h : i ≤ l.length) : (ins l i x).length = l.length + 1 := by
  unfold ins; simp; omega
theorem Insert_val (l : List Int) (i : Nat) (x : Int) (hi : i ≤ l.length) (hl : l.length ≤ 4294967296) : c_slices_Insert_rune_rune (l, (i : Int), [x]) = some (ins l i x) := by
  rw [c_slices_Insert_rune_rune_eq, primInsert]
  simp only
  rw [show decide ((0 : Int) ≤ (i : Int)) = true from decide_eq_true (by omega), show decide ((i : Int) ≤ (l.length : Int)) = true from decide_eq_true (by omega), show decide ([x].length = 1) = true from rfl, decide_eq_true hl]
  rfl

def decV (s : List UInt8) (plain : Nat) : Nat → Nat → Int → Int → Int → List Int → List UInt8 × (Int × Int)
  | 0, _, _, _, _, l => (strOfRunes l, (0, 0))
  | f + 1, at', i, n, bias, l =>
    if s.length ≤ at' then (strOfRunes l, (0, 0))
    else if (numV s bias at' (s.length - at') at' i 1 36).2.2.1 ≠ 0 then ([], ((numV s bias at' (s.length - at') at' i 1 36).2.2.1, (numV s bias at' (s.length - at') at' i 1 36).2.2.2))
    else if 1114111 < n + (numV s bias at' (s.length - at') at' i 1 36).1 / ((l.length + 1 : Nat) : Int) ∨ (55296 ≤ n + (numV s bias at' (s.length - at') at' i 1 36).1 / ((l.length + 1 : Nat) : Int) ∧ n + (numV s bias at' (s.length - at') at' i 1 36).1 / ((l.length + 1 : Nat) : Int) ≤ 57343) then ([], (32, (at' : Int)))
    else decV s plain f (numV s bias at' (s.length - at') at' i 1 36).2.1.toNat ((numV s bias at' (s.length - at') at' i 1 36).1 % ((l.length + 1 : Nat) : Int) + 1) (n + (numV s bias at' (s.length - at') at' i 1 36).1 / ((l.length + 1 : Nat) : Int))
      (adaptV ((numV s bias at' (s.length - at') at' i 1 36).1 - i) ((l.length + 1 : Nat) : Int) (((l.length : Nat) : Int) == ((plain : Nat) : Int))) (ins l ((numV s bias at' (s.length - at') at' i 1 36).1 % ((l.length + 1 : Nat) : Int)).toNat (n + (numV s bias at' (s.length - at') at' i 1 36).1 / ((l.length + 1 : Nat) : Int)))

theorem decode_go (s : List UInt8) (plain : Nat) (hs : s.length ≤ 1073741824) (f : Nat) : ∀ (at' : Nat) (i n bias : Int) (l : List Int), s.length ≤ at' + f → at' ≤ s.length → 0 ≤ i → i ≤ 2147483647 → 128 ≤ n → n ≤ 1114111 → 0 ≤ bias ∧ bias ≤ 4096 → l.length ≤ at' →
    Ze3 s (at' : Int) (plain : Int) i n bias l = some (decV s plain f at' i n bias l) := by
  induction f with
  | zero =>
    intro at' i n bias l hf hat _ _ _ _ _ _
    rw [Ze3_eq, lt_nat, decide_eq_false (by omega), cond_false]; rfl
  | succ f ih =>
    intro at' i n bias l hf hat hi0 hi1 hn0 hn1 hb hl
    unfold decV
    by_cases c : at' < s.length
    · rw [Ze3_eq, lt_nat, decide_eq_true c, cond_true, c_puny_number_val s at' i bias hs hat hi0 hi1 hb, Option.bind_some, if_neg (by omega)]
      have hfacts := numV_facts s bias at' (s.length - at') at' i 1 36 hi0 (by omega) (by omega)
      generalize numV s bias at' (s.length - at') at' i 1 36 = y at hfacts ⊢
      by_cases e : y.2.2.1 = 0
      · obtain ⟨h1, h2, m, h3, h4, h5⟩ := hfacts e
        have hpts : IntKind.i64.wrap (((l.length : Nat) : Int) + 1) = ((l.length + 1 : Nat) : Int) := by rw [w64 (by omega) (by omega)]; omega
        have q0 : 0 ≤ y.1 / ((l.length + 1 : Nat) : Int) := Int.ediv_nonneg (by omega) (by omega)
        have q1 : y.1 / ((l.length + 1 : Nat) : Int) ≤ y.1 := Int.ediv_le_self _ (by omega)
        have r0 : 0 ≤ y.1 % ((l.length + 1 : Nat) : Int) := Int.emod_nonneg _ (by omega)
        have r1 : y.1 % ((l.length + 1 : Nat) : Int) < ((l.length + 1 : Nat) : Int) := Int.emod_lt_of_pos _ (by omega)
        have hb' := adaptV_range (y.1 - i) ((l.length + 1 : Nat) : Int) (((l.length : Nat) : Int) == ((plain : Nat) : Int)) (by omega) (by omega)
        rw [show (y.2.2.1 != 0) = false from by simp [e], cond_false, if_neg (fun h => h e), w64 (x := y.1 - i) (by omega) (by omega), hpts, c_puny_adapt_val _ _ _ (by omega) (by omega) (by omega) (by omega), Option.bind_some]
        rw [show (((l.length + 1 : Nat) : Int) != 0) = true from bne_iff_ne.2 (by omega), cond_true, Int.tdiv_eq_ediv_of_nonneg (by omega), Int.tmod_eq_emod_of_nonneg (by omega), w64 (x := y.1 / ((l.length + 1 : Nat) : Int)) (by omega) (by omega), w64 (x := n + y.1 / ((l.length + 1 : Nat) : Int)) (by omega) (by omega)]
        simp only [cond_true]
        generalize y.1 / ((l.length + 1 : Nat) : Int) = Q at q0 q1 ⊢
        generalize y.1 % ((l.length + 1 : Nat) : Int) = M at r0 r1 ⊢
        generalize adaptV (y.1 - i) ((l.length + 1 : Nat) : Int) (((l.length : Nat) : Int) == ((plain : Nat) : Int)) = B at hb' ⊢
        by_cases g : n + Q > 1114111
        · rw [decide_eq_true g, cond_true, if_pos (.inl g)]
        · rw [decide_eq_false g, cond_false]
          have hM : ((M.toNat : Nat) : Int) = M := Int.toNat_of_nonneg r0
          have go : ¬ (55296 ≤ n + Q ∧ n + Q ≤ 57343) → ((c_slices_Insert_rune_rune (l, (M, [IntKind.i32.wrap (n + Q)]))).bind fun y2 => Ze3 s y.2.1 (plain : Int) (IntKind.i64.wrap (M + 1)) (n + Q) B y2) =
              some (decV s plain f y.2.1.toNat (M + 1) (n + Q) B (ins l M.toNat (n + Q))) := by
            intro _
            rw [w32 (by omega) (by omega), ← hM, Insert_val l M.toNat _ (by omega) (by omega), Option.bind_some, hM, w64 (by omega) (by omega), h3, Int.toNat_natCast]
            exact ih m (M + 1) (n + Q) B _ (by omega) (by omega) (by omega) (by omega) (by omega) (by omega) hb' (by rw [ins_len _ _ _ (by omega)]; omega)
          by_cases a : n + Q ≥ 55296
          · rw [decide_eq_true a, cond_true]
            by_cases b : n + Q ≤ 57343
            · rw [decide_eq_true b, cond_true, if_pos (.inr ⟨a, b⟩)]
            · rw [decide_eq_false b, cond_false, if_neg (by omega)]; exact go (by omega)
          · rw [decide_eq_false a, cond_false, if_neg (by omega)]; exact go (by omega)
      · rw [show (y.2.2.1 != 0) = true from by simp [e], cond_true, if_pos e]
    · rw [Ze3_eq, lt_nat, decide_eq_false c, cond_false, if_pos (by omega)]
end Go.Abs
