/- Part L7 of the proof: see the last text of the claim. No condition of its own. -/
import Derived.Test.YtddagflhafkbnaaGreatDoorQ3
import Derived.Test.YtddagflhafkbnaaGreatDoorK8
import Derived.Test.YtddagflhafkbnaaGreatDoorL2
set_option linter.all false
namespace Go.Abs
set_option autoImplicit false
theorem tz16 : c_bits_TrailingZeros 16 = some 4 := Call_of E (k := 100) (by kernel_rfl)
end Go.Abs
namespace Go.Abs
set_option autoImplicit false

def digs36 : List UInt8 := [48, 49, 50, 51, 52, 53, 54, 55, 56, 57, 97, 98, 99, 100, 101, 102, 103, 104, 105, 106, 107, 108, 109, 110, 111, 112, 113, 114, 115, 116, 117, 118, 119, 120, 121, 122]
def dig (n : Int) : UInt8 := digs36.getD n.toNat 0
def hexT (n : Int) : List UInt8 :=
  if n < 16 then [dig n] else if n < 256 then [dig (n / 16), dig (n % 16)] else if n < 4096 then [dig (n / 256), dig (n / 16 % 16), dig (n % 16)]
  else [dig (n / 4096), dig (n / 256 % 16), dig (n / 16 % 16), dig (n % 16)]

theorem dig_all : (List.range 16).all (fun k => nib (byteI (dig (k : Int))) == (k : Int) && (dig (k : Int) != 58 && (dig (k : Int) != 46 && UInt8.ofNat (byteI (dig (k : Int))).toNat == dig (k : Int)))) = true := by kernel_rfl
theorem dig_facts (n : Int) (h0 : 0 ≤ n) (h1 : n < 16) : nib (byteI (dig n)) = n ∧ dig n ≠ 58 ∧ dig n ≠ 46 := by
  obtain ⟨k, rfl⟩ := Int.eq_ofNat_of_zero_le h0
  have := List.all_eq_true.1 dig_all k (List.mem_range.2 (by omega))
  simp only [Bool.and_eq_true, beq_iff_eq, bne_iff_ne] at this
  exact ⟨this.1, this.2.1, this.2.2.1⟩

theorem and15 {u : Int} (h0 : 0 ≤ u) (h1 : u < 65536) : bits Go.BinOp.and IntKind.u64 u 15 = u % 16 := by
  obtain ⟨m, rfl⟩ := Int.eq_ofNat_of_zero_le h0
  have e1 : (BitVec.ofInt 64 (m : Int)).toNat = m := by
    rw [BitVec.toNat_ofInt]; omega
  have e2 : (BitVec.ofInt 64 (15 : Int)).toNat = 2 ^ 4 - 1 := by
    rw [BitVec.toNat_ofInt]; omega
  have e : (BitVec.ofInt 64 (m : Int) &&& BitVec.ofInt 64 (15 : Int)).toNat = m % 16 := by
    rw [BitVec.toNat_and, e1, e2, Nat.and_two_pow_sub_one_eq_mod]
  show IntKind.u64.wrap (((BitVec.ofInt 64 (m : Int) &&& BitVec.ofInt 64 (15 : Int)).toNat : Nat) : Int) = _
  rw [e, wu64 (by omega) (by omega)]
  omega
theorem shr4 (u : Int) : shr IntKind.u64 u 4 = u / 16 := by
  show u.fdiv (2 ^ (min 4 64)) = _
  rw [Int.fdiv_eq_ediv_of_nonneg _ (by decide)]
  rfl

theorem p_fb6 (x : List Int) (u : Int) (t : List UInt8) (i : Nat) (b r : List Int) (hi : i ≤ 65) (hb : b.length = 65) : Zc4 x u 16 false false t (i : Int) b r = some (r, strOf (b.drop i)) := by
  rw [Zc4_eq, cond_false, cut_from hi, cond_true]
  congr 3
  show List.drop (Int.toNat (i : Int)) (List.take 65 b) = _
  rw [Int.toNat_natCast, List.take_of_length_le (by omega)]

theorem digs36_len : (36 : Nat) = ([(48 : UInt8), (49 : UInt8), (50 : UInt8), (51 : UInt8), (52 : UInt8), (53 : UInt8), (54 : UInt8), (55 : UInt8), (56 : UInt8), (57 : UInt8), (97 : UInt8), (98 : UInt8), (99 : UInt8), (100 : UInt8), (101 : UInt8), (102 : UInt8), (103 : UInt8), (104 : UInt8), (105 : UInt8), (106 : UInt8), (107 : UInt8), (108 : UInt8), (109 : UInt8), (110 : UInt8), (111 : UInt8), (112 : UInt8), (113 : UInt8), (114 : UInt8), (115 : UInt8), (116 : UInt8), (117 : UInt8), (118 : UInt8), (119 : UInt8), (120 : UInt8), (121 : UInt8), (122 : UInt8)] : List UInt8).length := rfl

theorem inside36 (n : Int) (h0 : 0 ≤ n) (h1 : n < 36) : inside n 36 = true := by
  unfold inside; rw [decide_eq_true h0, decide_eq_true (by omega)]; rfl
theorem inside65 (i : Nat) (h : i < 65) : inside (i : Int) 65 = true := by rw [inside_nat]; exact decide_eq_true h

theorem p_fb3_more (x : List Int) (u : Int) (t : List UInt8) (i : Nat) (b r : List Int) (h0 : 16 ≤ u) (h1 : u < 65536) (hi : i + 1 ≤ 65) :
    Z94 x u 16 false false t ((i + 1 : Nat) : Int) 4 16 15 b r = Z94 x (u / 16) 16 false false t (i : Int) 4 16 15 (b.set i (byteI (dig (u % 16)))) r := by
  have hw : IntKind.i64.wrap (((i + 1 : Nat) : Int) - 1) = (i : Int) := by rw [w64 (by omega) (by omega)]; omega
  rw [Z94_eq, show decide (u ≥ 16) = true from decide_eq_true h0, cond_true, and15 (by omega) h1, ← digs36_len, inside36 _ (by omega) (by omega), cond_true, hw, inside65 i (by omega), cond_true]
  rw [show decide ((0 : Int) ≤ 4) = true from rfl, cond_true, shr4, Int.toNat_natCast]
  rfl
theorem p_fb3_last (x : List Int) (u : Int) (t : List UInt8) (i : Nat) (b r : List Int) (h0 : 0 ≤ u) (h1 : u < 16) (hi : i + 1 ≤ 65) (hb : b.length = 65) :
    Z94 x u 16 false false t ((i + 1 : Nat) : Int) 4 16 15 b r = some (r, strOf (byteI (dig u) :: b.drop (i + 1))) := by
  have hw : IntKind.i64.wrap (((i + 1 : Nat) : Int) - 1) = (i : Int) := by rw [w64 (by omega) (by omega)]; omega
  rw [Z94_eq, show decide (u ≥ 16) = false from decide_eq_false (by omega), cond_false, ← digs36_len, inside36 _ h0 (by omega), cond_true, hw, inside65 i (by omega), cond_true, Int.toNat_natCast]
  rw [Zb4_eq, cond_false, p_fb6 _ _ _ _ _ _ (by omega) (by simpa using hb)]
  congr 3
  rw [List.drop_eq_getElem_cons (by rw [List.length_set]; omega), List.getElem_set_self, List.drop_set_of_lt (by omega)]
  rfl
theorem set_drop (b : List Int) (i : Nat) (v : Int) (h : i < b.length) : (b.set i v).drop i = v :: b.drop (i + 1) := by
  rw [List.drop_eq_getElem_cons (by rw [List.length_set]; omega), List.getElem_set_self, List.drop_set_of_lt (by omega)]

theorem strOf_dig (n : Int) (l : List Int) (h0 : 0 ≤ n) (h1 : n < 16) : strOf (byteI (dig n) :: l) = dig n :: strOf l := by
  obtain ⟨k, rfl⟩ := Int.eq_ofNat_of_zero_le h0
  have := List.all_eq_true.1 dig_all k (List.mem_range.2 (by omega))
  simp only [Bool.and_eq_true, beq_iff_eq] at this
  show UInt8.ofNat (byteI (dig (k : Int))).toNat :: strOf l = _
  rw [this.2.2.2]

theorem hex_val (u : Int) (h0 : 0 ≤ u) (h1 : u < 65536) : c_strconv_FormatUint (u, 16) = some (hexT u) := by
  rw [c_strconv_FormatUint_eq, Z44_eq, c_istrconv_FormatUint_eq, Z54_eq, show ((16 : Int) == 10) = false from rfl, cond_false, c_istrconv_formatBits_eq, Z64_eq]
  rw [show decide ((16 : Int) < 2) = false from rfl, cond_false, show ((16 : Int) == 10) = false from rfl, cond_false, show decide ((16 : Int) > 36) = false from rfl, cond_false]
  rw [Z74_eq, cond_false, Z84_eq, c_istrconv_isPowerOfTwo_eq, Zd4_eq]
  rw [show ((bits Go.BinOp.and IntKind.i64 16 (IntKind.i64.wrap ((16 : Int) - 1))) == (0 : Int)) = true from by kernel_rfl]
  simp only [Option.bind_some, cond_true]
  rw [show IntKind.u64.wrap (16 : Int) = 16 from by kernel_rfl, show IntKind.u64.wrap ((16 : Int) - 1) = 15 from by kernel_rfl, tz16]
  simp only [Option.bind_some]
  rw [show IntKind.u64.wrap (4 : Int) = 4 from by kernel_rfl]
  have hz : (Ty.zero (.arr 65 (.int .u8)) : List Int).length = 65 := rfl
  generalize (Ty.zero (.arr 65 (.int .u8)) : List Int) = z at hz
  unfold hexT
  have fin : ∀ {a : Option (List Int × List UInt8)} {l : List UInt8}, a = some ([], l) → ((a.bind fun y0 => some y0.2).bind fun y0 => some y0) = some l := by
    intro a l h; rw [h]; rfl
  apply fin
  by_cases c1 : u < 16
  · rw [if_pos c1]
    have := p_fb3_last [] u [] 64 z [] h0 c1 (by omega) hz
    rw [show ((64 + 1 : Nat) : Int) = 65 from rfl] at this
    rw [this, strOf_dig _ _ h0 c1, List.drop_eq_nil_of_le (by omega)]; rfl
  · rw [if_neg c1]
    have s1 := p_fb3_more [] u [] 64 z [] (by omega) h1 (by omega)
    rw [show ((64 + 1 : Nat) : Int) = 65 from rfl] at s1
    rw [s1]
    by_cases c2 : u < 256
    · rw [if_pos c2, show (64 : Nat) = 63 + 1 from rfl, p_fb3_last [] (u / 16) [] 63 _ [] (by omega) (by omega) (by omega) (by simpa using hz), set_drop _ _ _ (by omega), strOf_dig _ _ (by omega) (by omega), strOf_dig _ _ (by omega) (by omega), List.drop_eq_nil_of_le (by omega)]; rfl
    · rw [if_neg c2, show (64 : Nat) = 63 + 1 from rfl, p_fb3_more [] (u / 16) [] 63 _ [] (by omega) (by omega) (by omega)]
      by_cases c3 : u < 4096
      · rw [if_pos c3, show (63 : Nat) = 62 + 1 from rfl, p_fb3_last [] (u / 16 / 16) [] 62 _ [] (by omega) (by omega) (by omega) (by simpa using hz), set_drop _ _ _ (by simp; omega), set_drop _ _ _ (by omega),
          strOf_dig _ _ (by omega) (by omega), strOf_dig _ _ (by omega) (by omega), strOf_dig _ _ (by omega) (by omega), List.drop_eq_nil_of_le (by omega), show u / 16 / 16 = u / 256 from by omega]; rfl
      · rw [if_neg c3, show (63 : Nat) = 62 + 1 from rfl, p_fb3_more [] (u / 16 / 16) [] 62 _ [] (by omega) (by omega) (by omega), show (62 : Nat) = 61 + 1 from rfl, p_fb3_last [] (u / 16 / 16 / 16) [] 61 _ [] (by omega) (by omega) (by omega) (by simpa using hz),
          set_drop _ _ _ (by simp; omega), set_drop _ _ _ (by simp; omega), set_drop _ _ _ (by omega),
          strOf_dig _ _ (by omega) (by omega), strOf_dig _ _ (by omega) (by omega), strOf_dig _ _ (by omega) (by omega), strOf_dig _ _ (by omega) (by omega), List.drop_eq_nil_of_le (by omega),
          show u / 16 / 16 / 16 = u / 4096 from by omega, show u / 16 / 16 = u / 256 from by omega]; rfl

theorem hexT_facts (u : Int) (h0 : 0 ≤ u) (h1 : u < 65536) : hexPart (hexT u) = some u ∧ (∀ b ∈ hexT u, b ≠ 58 ∧ b ≠ 46) ∧ hexT u ≠ [] ∧ (hexT u).length ≤ 4 := by
  have num : ∀ (n d : Int) (l : List UInt8), 0 ≤ n → n < 65536 → 0 ≤ d → d < 16 → numGo 16 n (dig d :: l) = numGo 16 (n * 16 + d) l := by
    intro n d l a b c e
    obtain ⟨f, _⟩ := dig_facts d c e
    rw [numGo, f, if_neg (by omega), if_pos (by omega)]
  have ne : ∀ d : Int, 0 ≤ d → d < 16 → dig d ≠ 58 ∧ dig d ≠ 46 := fun d a b => (dig_facts d a b).2
  unfold hexT hexPart
  by_cases c1 : u < 16
  · rw [if_pos c1]
    refine ⟨?_, fun b hb => ?_, by simp, by simp⟩
    · rw [if_neg (by simp), num 0 u [] (by omega) (by omega) h0 c1, numGo, if_neg (by omega), w16 (by omega) (by omega)]; simp
    · simp only [List.mem_singleton] at hb; subst hb; exact ne u h0 c1
  · rw [if_neg c1]
    by_cases c2 : u < 256
    · rw [if_pos c2]
      refine ⟨?_, fun b hb => ?_, by simp, by simp⟩
      · rw [if_neg (by simp), num 0 _ _ (by omega) (by omega) (by omega) (by omega), num _ _ _ (by omega) (by omega) (by omega) (by omega), numGo, if_neg (by omega), w16 (by omega) (by omega)]
        congr 1; omega
      · simp only [List.mem_cons, List.not_mem_nil, or_false] at hb
        rcases hb with rfl | rfl
        · exact ne _ (by omega) (by omega)
        · exact ne _ (by omega) (by omega)
    · rw [if_neg c2]
      by_cases c3 : u < 4096
      · rw [if_pos c3]
        refine ⟨?_, fun b hb => ?_, by simp, by simp⟩
        · rw [if_neg (by simp), num 0 _ _ (by omega) (by omega) (by omega) (by omega), num _ _ _ (by omega) (by omega) (by omega) (by omega), num _ _ _ (by omega) (by omega) (by omega) (by omega), numGo, if_neg (by omega), w16 (by omega) (by omega)]
          congr 1; omega
        · simp only [List.mem_cons, List.not_mem_nil, or_false] at hb
          rcases hb with rfl | rfl | rfl
          · exact ne _ (by omega) (by omega)
          · exact ne _ (by omega) (by omega)
          · exact ne _ (by omega) (by omega)
      · rw [if_neg c3]
        refine ⟨?_, fun b hb => ?_, by simp, by simp⟩
        · rw [if_neg (by simp), num 0 _ _ (by omega) (by omega) (by omega) (by omega), num _ _ _ (by omega) (by omega) (by omega) (by omega), num _ _ _ (by omega) (by omega) (by omega) (by omega), num _ _ _ (by omega) (by omega) (by omega) (by omega), numGo, if_neg (by omega), w16 (by omega) (by omega)]
          congr 1; omega
        · simp only [List.mem_cons, List.not_mem_nil, or_false] at hb
          rcases hb with rfl | rfl | rfl | rfl
          · exact ne _ (by omega) (by omega)
          · exact ne _ (by omega) (by omega)
          · exact ne _ (by omega) (by omega)
          · exact ne _ (by omega) (by omega)
end Go.Abs
namespace Go.Abs
set_option autoImplicit false

def joinC (sep : UInt8) : List (List UInt8) → List UInt8
  | [] => []
  | [x] => x
  | x :: y :: l => x ++ sep :: joinC sep (y :: l)
theorem join_joinC (sep : UInt8) : ∀ l : List (List UInt8), Lib.join l [sep] = joinC sep l
  | [] => rfl
  | [x] => Lib.join_one x _
  | x :: y :: l => by
    rw [Lib.join_cons, joinC, ← join_joinC sep (y :: l), Lib.join_cons]
    simp [Lib.joinTail]

theorem splitC_part (sep : UInt8) : ∀ (x cur rest : List UInt8), (∀ b ∈ x, b ≠ sep) → splitC (byteI sep) cur (x ++ rest) = splitC (byteI sep) (cur ++ x) rest
  | [], cur, rest, _ => by simp
  | b :: x, cur, rest, h => by
    have hb : ¬ ((b.toNat : Nat) : Int) = byteI sep := by
      intro e
      have : b.toNat = sep.toNat := by unfold byteI at e; omega
      exact h b (by simp) (UInt8.toNat_inj.1 this)
    rw [List.cons_append, splitC, if_neg hb, splitC_part sep x _ rest (fun c hc => h c (by simp [hc]))]
    simp
theorem split_join (sep : UInt8) : ∀ (x : List UInt8) (l : List (List UInt8)), (∀ y ∈ x :: l, ∀ b ∈ y, b ≠ sep) → splitAt (joinC sep (x :: l)) (byteI sep) = x :: l
  | x, [], h => by
    have := splitC_part sep x [] [] (h x (by simp))
    rw [List.append_nil] at this
    show splitC (byteI sep) [] x = _
    rw [this]; rfl
  | x, y :: l, h => by
    have ih := split_join sep y l (fun z hz => h z (by simp [hz]))
    show splitC (byteI sep) [] (x ++ sep :: joinC sep (y :: l)) = _
    rw [splitC_part sep x [] _ (h x (by simp)), List.nil_append, splitC, if_pos (show ((sep.toNat : Nat) : Int) = byteI sep from rfl)]
    exact congrArg (x :: ·) ih

def nextOk : List UInt8 → Bool
  | c :: _ => c != 58
  | [] => false
def goodB : List UInt8 → Bool
  | [] => true
  | b :: l => (b != 58 || nextOk l) && goodB l
theorem goodB_cons (b : UInt8) (l : List UInt8) : goodB (b :: l) = ((b != 58 || nextOk l) && goodB l) := rfl
theorem good_pre {b : UInt8} {l r : List UInt8} (h : goodB (b :: l) = true) (hr : l = [] → b ≠ 58 → True) : cc.isPrefixOf (b :: l ++ r) = false := by
  rw [goodB_cons, Bool.and_eq_true, Bool.or_eq_true] at h
  rcases h.1 with h1 | h1
  · have : (58 == b) = false := by rw [beq_eq_false_iff_ne]; intro e; rw [← e] at h1; simp at h1
    simp [cc, List.isPrefixOf, this]
  · cases l with
    | nil => cases h1
    | cons c l =>
      have : (58 == c) = false := by rw [beq_eq_false_iff_ne]; intro e; rw [← e] at h1; simp [nextOk] at h1
      simp [cc, List.isPrefixOf, this]
theorem good_index : ∀ x : List UInt8, goodB x = true → Lib.index x cc = -1
  | [], _ => rfl
  | b :: l, h => by
    have hp := good_pre (r := []) h (fun _ _ => trivial)
    rw [List.append_nil] at hp
    rw [Lib.index, hp, if_neg (by simp)]
    rw [goodB_cons, Bool.and_eq_true] at h
    rw [good_index l h.2]; rfl
theorem good_found : ∀ (x y : List UInt8), goodB x = true → Lib.index (x ++ 58 :: 58 :: y) cc = (x.length : Int)
  | [], y, _ => by
    show Lib.index (58 :: 58 :: y) cc = 0
    rw [Lib.index, pre2]; rfl
  | b :: l, y, h => by
    have hp := good_pre (r := 58 :: 58 :: y) h (fun _ _ => trivial)
    rw [List.cons_append] at hp ⊢
    rw [goodB_cons, Bool.and_eq_true] at h
    rw [Lib.index, hp, if_neg (by simp), good_found l y h.2, if_neg (by simp)]
    simp
theorem good_part : ∀ (x rest : List UInt8), (∀ b ∈ x, b ≠ 58) → goodB rest = true → goodB (x ++ rest) = true
  | [], rest, _, h => h
  | b :: x, rest, hb, h => by
    rw [List.cons_append, goodB_cons, good_part x rest (fun c hc => hb c (by simp [hc])) h]
    simp [hb b (by simp)]
theorem good_join : ∀ l : List (List UInt8), (∀ y ∈ l, y ≠ [] ∧ ∀ b ∈ y, b ≠ 58) → goodB (joinC 58 l) = true
  | [], _ => rfl
  | [x], h => by
    have := good_part x [] (h x (by simp)).2 rfl
    rwa [List.append_nil] at this
  | x :: y :: l, h => by
    have ih := good_join (y :: l) (fun z hz => h z (by simp [hz]))
    refine good_part x _ (h x (by simp)).2 ?_
    rw [goodB_cons, ih, Bool.and_true]
    have hy := h y (by simp)
    cases y with
    | nil => exact absurd rfl hy.1
    | cons c y =>
      have hc := hy.2 c (by simp)
      have : ∃ q, joinC 58 ((c :: y) :: l) = c :: q := by cases l <;> exact ⟨_, rfl⟩
      obtain ⟨q, hq⟩ := this
      rw [hq]
      simp [nextOk, hc]

def inR16 (l : List Int) : Prop := ∀ x ∈ l, 0 ≤ x ∧ x < 65536
def told (l : List Int) : List UInt8 := joinC 58 (l.map hexT)

theorem run6_told (t : Bool) : ∀ l : List Int, inR16 l → run6 t (l.map hexT) = some l
  | [], _ => rfl
  | x :: l, h => by
    obtain ⟨f1, f2, f3, f4⟩ := hexT_facts x (h x (by simp)).1 (h x (by simp)).2
    have hd : hasDot (hexT x) = false := by
      unfold hasDot
      rw [List.any_eq_false]
      intro b hb
      simpa using (f2 b hb).2
    rw [List.map_cons, run6, hd, if_neg (by simp), f1, run6_told t l (fun y hy => h y (by simp [hy]))]
    rfl
theorem told_parts (l : List Int) (h : inR16 l) : ∀ y ∈ l.map hexT, y ≠ [] ∧ ∀ b ∈ y, b ≠ 58 := by
  intro y hy
  obtain ⟨x, hx, rfl⟩ := List.mem_map.1 hy
  obtain ⟨_, f2, f3, _⟩ := hexT_facts x (h x hx).1 (h x hx).2
  exact ⟨f3, fun b hb => (f2 b hb).1⟩
theorem told_ne (x : Int) (l : List Int) (h : inR16 (x :: l)) : told (x :: l) ≠ [] := by
  have hx := (told_parts (x :: l) h (hexT x) (by simp)).1
  unfold told
  cases l with
  | nil => exact hx
  | cons y l =>
    show hexT x ++ _ ≠ []
    intro e
    exact hx (List.append_eq_nil_iff.1 e).1
theorem pieces_told (t : Bool) (l : List Int) (h : inR16 l) : pieces t (told l) = some l := by
  unfold pieces
  cases l with
  | nil => rfl
  | cons x l =>
    rw [if_neg (told_ne x l h)]
    unfold told
    rw [List.map_cons, show (58 : Int) = byteI 58 from rfl, split_join 58 _ _ (fun y hy => (told_parts (x :: l) h y hy).2), ← List.map_cons, run6_told t _ h]

theorem told_len (l : List Int) (h : inR16 l) : (told l).length ≤ 5 * l.length := by
  have : ∀ l : List Int, inR16 l → (joinC 58 (l.map hexT)).length ≤ 5 * l.length := by
    intro l
    induction l with
    | nil => intro _; simp [joinC]
    | cons x l ih =>
      intro h
      have hx := (hexT_facts x (h x (by simp)).1 (h x (by simp)).2).2.2.2
      have ih := ih (fun y hy => h y (by simp [hy]))
      cases l with
      | nil => simp only [List.map_cons, List.map_nil, joinC, List.length_cons, List.length_nil]; omega
      | cons y l =>
        simp only [List.map_cons, joinC, List.length_append, List.length_cons] at ih ⊢
        omega
  exact this l h
theorem six1_go (v l : List Int) (h : inR16 l) (h8 : l.length ≤ 8) : ∀ (k i : Nat) (r : List (List UInt8)), i + k = l.length → r = (l.take i).map hexT →
    Z34 v l (l.length : Int) (i : Int) r = some (told l)
  | 0, i, r, hk, hr => by
    have : i = l.length := by omega
    subst this
    rw [Z34_eq, lt_nat, decide_eq_false (Nat.lt_irrefl _), cond_false, c_strings_Join_eq, primJoin]
    have hj : Lib.join r [58] = told l := by
      rw [join_joinC, hr, List.take_length]; rfl
    have hlr : r.length ≤ 8 := by rw [hr]; simp; omega
    rw [show Lib.join r ([58] : List UInt8) = told l from hj]
    have := told_len l h
    rw [show decide (r.length ≤ 140737488355328) = true from decide_eq_true (by omega), show decide ((told l).length ≤ 140737488355328) = true from decide_eq_true (by omega)]
    rfl
  | k + 1, i, r, hk, hr => by
    have hi : i < l.length := by omega
    have hget : List.getD l (Int.toNat (i : Int)) (Ty.zero (.int .u16)) = l[i] := by
      rw [Int.toNat_natCast, List.getD_eq_getElem?_getD, List.getElem?_eq_getElem hi]; rfl
    have hw : IntKind.i64.wrap ((i : Int) + 1) = ((i + 1 : Nat) : Int) := by rw [w64 (by omega) (by omega)]; omega
    have hx := h l[i] (List.getElem_mem hi)
    have hlr : r.length ≤ 8 := by rw [hr]; simp; omega
    rw [Z34_eq, lt_nat, decide_eq_true hi, cond_true, inside_nat, decide_eq_true hi, cond_true, hget, wu64 hx.1 (by omega), hex_val _ hx.1 hx.2, Option.bind_some, hw]
    rw [show decide (r.length + [hexT l[i]].length ≤ lim) = true from decide_eq_true (by simp [lim]; omega), cond_true]
    exact six1_go v l h h8 k (i + 1) _ (by omega) (by rw [hr, List.take_succ_eq_append_getElem hi, List.map_append]; rfl)
theorem six1_val (l : List Int) (h : inR16 l) (h8 : l.length ≤ 8) : c_host_six_1 l = some (told l) := by
  rw [c_host_six_1_eq, Z24_eq]
  exact six1_go l l h h8 l.length 0 [] (by omega) rfl
end Go.Abs
namespace Go.Abs
set_option autoImplicit false

def ZeroRun (v : List Int) (at' n : Nat) : Prop := n = 1 ∨ (2 ≤ n ∧ at' + n ≤ 8 ∧ ∀ k, k < n → v[at' + k]? = some 0)

theorem getD8 (v : List Int) (h8 : v.length = 8) (i : Nat) (hi : i < 8) : v[i]? = some (List.getD v i (Ty.zero (.int .u16))) := by
  rw [List.getD_eq_getElem?_getD, List.getElem?_eq_getElem (by omega)]; rfl

def ROut (v : List Int) (o : Option (Int × Int)) : Prop := ∃ (a n : Nat), o = some ((a : Int), (n : Int)) ∧ (n = 0 ∨ (2 ≤ n ∧ a + n ≤ 8 ∧ ∀ k, k < n → v[a + k]? = some 0))

theorem run2_go (x v : List Int) (h8 : v.length = 8) (i best most : Nat) (hi : i < 8) (hbm : ZeroRun v best most) (next : ∀ b m : Nat, ZeroRun v b m → ROut v (Z04 x (b : Int) (m : Int) ((i + 1 : Nat) : Int) v)) :
    ∀ (k n : Nat), i + n + k = 8 → (∀ j, j < n → v[i + j]? = some 0) → ROut v (Z14 x (best : Int) (most : Int) (i : Int) (n : Int) (i : Int) v) := by
  have hw1 : IntKind.i64.wrap ((i : Int) + 1) = ((i + 1 : Nat) : Int) := by rw [w64 (by omega) (by omega)]; omega
  have stop : ∀ n : Nat, i + n ≤ 8 → (∀ j, j < n → v[i + j]? = some 0) → most ≤ 8 → ROut v (bif decide ((n : Int) > (most : Int)) then Z04 x (i : Int) (n : Int) ((i + 1 : Nat) : Int) v else Z04 x (best : Int) (most : Int) ((i + 1 : Nat) : Int) v) := by
    intro n hn hz hm
    by_cases c : most < n
    · rw [show decide ((n : Int) > (most : Int)) = true from decide_eq_true (by omega), cond_true]
      refine next i n (.inr ⟨?_, hn, hz⟩)
      rcases hbm with h | h
      · omega
      · omega
    · rw [show decide ((n : Int) > (most : Int)) = false from decide_eq_false (by omega), cond_false]
      exact next best most hbm
  have hm : most ≤ 8 := by rcases hbm with h | h <;> omega
  intro k
  induction k with
  | zero =>
    intro n hk hz
    have hw : IntKind.i64.wrap ((i : Int) + (n : Int)) = ((i + n : Nat) : Int) := by rw [w64 (by omega) (by omega)]; omega
    rw [Z14_eq, hw, hw1, show decide (((i + n : Nat) : Int) < 8) = false from decide_eq_false (by omega), cond_false]
    exact stop n (by omega) hz hm
  | succ k ih =>
    intro n hk hz
    have hw : IntKind.i64.wrap ((i : Int) + (n : Int)) = ((i + n : Nat) : Int) := by rw [w64 (by omega) (by omega)]; omega
    have hwn : IntKind.i64.wrap ((n : Int) + 1) = ((n + 1 : Nat) : Int) := by rw [w64 (by omega) (by omega)]; omega
    rw [Z14_eq, hw, hw1, hwn, show decide (((i + n : Nat) : Int) < 8) = true from decide_eq_true (by omega), cond_true, inside_nat, decide_eq_true (by omega), cond_true, Int.toNat_natCast]
    by_cases c : List.getD v (i + n) (Ty.zero (.int .u16)) = (0 : Int)
    · rw [show (List.getD v (i + n) (Ty.zero (.int .u16)) == (0 : Int)) = true from beq_iff_eq.2 c, cond_true]
      refine ih (n + 1) (by omega) (fun j hj => ?_)
      rcases Nat.lt_or_ge j n with h | h
      · exact hz j h
      · have : j = n := by omega
        subst this
        rw [getD8 v h8 _ (by omega), c]
    · rw [show (List.getD v (i + n) (Ty.zero (.int .u16)) == (0 : Int)) = false from beq_eq_false_iff_ne.2 c, cond_false]
      exact stop n (by omega) hz hm

theorem run1_go (x v : List Int) (h8 : v.length = 8) : ∀ (k i best most : Nat), i + k = 8 → ZeroRun v best most → ROut v (Z04 x (best : Int) (most : Int) (i : Int) v)
  | 0, i, best, most, hk, hbm => by
    rw [Z04_eq, show decide ((i : Int) < 8) = false from decide_eq_false (by omega), cond_false]
    by_cases c : most = 1
    · subst c
      rw [show (((1 : Nat) : Int) == 1) = true from rfl, cond_true]
      exact ⟨0, 0, rfl, .inl rfl⟩
    · rw [show ((most : Int) == 1) = false from beq_eq_false_iff_ne.2 (by omega), cond_false]
      exact ⟨best, most, rfl, .inr (hbm.resolve_left c)⟩
  | k + 1, i, best, most, hk, hbm => by
    rw [Z04_eq, show decide ((i : Int) < 8) = true from decide_eq_true (by omega), cond_true]
    have := run2_go x v h8 i best most (by omega) hbm (fun b m hb => run1_go x v h8 k (i + 1) b m (by omega) hb) (8 - i) 0 (by omega) (fun j hj => absurd hj (Nat.not_lt_zero j))
    exact this
theorem run_val (v : List Int) (h8 : v.length = 8) : ROut v (c_host_run v) := by
  rw [c_host_run_eq, Zz3_eq]
  exact run1_go v v h8 8 0 0 1 (by omega) (.inl rfl)

theorem zeros_of (v : List Int) (h8 : v.length = 8) (a n : Nat) (hn : a + n ≤ 8) (hz : ∀ k, k < n → v[a + k]? = some 0) : v = v.take a ++ List.replicate n 0 ++ v.drop (a + n) := by
  apply List.ext_getElem?
  intro i
  have h1 : (v.take a).length = a := by rw [List.length_take]; omega
  rw [List.append_assoc]
  rcases Nat.lt_or_ge i a with h | h
  · rw [List.getElem?_append_left (by omega), List.getElem?_take_of_lt h]
  · rw [List.getElem?_append_right (by omega), h1]
    rcases Nat.lt_or_ge (i - a) n with g | g
    · rw [List.getElem?_append_left (by simpa using g), List.getElem?_replicate, if_pos g]
      have := hz (i - a) g
      rwa [show a + (i - a) = i from by omega] at this
    · rw [List.getElem?_append_right (by simpa using g), List.length_replicate, List.getElem?_drop]
      congr 1; omega

theorem inR_take {v : List Int} (h : inR16 v) (n : Nat) : inR16 (v.take n) := fun x hx => h x (List.mem_of_mem_take hx)
theorem inR_drop {v : List Int} (h : inR16 v) (n : Nat) : inR16 (v.drop n) := fun x hx => h x (List.mem_of_mem_drop hx)

theorem told_two (v : List Int) (hr : inR16 v) (h2 : 2 ≤ v.length) : 2 ≤ (told v).length := by
  cases v with
  | nil => simp at h2
  | cons x l =>
    cases l with
    | nil => simp at h2
    | cons y l =>
      have h1 := (told_parts (x :: y :: l) hr (hexT x) (by simp)).1
      have e : told (x :: y :: l) = hexT x ++ 58 :: joinC 58 (hexT y :: l.map hexT) := rfl
      have : 1 ≤ (hexT x).length := by
        cases hx : hexT x with
        | nil => exact absurd hx h1
        | cons => simp
      rw [e, List.length_append, List.length_cons]; omega

theorem six_val (v : List Int) (h8 : v.length = 8) (hr : inR16 v) : ∃ s, c_host_six v = some s ∧ 2 ≤ s.length ∧ s.length ≤ 200 ∧ v6Of s = (v, 0) := by
  obtain ⟨a, n, hrun, hn⟩ := run_val v h8
  rw [c_host_six_eq, Zx3_eq, hrun]
  simp only [Option.bind_some]
  rcases hn with rfl | ⟨h2, hle, hz⟩
  · rw [show (((0 : Nat) : Int) == 0) = true from rfl, cond_true]
    have e : List.drop (Option.getD (Option.map Int.toNat none) 0) (List.take (Option.getD (Option.map Int.toNat none) 8) v) = v := by
      exact (List.take_of_length_le (by omega) : List.take 8 v = v)
    rw [e, six1_val v hr (by omega), Option.bind_some]
    have hg : goodB (told v) = true := good_join _ (told_parts v hr)
    refine ⟨told v, rfl, ?_, by have := told_len v hr; omega, ?_⟩
    · exact told_two v hr (by omega)
    · unfold v6Of
      rw [good_index _ hg, if_pos (by omega), pieces_told true v hr]
      show (if v.length = 8 then (v, 0) else (z8, 55)) = _
      rw [if_pos h8]
  · rw [show ((n : Int) == 0) = false from beq_eq_false_iff_ne.2 (by omega), cond_false]
    have hw : IntKind.i64.wrap ((a : Int) + (n : Int)) = ((a + n : Nat) : Int) := by rw [w64 (by omega) (by omega)]; omega
    have hc : cutOk none (some (a : Int)) 8 = true := by simp [cutOk]; omega
    rw [hc, cond_true, hw, cut_from hle, cond_true]
    have e1 : List.drop (Option.getD (Option.map Int.toNat none) 0) (List.take (Option.getD (Option.map Int.toNat (some (a : Int))) 8) v) = v.take a := by
      show List.drop 0 (List.take (Int.toNat (a : Int)) v) = _
      rw [List.drop_zero, Int.toNat_natCast]
    have e2 : List.drop (Option.getD (Option.map Int.toNat (some ((a + n : Nat) : Int))) 0) (List.take (Option.getD (Option.map Int.toNat none) 8) v) = v.drop (a + n) := by
      show List.drop (Int.toNat ((a + n : Nat) : Int)) (List.take 8 v) = _
      rw [Int.toNat_natCast, List.take_of_length_le (by omega)]
    have r1 := inR_take hr a
    have r2 := inR_drop hr (a + n)
    have l1 : (v.take a).length = a := by rw [List.length_take]; omega
    have l2 : (v.drop (a + n)).length = 8 - (a + n) := by rw [List.length_drop, h8]
    rw [e1, e2, six1_val _ r1 (by omega), six1_val _ r2 (by omega)]
    have t1 := told_len _ r1
    have t2 := told_len _ r2
    simp only [Option.bind_some]
    rw [show decide ((told (v.take a)).length + ([58, 58] : List UInt8).length ≤ 2 ^ 62) = true from decide_eq_true (by simp; omega), cond_true,
      show decide ((told (v.take a) ++ ([58, 58] : List UInt8)).length + (told (v.drop (a + n))).length ≤ 2 ^ 62) = true from decide_eq_true (by simp; omega), cond_true]
    refine ⟨_, rfl, by simp; omega, by simp; omega, ?_⟩
    have hs : told (v.take a) ++ ([58, 58] : List UInt8) ++ told (v.drop (a + n)) = told (v.take a) ++ 58 :: 58 :: told (v.drop (a + n)) := by simp
    have hg : goodB (told (v.take a)) = true := good_join _ (told_parts _ r1)
    unfold v6Of
    rw [hs, good_found _ _ hg, if_neg (by omega), Int.toNat_natCast, List.take_left' rfl]
    have hd : (told (v.take a) ++ 58 :: 58 :: told (v.drop (a + n))).drop ((told (v.take a)).length + 2) = told (v.drop (a + n)) := by
      rw [List.drop_append, List.drop_eq_nil_of_le (by omega)]
      simp
    rw [hd, pieces_told false _ r1, pieces_told true _ r2]
    show (if 7 < (v.take a).length + (v.drop (a + n)).length then (z8, 55) else (lay8 (v.take a) (v.drop (a + n)), 0)) = _
    rw [if_neg (by omega)]
    refine Prod.ext ?_ rfl
    show lay8 (v.take a) (v.drop (a + n)) = v
    unfold lay8
    rw [l1, l2, List.take_append, l1, List.take_of_length_le (by omega)]
    have hz8 : (z8.drop a).take (8 - (8 - (a + n)) - a) = List.replicate n 0 := by
      have hz8 : z8 = List.replicate 8 0 := rfl
      rw [hz8, List.drop_replicate, List.take_replicate]
      have : min (8 - (8 - (a + n)) - a) (8 - a) = n := by omega
      rw [this]
    rw [hz8]
    exact (zeros_of v h8 a n hle hz).symm
end Go.Abs
namespace Go.Abs
set_option autoImplicit false

def itoaS (u : Nat) : List UInt8 :=
  if u < 10 then [UInt8.ofNat (48 + u)] else if u < 100 then [UInt8.ofNat (48 + u / 10), UInt8.ofNat (48 + u % 10)] else [UInt8.ofNat (48 + u / 100), UInt8.ofNat (48 + u / 10 % 10), UInt8.ofNat (48 + u % 10)]
theorem itoa_S (u : Nat) (h : u < 1000) : Lib.itoa (u : Int) = itoaS u := by
  unfold Lib.itoa itoaS
  rw [if_neg (by omega), Int.toNat_natCast]
  by_cases h1 : u < 10
  · rw [if_pos h1, Lib.decDigits_one h1]
  · rw [if_neg h1]
    by_cases h2 : u < 100
    · rw [if_pos h2, Lib.decDigits_two h1 h2]
    · rw [if_neg h2, Lib.decDigits, dif_neg h1, Lib.decDigits_two (by omega) (by omega)]
      rw [show u / 10 / 10 = u / 100 from by omega]; rfl
theorem itoa_all : (List.range 256).all (fun u => (numOf (itoaS u) == (u : Int)) && ((itoaS u).all isDig && ((itoaS u != []) && ((itoaS u).all (fun b => b != 46) && (endNum (itoaS u) && decide ((itoaS u).length ≤ 3)))))) = true := by kernel_rfl
theorem itoa_facts (n : Int) (h0 : 0 ≤ n) (h1 : n < 256) : numOf (Lib.itoa n) = n ∧ Lib.itoa n ≠ [] ∧ (∀ b ∈ Lib.itoa n, b ≠ 46) ∧ endNum (Lib.itoa n) = true ∧ (Lib.itoa n).length ≤ 3 := by
  obtain ⟨u, rfl⟩ := Int.eq_ofNat_of_zero_le h0
  have := List.all_eq_true.1 itoa_all u (List.mem_range.2 (by omega))
  simp only [Bool.and_eq_true, beq_iff_eq, bne_iff_ne, List.all_eq_true, decide_eq_true_eq] at this
  rw [itoa_S u (by omega)]
  exact ⟨this.1, this.2.2.1, this.2.2.2.1, this.2.2.2.2.1, this.2.2.2.2.2⟩

theorem and255 {u : Int} (h0 : 0 ≤ u) (h1 : u < 4294967296) : bits Go.BinOp.and IntKind.u32 u 255 = u % 256 := by
  obtain ⟨m, rfl⟩ := Int.eq_ofNat_of_zero_le h0
  have e1 : (BitVec.ofInt 32 (m : Int)).toNat = m := by
    rw [BitVec.toNat_ofInt]; omega
  have e2 : (BitVec.ofInt 32 (255 : Int)).toNat = 2 ^ 8 - 1 := by
    rw [BitVec.toNat_ofInt]; omega
  have e : (BitVec.ofInt 32 (m : Int) &&& BitVec.ofInt 32 (255 : Int)).toNat = m % 256 := by
    rw [BitVec.toNat_and, e1, e2, Nat.and_two_pow_sub_one_eq_mod]
  show IntKind.u32.wrap (((BitVec.ofInt 32 (m : Int) &&& BitVec.ofInt 32 (255 : Int)).toNat : Nat) : Int) = _
  rw [e]
  change (if (false && decide (((m % 256 : Nat) : Int) % (4294967296 : Int) ≥ (2147483648 : Int))) = true then ((m % 256 : Nat) : Int) % (4294967296 : Int) - (4294967296 : Int) else ((m % 256 : Nat) : Int) % (4294967296 : Int)) = _
  rw [if_neg (by simp)]; omega
theorem shr32 (u : Int) (k : Nat) (hk : k ≤ 32) : shr IntKind.u32 u (k : Int) = u / 2 ^ k := by
  show u.fdiv (2 ^ (min (Int.toNat (k : Int)) 32)) = _
  rw [Int.toNat_natCast, Nat.min_eq_left hk, Int.fdiv_eq_ediv_of_nonneg _ (Int.le_of_lt (Int.pow_pos (by omega)))]

theorem itoa_val (n : Int) (h0 : 0 ≤ n) (h1 : n < 256) : c_strconv_Itoa n = some (Lib.itoa n) := by
  rw [c_strconv_Itoa_eq, Zy3_eq, c_istrconv_Itoa_eq, primItoa, decide_eq_true (by omega), decide_eq_true (by omega)]; rfl

theorem four_step (v : Int) (hv0 : 0 ≤ v) (hv1 : v < 4294967296) (i : Nat) (r : List (List UInt8)) (hi : i ≤ 3) (hr : r.length ≤ 4) :
    Zw3 v (i : Int) r = Zw3 v ((i : Int) - 1) (r ++ [Lib.itoa (v / 2 ^ (8 * i) % 256)]) := by
  have hw : IntKind.i64.wrap ((8 : Int) * (i : Int)) = ((8 * i : Nat) : Int) := by rw [w64 (by omega) (by omega)]; omega
  have hw2 : IntKind.i64.wrap ((i : Int) - 1) = (i : Int) - 1 := w64 (by omega) (by omega)
  have hpos : (0 : Int) < 2 ^ (8 * i) := Int.pow_pos (by omega)
  have hd0 : 0 ≤ v / 2 ^ (8 * i) := Int.ediv_nonneg hv0 (Int.le_of_lt hpos)
  have hd1 : v / 2 ^ (8 * i) ≤ v := Int.ediv_le_self _ hv0
  rw [Zw3_eq, show decide ((i : Int) ≥ 0) = true from decide_eq_true (by omega), cond_true, hw, show decide ((0 : Int) ≤ ((8 * i : Nat) : Int)) = true from decide_eq_true (by omega), cond_true, hw2]
  rw [shr32 v (8 * i) (by omega), and255 hd0 (by omega), w64 (by omega) (by omega), itoa_val _ (by omega) (by omega), Option.bind_some]
  rw [show decide (r.length + [Lib.itoa (v / 2 ^ (8 * i) % 256)].length ≤ lim) = true from decide_eq_true (by simp [lim]; omega), cond_true]

def fours (v : Int) : List Int := [v / 16777216 % 256, v / 65536 % 256, v / 256 % 256, v % 256]
theorem four_val (v : Int) (hv0 : 0 ≤ v) (hv1 : v < 4294967296) : c_host_four v = some (joinC 46 ((fours v).map Lib.itoa)) := by
  rw [c_host_four_eq, Zv3_eq]
  have s3 := four_step v hv0 hv1 3 [] (by omega) (by simp)
  have s2 := four_step v hv0 hv1 2 [Lib.itoa (v / 2 ^ (8 * 3) % 256)] (by omega) (by simp)
  have s1 := four_step v hv0 hv1 1 [Lib.itoa (v / 2 ^ (8 * 3) % 256), Lib.itoa (v / 2 ^ (8 * 2) % 256)] (by omega) (by simp)
  have s0 := four_step v hv0 hv1 0 [Lib.itoa (v / 2 ^ (8 * 3) % 256), Lib.itoa (v / 2 ^ (8 * 2) % 256), Lib.itoa (v / 2 ^ (8 * 1) % 256)] (by omega) (by simp)
  rw [show ((3 : Nat) : Int) = 3 from rfl] at s3
  rw [s3, show (3 : Int) - 1 = ((2 : Nat) : Int) from rfl, List.nil_append, s2, show ((2 : Nat) : Int) - 1 = ((1 : Nat) : Int) from rfl]
  simp only [List.cons_append, List.nil_append]
  rw [s1, show ((1 : Nat) : Int) - 1 = ((0 : Nat) : Int) from rfl]
  simp only [List.cons_append, List.nil_append]
  rw [s0, show ((0 : Nat) : Int) - 1 = -1 from rfl]
  simp only [List.cons_append, List.nil_append]
  rw [Zw3_eq, show decide ((-1 : Int) ≥ 0) = false from rfl, cond_false, c_strings_Join_eq, primJoin, join_joinC]
  have e : [Lib.itoa (v / 2 ^ (8 * 3) % 256), Lib.itoa (v / 2 ^ (8 * 2) % 256), Lib.itoa (v / 2 ^ (8 * 1) % 256), Lib.itoa (v / 2 ^ (8 * 0) % 256)] = (fours v).map Lib.itoa := by
    simp [fours]
  rw [e]
  have l (n : Int) (a : 0 ≤ n) (b : n < 256) := (itoa_facts n a b).2.2.2.2
  have l3 := l (v / 16777216 % 256) (by omega) (by omega)
  have l2 := l (v / 65536 % 256) (by omega) (by omega)
  have l1 := l (v / 256 % 256) (by omega) (by omega)
  have l0 := l (v % 256) (by omega) (by omega)
  have hl : (joinC 46 ((fours v).map Lib.itoa)).length ≤ 15 := by
    simp only [fours, List.map_cons, List.map_nil, joinC, List.length_append, List.length_cons]; omega
  rw [show decide (((fours v).map Lib.itoa).length ≤ 140737488355328) = true from decide_eq_true (by simp [fours]), show decide ((joinC 46 ((fours v).map Lib.itoa)).length ≤ 140737488355328) = true from decide_eq_true (by omega)]
  rfl

theorem four_len (v : Int) : (joinC 46 ((fours v).map Lib.itoa)).length ≤ 15 := by
  have l (n : Int) (a : 0 ≤ n) (b : n < 256) := (itoa_facts n a b).2.2.2.2
  have l3 := l (v / 16777216 % 256) (by omega) (by omega)
  have l2 := l (v / 65536 % 256) (by omega) (by omega)
  have l1 := l (v / 256 % 256) (by omega) (by omega)
  have l0 := l (v % 256) (by omega) (by omega)
  simp only [fours, List.map_cons, List.map_nil, joinC, List.length_append, List.length_cons]; omega

theorem four_parts (v : Int) : partsOf (joinC 46 ((fours v).map Lib.itoa)) = (fours v).map Lib.itoa := by
  have f (n : Int) (a : 0 ≤ n) (b : n < 256) := itoa_facts n a b
  have f3 := f (v / 16777216 % 256) (by omega) (by omega)
  have f2 := f (v / 65536 % 256) (by omega) (by omega)
  have f1 := f (v / 256 % 256) (by omega) (by omega)
  have f0 := f (v % 256) (by omega) (by omega)
  have hs : splitAt (joinC 46 ((fours v).map Lib.itoa)) 46 = (fours v).map Lib.itoa := by
    refine split_join 46 _ _ (fun y hy => ?_)
    simp only [List.mem_cons, List.not_mem_nil, or_false, List.map_cons, List.map_nil] at hy
    rcases hy with rfl | rfl | rfl | rfl
    · exact f3.2.2.1
    · exact f2.2.2.1
    · exact f1.2.2.1
    · exact f0.2.2.1
  unfold partsOf
  rw [hs, if_neg]
  rintro ⟨_, h⟩
  exact f0.2.1 h

theorem four_read (v : Int) (hv0 : 0 ≤ v) (hv1 : v < 4294967296) : ipOf (joinC 46 ((fours v).map Lib.itoa)) = (v, 0) ∧ endsOf (joinC 46 ((fours v).map Lib.itoa)) = true := by
  have f (n : Int) (a : 0 ≤ n) (b : n < 256) := itoa_facts n a b
  have f3 := f (v / 16777216 % 256) (by omega) (by omega)
  have f2 := f (v / 65536 % 256) (by omega) (by omega)
  have f1 := f (v / 256 % 256) (by omega) (by omega)
  have f0 := f (v % 256) (by omega) (by omega)
  constructor
  · unfold ipOf
    rw [four_parts v, if_neg (by simp [fours])]
    simp only [fours, List.map_cons, List.map_nil, numsOf, f3.1, f2.1, f1.1, f0.1]
    rw [if_neg (by omega), if_neg (by omega), if_neg (by omega), if_neg (by omega)]
    show ip4 [v / 16777216 % 256, v / 65536 % 256, v / 256 % 256, v % 256] = _
    rw [ip4_4, if_neg (by omega)]
    refine Prod.ext ?_ rfl
    show IntKind.u32.wrap _ = v
    have : v % 256 + v / 16777216 % 256 * 16777216 + v / 65536 % 256 * 65536 + v / 256 % 256 * 256 = v := by omega
    rw [this]
    change (if (false && decide (v % (4294967296 : Int) ≥ (2147483648 : Int))) = true then v % (4294967296 : Int) - (4294967296 : Int) else v % (4294967296 : Int)) = v
    rw [if_neg (by simp)]; omega
  · unfold endsOf lastOf
    rw [four_parts v, if_neg]
    · exact f0.2.2.2.1
    · intro h
      have h3 := f3.2.1
      simp only [fours, List.map_cons, List.map_nil, joinC] at h
      exact h3 (List.append_eq_nil_iff.1 h).1
end Go.Abs
namespace Go.Abs
set_option autoImplicit false

end Go.Abs
