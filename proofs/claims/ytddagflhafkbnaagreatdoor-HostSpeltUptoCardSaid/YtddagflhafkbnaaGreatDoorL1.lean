/- Part L1 of the proof: see the last text of the claim. No condition of its own. -/
import Derived.Test.YtddagflhafkbnaaGreatDoorQ1
import Derived.Lib.TrimU
set_option linter.all false
namespace Go.Abs
set_option autoImplicit false

theorem w64 {x : Int} (h1 : -9223372036854775808 ≤ x) (h2 : x ≤ 9223372036854775807) : IntKind.i64.wrap x = x := by
  change (if (true && decide (x % (18446744073709551616 : Int) ≥ (9223372036854775808 : Int))) = true then x % (18446744073709551616 : Int) - (18446744073709551616 : Int) else x % (18446744073709551616 : Int)) = x
  by_cases h : x % (18446744073709551616 : Int) ≥ (9223372036854775808 : Int)
  · rw [if_pos (by simp [h])]; omega
  · rw [if_neg (by simp [h])]; omega

theorem inside_nat {i n : Nat} : inside (i : Int) n = decide (i < n) := by
  unfold inside
  by_cases h : i < n
  · simp [h]
  · simp [h]

theorem lt_nat {i n : Nat} : decide ((i : Int) < (n : Int)) = decide (i < n) := by
  by_cases h : i < n
  · simp [h]
  · simp [h]

theorem cut_both {f i n : Nat} (h1 : f ≤ i) (h2 : i ≤ n) : cutOk (some (f : Int)) (some (i : Int)) n = true := by
  simp [cutOk]; omega
theorem cut_from {f n : Nat} (h1 : f ≤ n) : cutOk (some (f : Int)) none n = true := by
  simp [cutOk]; omega
theorem cutList_both {α : Type} (f i : Nat) (x : List α) : cutList (some (f : Int)) (some (i : Int)) x = (x.take i).drop f := by simp [cutList]
theorem cutList_from {α : Type} (f : Nat) (x : List α) : cutList (some (f : Int)) none x = x.drop f := by simp [cutList]

def splitC (sep : Int) : List UInt8 → List UInt8 → List (List UInt8)
  | cur, [] => [cur]
  | cur, b :: l => if ((b.toNat : Nat) : Int) = sep then cur :: splitC sep [] l else splitC sep (cur ++ [b]) l
def splitAt (s : List UInt8) (sep : Int) : List (List UInt8) := splitC sep [] s

theorem splitC_length (sep : Int) : ∀ (l cur : List UInt8), (splitC sep cur l).length ≤ l.length + 1
  | [], cur => by simp [splitC]
  | b :: l, cur => by
    unfold splitC
    split
    · simp only [List.length_cons]; have := splitC_length sep l []; omega
    · have := splitC_length sep l (cur ++ [b]); simp only [List.length_cons]; omega

theorem split_step {s : List UInt8} {f i : Nat} (hf : f ≤ i) (hi : i < s.length) : (s.take (i + 1)).drop f = (s.take i).drop f ++ [s[i]] := by
  rw [List.take_succ_eq_append_getElem hi, List.drop_append_of_le_length (by simp; omega)]

theorem p_octets_Split_1_val (s : List UInt8) (sep : Int) (hs : s.length ≤ 1073741824) : ∀ (k f i : Nat) (r : List (List UInt8)), f ≤ i → i + k = s.length → r.length + k ≤ 1073741824 →
    Zl s sep (f : Int) (s.length : Int) (i : Int) r = some (r ++ splitC sep ((s.take i).drop f) (s.drop i))
  | 0, f, i, r, hf, hk, hr => by
    have hi : i = s.length := by omega
    subst hi
    rw [Zl_eq]
    simp only [lt_nat, Nat.lt_irrefl, decide_false, cond_false, cut_from hf, cond_true, cutList_from, List.take_length, List.drop_length, splitC]
    have : decide (r.length + [List.drop f s].length ≤ lim) = true := by simp [lim]; omega
    rw [this]; rfl
  | k + 1, f, i, r, hf, hk, hr => by
    have hi : i < s.length := by omega
    have hw : IntKind.i64.wrap ((i : Int) + 1) = ((i + 1 : Nat) : Int) := by rw [w64 (by omega) (by omega)]; omega
    have hget : s.getD (Int.toNat (i : Int)) 0 = s[i] := by
      rw [Int.toNat_natCast, List.getD_eq_getElem?_getD, List.getElem?_eq_getElem hi]; rfl
    have hdrop : s.drop i = s[i] :: s.drop (i + 1) := List.drop_eq_getElem_cons hi
    rw [Zl_eq]
    simp only [lt_nat, hi, decide_true, cond_true, inside_nat, hget, hw, cut_both hf (Nat.le_of_lt hi), cutList_both]
    rw [hdrop, splitC]
    by_cases hsep : ((s[i].toNat : Nat) : Int) = sep
    · have hb : ((((s[i].toNat : Nat) : Int)) == sep) = true := by simp [hsep]
      have hl : decide (r.length + [List.drop f (List.take i s)].length ≤ lim) = true := by simp [lim]; omega
      rw [hb, cond_true, hl, cond_true, if_pos hsep, p_octets_Split_1_val s sep hs k (i + 1) (i + 1) _ (Nat.le_refl _) (by omega) (by simp; omega)]
      simp
    · have hb : ((((s[i].toNat : Nat) : Int)) == sep) = false := by simp [hsep]
      rw [hb, cond_false, if_neg hsep, p_octets_Split_1_val s sep hs k f (i + 1) r (by omega) (by omega) (by omega), split_step hf hi]

theorem c_octets_Split_val (s : List UInt8) (sep : Int) (hs : s.length ≤ 1073741824) : c_octets_Split (s, sep) = some (splitAt s sep) := by
  rw [c_octets_Split_eq, Zk_eq]
  exact p_octets_Split_1_val s sep hs s.length 0 0 [] (Nat.le_refl _) (by omega) (by simpa using hs)
end Go.Abs
namespace Go.Abs
set_option autoImplicit false

def byteI (b : UInt8) : Int := ((b.toNat : Nat) : Int)
def lowI (x : Int) : Int := if 65 ≤ x ∧ x ≤ 90 then bits Go.BinOp.xor IntKind.u8 x 32 else x
def lowB (b : UInt8) : UInt8 := UInt8.ofNat (lowI (byteI b)).toNat

theorem byteI_lt (b : UInt8) : 0 ≤ byteI b ∧ byteI b ≤ 255 := by
  unfold byteI
  have := b.toNat_lt
  omega

theorem p_octets_turned_1_val (s0 : List UInt8) : ∀ (k i : Nat) (r : List Int), i + k = r.length → r.length ≤ 1073741824 →
    Zu s0 65 90 (r.length : Int) (i : Int) r = some (strOf (r.take i ++ (r.drop i).map lowI))
  | 0, i, r, hk, hr => by
    have hi : i = r.length := by omega
    subst hi
    rw [Zu_eq]
    simp [lt_nat]
  | k + 1, i, r, hk, hr => by
    have hi : i < r.length := by omega
    have hw : IntKind.i64.wrap ((i : Int) + 1) = ((i + 1 : Nat) : Int) := by rw [w64 (by omega) (by omega)]; omega
    have hget : List.getD r (Int.toNat (i : Int)) (Ty.zero (.int .u8)) = r[i] := by
      rw [Int.toNat_natCast, List.getD_eq_getElem?_getD, List.getElem?_eq_getElem hi]; rfl
    have hdrop : r.drop i = r[i] :: r.drop (i + 1) := List.drop_eq_getElem_cons hi
    have htake : ∀ l : List Int, (h : i < l.length) → l.take (i + 1) = l.take i ++ [l[i]] := fun l h => List.take_succ_eq_append_getElem h
    rw [Zu_eq]
    simp only [lt_nat, hi, decide_true, cond_true, inside_nat, hget, hw]
    rw [hdrop, List.map_cons]
    have next : Zu s0 65 90 (r.length : Int) ((i + 1 : Nat) : Int) r = some (strOf (r.take i ++ [r[i]] ++ (r.drop (i + 1)).map lowI)) := by
      rw [p_octets_turned_1_val s0 k (i + 1) r (by omega) hr, htake r hi]
    by_cases h1 : (65 : Int) ≤ r[i]
    · have e1 : decide (r[i] ≥ 65) = true := by simpa using h1
      rw [e1, cond_true]
      by_cases h2 : r[i] ≤ (90 : Int)
      · have e2 : decide (r[i] ≤ 90) = true := by simpa using h2
        rw [e2, cond_true]
        have hl : (List.set r (Int.toNat (i : Int)) (bits Go.BinOp.xor IntKind.u8 r[i] 32)).length = r.length := by simp
        have := p_octets_turned_1_val s0 k (i + 1) (List.set r (Int.toNat (i : Int)) (bits Go.BinOp.xor IntKind.u8 r[i] 32)) (by rw [hl]; omega) (by rw [hl]; exact hr)
        rw [hl] at this
        rw [this, Int.toNat_natCast]
        have e3 : lowI r[i] = bits Go.BinOp.xor IntKind.u8 r[i] 32 := by unfold lowI; rw [if_pos ⟨h1, h2⟩]
        rw [e3, htake _ (by simpa using hi)]
        simp [List.take_set_of_le, List.drop_set_of_lt]
      · have e2 : decide (r[i] ≤ 90) = false := by simpa using h2
        rw [e2, cond_false, next]
        have e3 : lowI r[i] = r[i] := by unfold lowI; rw [if_neg (fun h => h2 h.2)]
        rw [e3, List.append_assoc]; rfl
    · have e1 : decide (r[i] ≥ 65) = false := by simpa using h1
      rw [e1, cond_false, next]
      have e3 : lowI r[i] = r[i] := by unfold lowI; rw [if_neg (fun h => h1 h.1)]
      rw [e3, List.append_assoc]; rfl

theorem c_octets_Lower_val (s : List UInt8) (hs : s.length ≤ 1073741824) : c_octets_Lower s = some (s.map lowB) := by
  rw [c_octets_Lower_eq, Zh_eq, c_octets_turned_eq]
  simp only
  rw [Zt_eq]
  have hl : (bytesOf s).length = s.length := by simp [bytesOf]
  have := p_octets_turned_1_val s (bytesOf s).length 0 (bytesOf s) (by omega) (by omega)
  rw [show ((0 : Nat) : Int) = (0 : Int) from rfl] at this
  rw [this]
  simp [strOf, bytesOf, lowB, byteI, Function.comp_def]

def nib (x : Int) : Int :=
  if 48 ≤ x ∧ x ≤ 57 then x - 48 else if 97 ≤ x ∧ x ≤ 102 then x - 87 else if 65 ≤ x ∧ x ≤ 70 then x - 55 else -1

theorem w8 {x : Int} (h1 : 0 ≤ x) (h2 : x ≤ 255) : IntKind.u8.wrap x = x := by
  change (if (false && decide (x % (256 : Int) ≥ (128 : Int))) = true then x % (256 : Int) - (256 : Int) else x % (256 : Int)) = x
  rw [if_neg (by simp)]; omega

def hexs : List UInt8 := [48, 49, 50, 51, 52, 53, 54, 55, 56, 57, 97, 98, 99, 100, 101, 102]
theorem hexs_all : (List.range 256).all (fun n => decide (Lib.indexByte hexs (UInt8.ofNat (byteI (lowB (UInt8.ofNat n))).toNat) = nib (byteI (UInt8.ofNat n)))) = true := by kernel_rfl
theorem byte_all {p : UInt8 → Prop} (h : ∀ n, n < 256 → p (UInt8.ofNat n)) (b : UInt8) : p b := by
  have := h b.toNat b.toNat_lt
  rwa [UInt8.ofNat_toNat] at this
theorem hexs_nib (b : UInt8) : Lib.indexByte hexs (UInt8.ofNat (byteI (lowB b)).toNat) = nib (byteI b) := by
  refine byte_all (p := fun b => Lib.indexByte hexs (UInt8.ofNat (byteI (lowB b)).toNat) = nib (byteI b)) (fun n hn => ?_) b
  have := List.all_eq_true.1 hexs_all n (List.mem_range.2 hn)
  simpa using this

def numGo (base : Int) : Int → List UInt8 → Int
  | n, [] => n
  | n, b :: l => if nib (byteI b) < 0 ∨ base ≤ nib (byteI b) then -1 else numGo base (if n * base + nib (byteI b) < 1099511627776 then n * base + nib (byteI b) else 1099511627776) l

theorem nib_le (x : Int) : -1 ≤ nib x ∧ nib x ≤ 15 := by
  unfold nib; split
  · omega
  · split
    · omega
    · split <;> omega

def okNum (v : Int) : Int × Bool := if v < 0 then (0, false) else (v, true)

theorem p_host_number_3_val (s : List UInt8) (base : Int) (hb : 2 ≤ base ∧ base ≤ 16) (hs : s.length ≤ 1073741824) : ∀ (k i : Nat) (n : Int), i + k = s.length → 0 ≤ n → n ≤ 1099511627776 →
    Zd s base n (s.length : Int) (i : Int) = some (okNum (numGo base n (s.drop i)))
  | 0, i, n, hk, h0, h1 => by
    have hi : i = s.length := by omega
    subst hi
    rw [Zd_eq]
    simp [lt_nat, numGo, okNum]
    omega
  | k + 1, i, n, hk, h0, h1 => by
    have hi : i < s.length := by omega
    have hw : IntKind.i64.wrap ((i : Int) + 1) = ((i + 1 : Nat) : Int) := by rw [w64 (by omega) (by omega)]; omega
    have hnb := nib_le (byteI s[i])
    have hm0 : 0 ≤ n * base := Int.mul_nonneg h0 (by omega)
    have hm1 : n * base ≤ 1099511627776 * 16 := Int.mul_le_mul h1 hb.2 (by omega) (by omega)
    have hcut : (s.take (i + 1)).drop i = [s[i]] := by
      rw [split_step (Nat.le_refl _) hi]; simp
    rw [Zd_eq]
    simp only [lt_nat, hi, decide_true, cond_true, hw, cut_both (Nat.le_succ i) hi, cutList_both, hcut]
    rw [c_octets_Lower_val _ (by simp)]
    simp only [Option.bind_some, List.map_cons, List.map_nil]
    have e0 : inside (0 : Int) [lowB s[i]].length = true := by rw [show (0 : Int) = ((0 : Nat) : Int) from rfl, inside_nat]; simp
    rw [e0, cond_true, c_strings_IndexByte_eq]
    simp only [primIndexByte]
    rw [show (([lowB s[i]].getD (Int.toNat 0) (0 : UInt8)).toNat : Int) = byteI (lowB s[i]) from rfl]
    rw [show Lib.indexByte [48, 49, 50, 51, 52, 53, 54, 55, 56, 57, 97, 98, 99, 100, 101, 102] (UInt8.ofNat (byteI (lowB s[i])).toNat) = nib (byteI s[i]) from hexs_nib s[i]]
    simp only [Option.bind_some]
    rw [List.drop_eq_getElem_cons hi, numGo]
    by_cases a : nib (byteI s[i]) < 0
    · rw [decide_eq_true a, cond_true, if_pos (show nib (byteI s[i]) < 0 ∨ base ≤ nib (byteI s[i]) from .inl a)]; rfl
    · rw [decide_eq_false a, cond_false]
      by_cases b : base ≤ nib (byteI s[i])
      · rw [show decide (nib (byteI s[i]) ≥ base) = true from by simpa using b, cond_true, if_pos (show nib (byteI s[i]) < 0 ∨ base ≤ nib (byteI s[i]) from .inr b)]; rfl
      · rw [show decide (nib (byteI s[i]) ≥ base) = false from by simpa using b, cond_false, if_neg (show ¬ (nib (byteI s[i]) < 0 ∨ base ≤ nib (byteI s[i])) from fun h => h.elim a b)]
        rw [w64 (x := n * base) (by omega) (by omega), w64 (by omega) (by omega)]
        exact p_host_number_3_val s base hb hs k (i + 1) _ (by omega) (by split <;> omega) (by split <;> omega)
end Go.Abs
namespace Go.Abs
set_option autoImplicit false

def isX (b : UInt8) : Bool := byteI b == 120 || byteI b == 88
theorem isX_all : (List.range 256).all (fun n => (bits Go.BinOp.or IntKind.u8 (byteI (UInt8.ofNat n)) 32 == (120 : Int)) == isX (UInt8.ofNat n)) = true := by kernel_rfl
theorem or_isX (b : UInt8) : (bits Go.BinOp.or IntKind.u8 (byteI b) 32 == (120 : Int)) = isX b := by
  refine byte_all (p := fun b => (bits Go.BinOp.or IntKind.u8 (byteI b) 32 == (120 : Int)) = isX b) (fun n hn => ?_) b
  have := List.all_eq_true.1 isX_all n (List.mem_range.2 hn)
  simpa using this

def numOf (s : List UInt8) : Int := match s with
  | [] => -1
  | [b] => numGo 10 0 [b]
  | a :: b :: l => if byteI a = 48 then (if isX b = true then numGo 16 0 l else numGo 8 0 (b :: l)) else numGo 10 0 (a :: b :: l)

theorem numOf_cons (a b : UInt8) (l : List UInt8) : numOf (a :: b :: l) = if byteI a = 48 then (if isX b = true then numGo 16 0 l else numGo 8 0 (b :: l)) else numGo 10 0 (a :: b :: l) := rfl

theorem p_host_number_1_val (s : List UInt8) (base : Int) (hb : 2 ≤ base ∧ base ≤ 16) (hs : s.length ≤ 1073741824) : Zb s base = some (okNum (numGo base 0 s)) := by
  rw [Zb_eq]
  exact p_host_number_3_val s base hb hs s.length 0 0 (by omega) (by omega) (by omega)

theorem ge_two (a b : UInt8) (l : List UInt8) : decide ((((a :: b :: l).length : Nat) : Int) ≥ 2) = true := by simp; omega
theorem ge_one (a : UInt8) : decide ((([a].length : Nat) : Int) ≥ 2) = false := by simp
theorem in_zero {α : Type} (a : α) (l : List α) : inside (0 : Int) (a :: l).length = true := by
  rw [show (0 : Int) = ((0 : Nat) : Int) from rfl, inside_nat]; simp
theorem in_one {α : Type} (a b : α) (l : List α) : inside (1 : Int) (a :: b :: l).length = true := by
  rw [show (1 : Int) = ((1 : Nat) : Int) from rfl, inside_nat]; simp
theorem cut1 (a b : UInt8) (l : List UInt8) : cutOk (some (1 : Int)) none (a :: b :: l).length = true := cut_from (f := 1) (by simp)
theorem cut2 (a b : UInt8) (l : List UInt8) : cutOk (some (2 : Int)) none (a :: b :: l).length = true := cut_from (f := 2) (by simp)
theorem cutL1 (a b : UInt8) (l : List UInt8) : cutList (some (1 : Int)) none (a :: b :: l) = b :: l := cutList_from 1 _
theorem cutL2 (a b : UInt8) (l : List UInt8) : cutList (some (2 : Int)) none (a :: b :: l) = l := cutList_from 2 _
theorem get0 (a : UInt8) (l : List UInt8) : (((List.getD (a :: l) (Int.toNat (0 : Int)) (0 : UInt8)).toNat : Nat) : Int) = byteI a := rfl
theorem get1 (a b : UInt8) (l : List UInt8) : (((List.getD (a :: b :: l) (Int.toNat (1 : Int)) (0 : UInt8)).toNat : Nat) : Int) = byteI b := rfl

theorem c_host_number_val (s : List UInt8) (hs : s.length ≤ 1073741824) : c_host_number s = some (okNum (numOf s)) := by
  rw [c_host_number_eq, Za_eq]
  match s, hs with
  | [], _ => rfl
  | [a], hs =>
    simp only [ge_one, cond_false]
    rw [show (([a] : List UInt8) == []) = false from rfl, cond_false, Zc_eq, p_host_number_1_val _ _ (by omega) hs]
    rfl
  | a :: b :: l, hs =>
    have hl : (b :: l).length ≤ 1073741824 := by simp only [List.length_cons] at hs ⊢; omega
    have hl2 : l.length ≤ 1073741824 := by simp only [List.length_cons] at hs; omega
    have e0 : ((a :: b :: l : List UInt8) == []) = false := rfl
    simp only [e0, cond_false, ge_two, cond_true, in_zero, in_one, get0, get1, cut1, cut2, cutL1, cutL2, or_isX, Zc_eq, p_host_number_1_val _ _ (show (2 : Int) ≤ 16 ∧ (16 : Int) ≤ 16 by omega) hl2,
      p_host_number_1_val _ _ (show (2 : Int) ≤ 8 ∧ (8 : Int) ≤ 16 by omega) hl, p_host_number_1_val _ _ (show (2 : Int) ≤ 10 ∧ (10 : Int) ≤ 16 by omega) hs]
    rw [numOf_cons]
    by_cases h48 : byteI a = 48
    · rw [if_pos h48, show (byteI a == 48) = true from by simpa using h48]
      simp only [cond_true]
      cases hx : isX b <;> simp
    · rw [if_neg h48, show (byteI a == 48) = false from by simpa using h48]
      simp only [cond_false]

theorem numGo_le (base : Int) : ∀ (l : List UInt8) (n : Int), n ≤ 1099511627776 → numGo base n l ≤ 1099511627776
  | [], n, h => h
  | b :: l, n, h => by
    unfold numGo
    split
    · omega
    · exact numGo_le base l _ (by split <;> omega)
theorem numOf_le (s : List UInt8) : numOf s ≤ 1099511627776 := by
  unfold numOf
  split
  · omega
  · exact numGo_le _ _ _ (by omega)
  · split
    · split
      · exact numGo_le _ _ _ (by omega)
      · exact numGo_le _ _ _ (by omega)
    · exact numGo_le _ _ _ (by omega)

def partsOf (s : List UInt8) : List (List UInt8) :=
  if 1 < (splitAt s 46).length ∧ (splitAt s 46).getD ((splitAt s 46).length - 1) [] = [] then (splitAt s 46).take ((splitAt s 46).length - 1) else splitAt s 46

theorem splitC_pos (sep : Int) : ∀ (l cur : List UInt8), 1 ≤ (splitC sep cur l).length
  | [], cur => by simp [splitC]
  | b :: l, cur => by
    unfold splitC
    split
    · simp
    · exact splitC_pos sep l _

theorem parts_core (y : List (List UInt8)) (h1 : 1 ≤ y.length) (h2 : y.length ≤ 1073741825) :
    (bif (decide ((((List.length y) : Nat) : Int) > (1 : Int))) then
        bif (inside (IntKind.wrap IntKind.i64 ((((List.length y) : Nat) : Int) - (1 : Int))) (List.length y)) then
          bif ((List.getD y (Int.toNat (IntKind.wrap IntKind.i64 ((((List.length y) : Nat) : Int) - (1 : Int)))) (Ty.zero .str)) == ([] : List UInt8)) then
            bif (cutOk none (some (IntKind.wrap IntKind.i64 ((((List.length y) : Nat) : Int) - (1 : Int)))) (List.length y)) then
              some (List.take (Option.getD (Option.map (Int.toNat) (some (IntKind.wrap IntKind.i64 ((((List.length y) : Nat) : Int) - (1 : Int))))) (List.length y)) y)
            else
              none
          else
            some y
        else
          none
      else
        some y) = some (if 1 < y.length ∧ y.getD (y.length - 1) [] = [] then y.take (y.length - 1) else y) := by
  have hw : IntKind.i64.wrap ((y.length : Int) - 1) = ((y.length - 1 : Nat) : Int) := by rw [w64 (by omega) (by omega)]; omega
  by_cases h : 1 < y.length
  · have e1 : decide (((y.length : Nat) : Int) > 1) = true := by simp; omega
    rw [e1, cond_true, hw, inside_nat, decide_eq_true (by omega : y.length - 1 < y.length), cond_true, Int.toNat_natCast]
    rw [show Ty.zero .str = ([] : List UInt8) from rfl]
    by_cases g : y.getD (y.length - 1) [] = []
    · rw [g, show ((([] : List UInt8)) == []) = true from rfl, cond_true, if_pos ⟨h, rfl⟩]
      have : cutOk none (some ((y.length - 1 : Nat) : Int)) y.length = true := by simp [cutOk]
      rw [this, cond_true]
      simp
    · rw [show (y.getD (y.length - 1) [] == ([] : List UInt8)) = false from by simpa using g, cond_false, if_neg (fun k => g k.2)]
  · have e1 : decide (((y.length : Nat) : Int) > 1) = false := by simp; omega
    rw [e1, cond_false, if_neg (fun k => h k.1)]

theorem c_host_parts_val (s : List UInt8) (hs : s.length ≤ 1073741824) : c_host_parts s = some (partsOf s) := by
  rw [c_host_parts_eq, Z9_eq, c_octets_Split_val s 46 hs]
  exact parts_core _ (splitC_pos _ _ _) (by have := splitC_length 46 s []; unfold splitAt; omega)
theorem splitC_le (sep : Int) : ∀ (l cur x : List UInt8), x ∈ splitC sep cur l → x.length ≤ cur.length + l.length
  | [], cur, x, h => by
    simp only [splitC, List.mem_singleton] at h; subst h; simp
  | b :: l, cur, x, h => by
    unfold splitC at h
    split at h
    · rcases List.mem_cons.1 h with rfl | h
      · simp
      · have := splitC_le sep l [] x h; simp only [List.length_nil, List.length_cons] at this ⊢; omega
    · have := splitC_le sep l _ x h; simp only [List.length_append, List.length_cons, List.length_nil] at this ⊢; omega
theorem partsOf_mem (s x : List UInt8) (h : x ∈ partsOf s) : x.length ≤ s.length := by
  have : x ∈ splitAt s 46 := by
    unfold partsOf at h
    split at h
    · exact List.mem_of_mem_take h
    · exact h
  have := splitC_le 46 s [] x this
  simpa using this
theorem partsOf_pos (s : List UInt8) : 1 ≤ (partsOf s).length := by
  have := splitC_pos 46 s []
  unfold partsOf
  split
  · rename_i h; rw [List.length_take]; omega
  · exact this
theorem partsOf_len (s : List UInt8) : (partsOf s).length ≤ s.length + 1 := by
  have := splitC_length 46 s []
  unfold partsOf
  split
  · rw [List.length_take]; unfold splitAt; omega
  · exact this
end Go.Abs
namespace Go.Abs
set_option autoImplicit false

theorem shl64 {x : Int} {y : Nat} (hy : y ≤ 64) (h1 : -9223372036854775808 ≤ x * 2 ^ y) (h2 : x * 2 ^ y ≤ 9223372036854775807) : shl IntKind.i64 x (y : Int) = x * 2 ^ y := by
  unfold shl
  rw [Int.toNat_natCast, show (min y IntKind.i64.bits) = y from Nat.min_eq_left hy]
  exact w64 h1 h2

def ip4 : List Int → Int × Int
  | [a] => if 4294967296 ≤ a then (0, 4) else (IntKind.u32.wrap a, 0)
  | [a, b] => if 16777216 ≤ b ∨ 255 < a then (0, 4) else (IntKind.u32.wrap (b + a * 16777216), 0)
  | [a, b, c] => if 65536 ≤ c ∨ 255 < a ∨ 255 < b then (0, 4) else (IntKind.u32.wrap (c + a * 16777216 + b * 65536), 0)
  | [a, b, c, d] => if 256 ≤ d ∨ 255 < a ∨ 255 < b ∨ 255 < c then (0, 4) else (IntKind.u32.wrap (d + a * 16777216 + b * 65536 + c * 256), 0)
  | _ => (0, 0)

theorem ip4_1 (a : Int) : ip4 [a] = if 4294967296 ≤ a then (0, 4) else (IntKind.u32.wrap a, 0) := rfl
theorem ip4_2 (a b : Int) : ip4 [a, b] = if 16777216 ≤ b ∨ 255 < a then (0, 4) else (IntKind.u32.wrap (b + a * 16777216), 0) := rfl
theorem ip4_3 (a b c : Int) : ip4 [a, b, c] = if 65536 ≤ c ∨ 255 < a ∨ 255 < b then (0, 4) else (IntKind.u32.wrap (c + a * 16777216 + b * 65536), 0) := rfl
theorem ip4_4 (a b c d : Int) : ip4 [a, b, c, d] = if 256 ≤ d ∨ 255 < a ∨ 255 < b ∨ 255 < c then (0, 4) else (IntKind.u32.wrap (d + a * 16777216 + b * 65536 + c * 256), 0) := rfl
theorem d32 : decide ((0 : Int) ≤ 32) = true := rfl
theorem d24 : decide ((0 : Int) ≤ 24) = true := rfl
theorem d16 : decide ((0 : Int) ≤ 16) = true := rfl
theorem d8 : decide ((0 : Int) ≤ 8) = true := rfl

theorem o32 : shl IntKind.i64 1 32 = 4294967296 := by kernel_rfl
theorem o24 : shl IntKind.i64 1 24 = 16777216 := by kernel_rfl
theorem o16 : shl IntKind.i64 1 16 = 65536 := by kernel_rfl
theorem o8 : shl IntKind.i64 1 8 = 256 := by kernel_rfl

theorem k1 : IntKind.i64.wrap ((1 : Int) - 1) = 0 := by kernel_rfl
theorem k2 : IntKind.i64.wrap ((2 : Int) - 1) = 1 := by kernel_rfl
theorem k3 : IntKind.i64.wrap ((3 : Int) - 1) = 2 := by kernel_rfl
theorem k4 : IntKind.i64.wrap ((4 : Int) - 1) = 3 := by kernel_rfl
theorem q1 : IntKind.i64.wrap (8 * IntKind.i64.wrap ((5 : Int) - 1)) = 32 := by kernel_rfl
theorem q2 : IntKind.i64.wrap (8 * IntKind.i64.wrap ((5 : Int) - 2)) = 24 := by kernel_rfl
theorem q3 : IntKind.i64.wrap (8 * IntKind.i64.wrap ((5 : Int) - 3)) = 16 := by kernel_rfl
theorem q4 : IntKind.i64.wrap (8 * IntKind.i64.wrap ((5 : Int) - 4)) = 8 := by kernel_rfl
theorem r0 : IntKind.i64.wrap (8 * IntKind.i64.wrap ((3 : Int) - 0)) = 24 := by kernel_rfl
theorem r1 : IntKind.i64.wrap (8 * IntKind.i64.wrap ((3 : Int) - 1)) = 16 := by kernel_rfl
theorem r2 : IntKind.i64.wrap (8 * IntKind.i64.wrap ((3 : Int) - 2)) = 8 := by kernel_rfl
theorem a1 : IntKind.i64.wrap ((0 : Int) + 1) = 1 := by kernel_rfl
theorem a2 : IntKind.i64.wrap ((1 : Int) + 1) = 2 := by kernel_rfl
theorem a3 : IntKind.i64.wrap ((2 : Int) + 1) = 3 := by kernel_rfl
theorem p_host_IPv4_2_end (s : List UInt8) (n : Int) (hi : Nat) (r : List Int) : Z5 s n 0 hi (hi : Int) (hi : Int) r = some (IntKind.u32.wrap n, 0) := by
  rw [Z5_eq]; simp

theorem p_host_IPv4_2_go (s : List UInt8) (n : Int) (hi i : Nat) (r : List Int) (x : Int) (hx : r[i]? = some x) (h : i < hi) (hhi : hi ≤ 3) (h0 : 0 ≤ x) (hn0 : 0 ≤ n) (hn1 : n ≤ 1099511627776) :
    Z5 s n 0 hi (hi : Int) (i : Int) r = if 255 < x then some (0, 4) else Z5 s (n + x * 2 ^ (8 * (3 - i))) 0 hi (hi : Int) ((i + 1 : Nat) : Int) r := by
  have hget : List.getD r (0 + Int.toNat (i : Int)) (Ty.zero (.int .i64)) = x := by
    rw [Nat.zero_add, Int.toNat_natCast, List.getD_eq_getElem?_getD, hx]; rfl
  have hw : IntKind.i64.wrap ((i : Int) + 1) = ((i + 1 : Nat) : Int) := by rw [w64 (by omega) (by omega)]; omega
  have hsh : IntKind.i64.wrap (8 * IntKind.i64.wrap ((3 : Int) - (i : Int))) = ((8 * (3 - i) : Nat) : Int) := by
    rw [w64 (x := 3 - (i : Int)) (by omega) (by omega), w64 (by omega) (by omega)]; omega
  rw [Z5_eq]
  simp only [lt_nat, h, decide_true, cond_true, Nat.sub_zero, inside_nat, hget, hw, hsh]
  by_cases c : 255 < x
  · rw [show decide (x > 255) = true from by simpa using c, cond_true, if_pos c]
  · rw [show decide (x > 255) = false from by simpa using c, cond_false, if_neg c, show decide ((0 : Int) ≤ ((8 * (3 - i) : Nat) : Int)) = true from by simp; omega, cond_true]
    have h2 : x * 2 ^ (8 * (3 - i)) ≤ 255 * 16777216 := by
      have : i = 0 ∨ i = 1 ∨ i = 2 := by omega
      rcases this with rfl | rfl | rfl <;> simp <;> omega
    have h1 : 0 ≤ x * 2 ^ (8 * (3 - i)) := Int.mul_nonneg h0 (Int.le_of_lt (Int.pow_pos (by omega)))
    rw [shl64 (by omega) (by omega) (by omega), w64 (by omega) (by omega)]

theorem p40_fin (s : List UInt8) (m : Nat) (parts : List (List UInt8)) (r : List Int) (h1 : 1 ≤ r.length) (h4 : r.length ≤ 4) (hr : ∀ x ∈ r, 0 ≤ x ∧ x ≤ 1099511627776) : Z4 s (m : Int) (m : Int) r parts = some (ip4 r) := by
  rw [Z4_eq]
  have e : decide ((m : Int) < (m : Int)) = false := by simp
  rw [e, cond_false]
  match r, h1, h4, hr with
  | [a], _, _, hr =>
    obtain ⟨ha0, ha1⟩ := hr a (by simp)
    simp only [List.length_cons, List.length_nil, Nat.zero_add, Int.natCast_one, Int.cast_ofNat_Int, k1, q1, o32, d32]
    rw [show inside (0 : Int) 1 = true from rfl]
    simp only [cond_true]
    rw [show List.getD [a] (Int.toNat 0) (Ty.zero (.int .i64)) = a from rfl]
    rw [ip4_1]
    by_cases c : 4294967296 ≤ a
    · rw [show decide (a ≥ 4294967296) = true from by simpa using c, cond_true, if_pos c]
    · rw [show decide (a ≥ 4294967296) = false from by simpa using c, cond_false, if_neg c]
      rw [show cutOk none (some (0 : Int)) 1 = true from rfl, cond_true]
      exact p_host_IPv4_2_end s a 0 [a]
  | [a, b], _, _, hr =>
    obtain ⟨ha0, ha1⟩ := hr a (by simp)
    obtain ⟨hb0, hb1⟩ := hr b (by simp)
    simp only [List.length_cons, List.length_nil, Nat.zero_add, Nat.reduceAdd, Int.cast_ofNat_Int, k2, q2, o24, d24]
    rw [show inside (1 : Int) 2 = true from rfl]
    simp only [cond_true]
    rw [show List.getD [a, b] (Int.toNat 1) (Ty.zero (.int .i64)) = b from rfl]
    rw [ip4_2]
    by_cases c : 16777216 ≤ b
    · rw [show decide (b ≥ 16777216) = true from by simpa using c, cond_true, if_pos (.inl c)]
    · rw [show decide (b ≥ 16777216) = false from by simpa using c, cond_false]
      rw [show cutOk none (some (1 : Int)) 2 = true from rfl, cond_true]
      refine (p_host_IPv4_2_go s b 1 0 [a, b] a rfl (by omega) (by omega) ha0 hb0 hb1).trans ?_
      by_cases d : 255 < a
      · rw [if_pos d, if_pos (.inr d)]
      · rw [if_neg d, if_neg (fun h => h.elim c d)]
        exact p_host_IPv4_2_end s _ 1 _
  | [a, b, c], _, _, hr =>
    obtain ⟨ha0, ha1⟩ := hr a (by simp)
    obtain ⟨hb0, hb1⟩ := hr b (by simp)
    obtain ⟨hc0, hc1⟩ := hr c (by simp)
    simp only [List.length_cons, List.length_nil, Nat.zero_add, Nat.reduceAdd, Int.cast_ofNat_Int, k3, q3, o16, d16]
    rw [show inside (2 : Int) 3 = true from rfl]
    simp only [cond_true]
    rw [show List.getD [a, b, c] (Int.toNat 2) (Ty.zero (.int .i64)) = c from rfl]
    rw [ip4_3]
    by_cases g : 65536 ≤ c
    · rw [show decide (c ≥ 65536) = true from by simpa using g, cond_true, if_pos (.inl g)]
    · rw [show decide (c ≥ 65536) = false from by simpa using g, cond_false]
      rw [show cutOk none (some (2 : Int)) 3 = true from rfl, cond_true]
      refine (p_host_IPv4_2_go s c 2 0 [a, b, c] a rfl (by omega) (by omega) ha0 hc0 hc1).trans ?_
      by_cases d : 255 < a
      · rw [if_pos d, if_pos (.inr (.inl d))]
      · rw [if_neg d]
        refine (p_host_IPv4_2_go s _ 2 1 [a, b, c] b rfl (by omega) (by omega) hb0 (by omega) (by omega)).trans ?_
        by_cases f : 255 < b
        · rw [if_pos f, if_pos (.inr (.inr f))]
        · rw [if_neg f, if_neg (fun h => h.elim g (fun h => h.elim d f))]
          exact p_host_IPv4_2_end s _ 2 _
  | [a, b, c, x], _, _, hr =>
    obtain ⟨ha0, ha1⟩ := hr a (by simp)
    obtain ⟨hb0, hb1⟩ := hr b (by simp)
    obtain ⟨hc0, hc1⟩ := hr c (by simp)
    obtain ⟨hx0, hx1⟩ := hr x (by simp)
    simp only [List.length_cons, List.length_nil, Nat.zero_add, Nat.reduceAdd, Int.cast_ofNat_Int, k4, q4, o8, d8]
    rw [show inside (3 : Int) 4 = true from rfl]
    simp only [cond_true]
    rw [show List.getD [a, b, c, x] (Int.toNat 3) (Ty.zero (.int .i64)) = x from rfl]
    rw [ip4_4]
    by_cases g : 256 ≤ x
    · rw [show decide (x ≥ 256) = true from by simpa using g, cond_true, if_pos (.inl g)]
    · rw [show decide (x ≥ 256) = false from by simpa using g, cond_false]
      rw [show cutOk none (some (3 : Int)) 4 = true from rfl, cond_true]
      refine (p_host_IPv4_2_go s x 3 0 [a, b, c, x] a rfl (by omega) (by omega) ha0 hx0 hx1).trans ?_
      by_cases d : 255 < a
      · rw [if_pos d, if_pos (.inr (.inl d))]
      · rw [if_neg d]
        refine (p_host_IPv4_2_go s _ 3 1 [a, b, c, x] b rfl (by omega) (by omega) hb0 (by omega) (by omega)).trans ?_
        by_cases f : 255 < b
        · rw [if_pos f, if_pos (.inr (.inr (.inl f)))]
        · rw [if_neg f]
          refine (p_host_IPv4_2_go s _ 3 2 [a, b, c, x] c rfl (by omega) (by omega) hc0 (by omega) (by omega)).trans ?_
          by_cases k : 255 < c
          · rw [if_pos k, if_pos (.inr (.inr (.inr k)))]
          · rw [if_neg k, if_neg (fun h => h.elim g (fun h => h.elim d (fun h => h.elim f k)))]
            exact p_host_IPv4_2_end s _ 3 _

def numsOf : List (List UInt8) → Option (List Int)
  | [] => some []
  | x :: l => if numOf x < 0 then none else match numsOf l with
    | some r => some (numOf x :: r)
    | none => none
def ipEnd (r : List Int) : Option (List Int) → Int × Int
  | some l => ip4 (r ++ l)
  | none => (0, 54)

theorem p_host_IPv4_1_val (s : List UInt8) (parts : List (List UInt8)) (h4 : parts.length ≤ 4) (hp : ∀ x ∈ parts, x.length ≤ 1073741824) : ∀ (k i : Nat) (r : List Int), i + k = parts.length → r.length = i → (∀ x ∈ r, 0 ≤ x ∧ x ≤ 1099511627776) → 1 ≤ parts.length →
    Z4 s (parts.length : Int) (i : Int) r parts = some (ipEnd r (numsOf (parts.drop i)))
  | 0, i, r, hk, hl, hr, h1 => by
    have hi : i = parts.length := by omega
    subst hi
    rw [p40_fin s parts.length parts r (by omega) (by omega) hr]
    simp [numsOf, ipEnd]
  | k + 1, i, r, hk, hl, hr, h1 => by
    have hi : i < parts.length := by omega
    have hw : IntKind.i64.wrap ((i : Int) + 1) = ((i + 1 : Nat) : Int) := by rw [w64 (by omega) (by omega)]; omega
    have hget : List.getD parts (Int.toNat (i : Int)) (Ty.zero .str) = parts[i] := by
      rw [Int.toNat_natCast, List.getD_eq_getElem?_getD, List.getElem?_eq_getElem hi]; rfl
    rw [Z4_eq]
    simp only [lt_nat, hi, decide_true, cond_true, inside_nat, hget, hw, c_host_number_val _ (hp _ (List.getElem_mem hi)), Option.bind_some]
    rw [List.drop_eq_getElem_cons hi, numsOf]
    by_cases c : numOf parts[i] < 0
    · simp [okNum, c, ipEnd]
    · have hb : decide (r.length + [(okNum (numOf parts[i])).1].length ≤ lim) = true := by simp [lim]; omega
      have e1 : (okNum (numOf parts[i])).2 = true := by simp [okNum, c]
      have e2 : (okNum (numOf parts[i])).1 = numOf parts[i] := by simp [okNum, c]
      rw [hb, e1, e2, Bool.not_true, cond_false, cond_true, if_neg c]
      have hle := numOf_le parts[i]
      rw [p_host_IPv4_1_val s parts h4 hp k (i + 1) _ (by omega) (by simp; omega) (by
        intro x hx
        rcases List.mem_append.1 hx with hx | hx
        · exact hr x hx
        · have : x = numOf parts[i] := by simpa using hx
          subst this; omega) h1]
      cases numsOf (parts.drop (i + 1)) <;> simp [ipEnd]

def ipOf (s : List UInt8) : Int × Int := if 4 < (partsOf s).length then (0, 3) else ipEnd [] (numsOf (partsOf s))
theorem c_host_IPv4_val (s : List UInt8) (hs : s.length ≤ 1073741823) : c_host_IPv4 s = some (ipOf s) := by
  rw [c_host_IPv4_eq, Z3_eq, c_host_parts_val s (by omega)]
  simp only [Option.bind_some]
  unfold ipOf
  by_cases c : 4 < (partsOf s).length
  · rw [show decide ((((partsOf s).length : Nat) : Int) > 4) = true from by simp; omega, cond_true, if_pos c]
  · rw [show decide ((((partsOf s).length : Nat) : Int) > 4) = false from by simp; omega, cond_false, if_neg c]
    exact p_host_IPv4_1_val s (partsOf s) (by omega) (fun x hx => by have := partsOf_mem s x hx; omega) (partsOf s).length 0 [] (by omega) rfl (fun x hx => by cases hx) (partsOf_pos s)
end Go.Abs
namespace Go.Abs
set_option autoImplicit false

theorem get!_list (l : List UInt8) (i : Nat) : ((⟨l.toArray⟩ : ByteArray).get! i) = l.getD i 0 := by
  show l.toArray[i]! = _
  simp [List.getD_eq_getElem?_getD, getElem!_def]
  cases l[i]? <;> rfl

theorem decRune_ascii (s : List UInt8) (i : Nat) (h : (s.getD i 0).toNat < 128) : decRune s i = ((s.getD i 0).toNat, 1) := by
  unfold decRune Utf8.decode
  simp only [Nat.add_zero, get!_list]
  rw [if_pos h]

theorem decRune_high (s : List UInt8) (i : Nat) (h : 128 ≤ (s.getD i 0).toNat) : 128 ≤ (decRune s i).1 := by
  unfold decRune Utf8.decode
  simp only [Nat.add_zero, get!_list]
  rw [if_neg (by omega)]
  have hr : Utf8.runeError = 65533 := rfl
  split
  · split <;> simp only <;> omega
  · split
    · split
      · rename_i h1; simp only [Bool.and_eq_true, decide_eq_true_eq] at h1; simp only; omega
      · simp only; omega
    · split
      · split
        · rename_i h1; simp only [Bool.and_eq_true, decide_eq_true_eq] at h1; simp only; omega
        · simp only; omega
      · simp only; omega

def inSet (of : List UInt8) (c : Int) : Bool := of.any fun b => c == byteI b

theorem p_host_cutLeft_2_val (s of t : List UInt8) (i c : Int) (n : Nat) (hof : ∀ b ∈ of, b.toNat < 128) : ∀ (k j : Nat) (fl : Bool), j + k = of.length →
    Zy s of i c fl t n of j = Zy s of i c (fl || inSet (of.drop j) c) t n of of.length
  | 0, j, fl, hk => by
    have : j = of.length := by omega
    subst this
    simp [inSet]
  | k + 1, j, fl, hk => by
    have hj : j < of.length := by omega
    have hget : of.getD j 0 = of[j] := by rw [List.getD_eq_getElem?_getD, List.getElem?_eq_getElem hj]; rfl
    have hd : decRune of j = (of[j].toNat, 1) := by
      rw [decRune_ascii of j (by rw [hget]; exact hof _ (List.getElem_mem hj)), hget]
    rw [Zy_eq]
    simp only [decide_eq_true hj, cond_true, hd]
    rw [List.drop_eq_getElem_cons hj]
    cases fl with
    | true =>
      rw [cond_true, p_host_cutLeft_2_val s of t i c n hof k (j + 1) true (by omega)]
      simp
    | false =>
      rw [cond_false, p_host_cutLeft_2_val s of t i c n hof k (j + 1) _ (by omega)]
      rfl

theorem p_host_cutRight_2_val (s of : List UInt8) (c w : Int) (hof : ∀ b ∈ of, b.toNat < 128) : ∀ (k j : Nat) (fl : Bool), j + k = of.length →
    Z11 s of c w fl of j = Z11 s of c w (fl || inSet (of.drop j) c) of of.length
  | 0, j, fl, hk => by
    have : j = of.length := by omega
    subst this
    simp [inSet]
  | k + 1, j, fl, hk => by
    have hj : j < of.length := by omega
    have hget : of.getD j 0 = of[j] := by rw [List.getD_eq_getElem?_getD, List.getElem?_eq_getElem hj]; rfl
    have hd : decRune of j = (of[j].toNat, 1) := by
      rw [decRune_ascii of j (by rw [hget]; exact hof _ (List.getElem_mem hj)), hget]
    rw [Z11_eq]
    simp only [decide_eq_true hj, cond_true, hd]
    rw [List.drop_eq_getElem_cons hj]
    cases fl with
    | true =>
      rw [cond_true, p_host_cutRight_2_val s of c w hof k (j + 1) true (by omega)]
      simp
    | false =>
      rw [cond_false, p_host_cutRight_2_val s of c w hof k (j + 1) _ (by omega)]
      rfl

theorem inSet_high (of : List UInt8) (hof : ∀ b ∈ of, b.toNat < 128) (c : Int) (h : 128 ≤ c) : inSet of c = false := by
  unfold inSet
  rw [List.any_eq_false]
  intro b hb
  have := hof b hb
  simp only [byteI, beq_iff_eq]
  omega

theorem p_host_cutLeft_1_val (s of : List UInt8) (hof : ∀ b ∈ of, b.toNat < 128) (hs : s.length ≤ 1073741824) : ∀ (k n : Nat), n + k = s.length →
    Zx s of s n = some ((s.drop n).dropWhile fun b => inSet of (byteI b))
  | 0, n, hk => by
    have : n = s.length := by omega
    subst this
    rw [Zx_eq]; simp
  | k + 1, n, hk => by
    have hn : n < s.length := by omega
    have hget : s.getD n 0 = s[n] := by rw [List.getD_eq_getElem?_getD, List.getElem?_eq_getElem hn]; rfl
    rw [Zx_eq, decide_eq_true hn, cond_true, p_host_cutLeft_2_val s of s _ _ _ hof of.length 0 false (by omega), List.drop_zero, Bool.false_or, Zy_eq]
    rw [show decide (of.length < of.length) = false from by simp, cond_false, List.drop_eq_getElem_cons hn]
    by_cases ha : s[n].toNat < 128
    · have hd := decRune_ascii s n (by rw [hget]; exact ha)
      rw [hget] at hd
      rw [hd]
      show (bif !(inSet of (byteI s[n])) then _ else _) = _
      rw [List.dropWhile_cons]
      cases hin : inSet of (byteI s[n]) with
      | true =>
        rw [if_pos rfl]
        exact p_host_cutLeft_1_val s of hof hs k (n + 1) (by omega)
      | false =>
        rw [Bool.not_false, cond_true, cut_from (by omega), cond_true, cutList_from, if_neg (by simp), List.drop_eq_getElem_cons hn]
    · have hd := decRune_high s n (by rw [hget]; omega)
      have h1 : inSet of (((decRune s n).1 : Nat) : Int) = false := inSet_high of hof _ (by omega)
      have h2 : inSet of (byteI s[n]) = false := inSet_high of hof _ (by unfold byteI; omega)
      rw [h1, Bool.not_false, cond_true, cut_from (by omega), cond_true, cutList_from, List.dropWhile_cons, h2, if_neg (by simp), List.drop_eq_getElem_cons hn]

theorem c_host_cutLeft_val (s of : List UInt8) (hof : ∀ b ∈ of, b.toNat < 128) (hs : s.length ≤ 1073741824) : c_host_cutLeft (s, of) = some (s.dropWhile fun b => inSet of (byteI b)) := by
  rw [c_host_cutLeft_eq, Zw_eq]
  exact p_host_cutLeft_1_val s of hof hs s.length 0 (by omega)

theorem last_high (l : List UInt8) (b : UInt8) (h : 128 ≤ b.toNat) : 128 ≤ (Lib.decodeLastL (l ++ [b])).1 := by
  unfold Lib.decodeLastL
  have hr : Utf8.runeError = 65533 := rfl
  have hlast : (l ++ [b]).getD ((l ++ [b]).length - 1) 0 = b := by simp
  rw [if_neg (by simp), hlast, if_neg (by omega)]
  simp only
  split
  · rename_i hd
    generalize Lib.lastStart (l ++ [b]) = st at hd ⊢
    unfold Lib.decodeL at hd ⊢
    rcases Nat.lt_or_ge (((l ++ [b]).drop st).getD 0 0).toNat 128 with hlt | hge
    · have e := decRune_ascii ((l ++ [b]).drop st) 0 hlt
      unfold decRune at e
      rw [e] at hd
      simp only [List.length_append, List.length_cons, List.length_nil] at hd
      have hst : st = l.length := by omega
      subst hst
      simp at hlt
      omega
    · exact decRune_high ((l ++ [b]).drop st) 0 hge
  · simp only; omega

theorem p_host_cutRight_1_val (of : List UInt8) (hof : ∀ b ∈ of, b.toNat < 128) : ∀ (k : Nat) (s : List UInt8), s.length = k → s.length ≤ 1073741824 → ∃ r, Z01 s of = some r ∧ (r = [] ↔ s.all (fun b => inSet of (byteI b)) = true)
  | 0, s, hk, hs => by
    have : s = [] := List.eq_nil_of_length_eq_zero hk
    subst this
    exact ⟨[], by rw [Z01_eq]; rfl, by simp⟩
  | k + 1, s, hk, hs => by
    obtain ⟨l, b, rfl⟩ : ∃ l b, s = l ++ [b] := by
      have hne : s ≠ [] := by intro e; rw [e] at hk; cases hk
      exact ⟨s.dropLast, s.getLast hne, (List.dropLast_concat_getLast hne).symm⟩
    have hl : l.length = k := by simpa using hk
    rw [Z01_eq, show decide ((((l ++ [b]).length : Nat) : Int) > 0) = true from by simp, cond_true, c_utf8_DecodeLastRuneInString_eq]
    rw [primDecodeLast, show decide ((l ++ [b]).length ≤ 9223372036854775807) = true from decide_eq_true (by omega), cond_true, Option.bind_some]
    rw [p_host_cutRight_2_val _ of _ _ hof of.length 0 false (by omega), List.drop_zero, Bool.false_or, Z11_eq, show decide (of.length < of.length) = false from by simp, cond_false]
    by_cases ha : b.toNat < 128
    · have hd : Lib.decodeLastL (l ++ [b]) = (b.toNat, 1) := by
        unfold Lib.decodeLastL
        have hlast : (l ++ [b]).getD ((l ++ [b]).length - 1) 0 = b := by simp
        rw [if_neg (by simp), hlast, if_pos ha]
      rw [hd]
      show ∃ r, (bif !(inSet of (byteI b)) then _ else _) = some r ∧ _
      cases hin : inSet of (byteI b) with
      | false =>
        exact ⟨l ++ [b], rfl, by simp [hin]⟩
      | true =>
        have hw : IntKind.i64.wrap ((((l ++ [b]).length : Nat) : Int) - ((1 : Nat) : Int)) = ((l.length : Nat) : Int) := by
          simp only [List.length_append, List.length_cons, List.length_nil]
          rw [w64 (by omega) (by omega)]; omega
        rw [Bool.not_true, cond_false, hw]
        have hc : cutOk none (some ((l.length : Nat) : Int)) (l ++ [b]).length = true := by simp [cutOk]; omega
        have hcl : cutList none (some ((l.length : Nat) : Int)) (l ++ [b]) = l := by simp [cutList]
        rw [hc, cond_true, hcl]
        obtain ⟨r, h1, h2⟩ := p_host_cutRight_1_val of hof k l hl (by simp at hs; omega)
        exact ⟨r, h1, by rw [h2]; simp [hin]⟩
    · have h1 := last_high l b (by omega)
      have h2 : inSet of (((Lib.decodeLastL (l ++ [b])).1 : Nat) : Int) = false := inSet_high of hof _ (by omega)
      have h3 : inSet of (byteI b) = false := inSet_high of hof _ (by unfold byteI; omega)
      rw [h2]
      exact ⟨l ++ [b], rfl, by simp [h3]⟩

theorem c_host_all_val (s of : List UInt8) (hof : ∀ b ∈ of, b.toNat < 128) (hs : s.length ≤ 1073741824) : c_host_all (s, of) = some (s.all fun b => inSet of (byteI b)) := by
  rw [c_host_all_eq, Zj_eq, c_host_cutLeft_val s of hof hs]
  simp only [Option.bind_some]
  have hle : (s.dropWhile fun b => inSet of (byteI b)).length ≤ s.length := by
    exact (List.dropWhile_suffix _).length_le
  rw [c_host_cutRight_eq, Zz_eq]
  obtain ⟨r, h1, h2⟩ := p_host_cutRight_1_val of hof _ (s.dropWhile fun b => inSet of (byteI b)) rfl (by omega)
  rw [h1]
  simp only [Option.bind_some]
  have key : (r = []) ↔ s.all (fun b => inSet of (byteI b)) = true := by
    rw [h2]
    clear h1 h2 hle hs
    induction s with
    | nil => simp
    | cons b l ih =>
      rw [List.dropWhile_cons]
      split
      · rename_i h; rw [ih, List.all_cons, h, Bool.true_and]
      · rename_i h; simp [h]
  cases hr : (r == []) with
  | true =>
    have : r = [] := by simpa using hr
    rw [key.1 this]
  | false =>
    have : ¬ (r = []) := by simpa using hr
    cases ha : s.all (fun b => inSet of (byteI b)) with
    | true => exact absurd (key.2 ha) this
    | false => rfl
end Go.Abs
namespace Go.Abs
set_option autoImplicit false

def digs : List UInt8 := [48, 49, 50, 51, 52, 53, 54, 55, 56, 57]
def isDig (b : UInt8) : Bool := decide (48 ≤ byteI b ∧ byteI b ≤ 57)
theorem low_all : (List.range 256).all (fun n => (inSet hexs (byteI (lowB (UInt8.ofNat n))) == decide (0 ≤ nib (byteI (UInt8.ofNat n)))) && ((inSet digs (byteI (lowB (UInt8.ofNat n))) == isDig (UInt8.ofNat n)) &&
    (((lowB (UInt8.ofNat n) == 48) == (byteI (UInt8.ofNat n) == 48)) && (((lowB (UInt8.ofNat n) == 120) == isX (UInt8.ofNat n)) && (!(isX (UInt8.ofNat n) && isDig (UInt8.ofNat n))))))) = true := by kernel_rfl
theorem low_facts (b : UInt8) : inSet hexs (byteI (lowB b)) = decide (0 ≤ nib (byteI b)) ∧ inSet digs (byteI (lowB b)) = isDig b ∧ (lowB b == 48) = (byteI b == 48) ∧ (lowB b == 120) = isX b ∧ (isX b && isDig b) = false := by
  refine byte_all (p := fun b => inSet hexs (byteI (lowB b)) = decide (0 ≤ nib (byteI b)) ∧ inSet digs (byteI (lowB b)) = isDig b ∧ (lowB b == 48) = (byteI b == 48) ∧ (lowB b == 120) = isX b ∧ (isX b && isDig b) = false) (fun n hn => ?_) b
  have := List.all_eq_true.1 low_all n (List.mem_range.2 hn)
  simp only [Bool.and_eq_true, Bool.not_eq_true', beq_iff_eq] at this
  exact ⟨this.1, this.2.1, this.2.2.1, this.2.2.2.1, this.2.2.2.2⟩

def endNum (x : List UInt8) : Bool := match x with
  | a :: b :: l => if byteI a = 48 ∧ isX b = true then l.all fun b => decide (0 ≤ nib (byteI b)) else (a :: b :: l).all isDig
  | [a] => isDig a
  | [] => false

theorem last_ok (l : List (List UInt8)) (h1 : 1 ≤ l.length) (h2 : l.length ≤ 1073741825) : IntKind.i64.wrap ((l.length : Int) - 1) = ((l.length - 1 : Nat) : Int) := by rw [w64 (by omega) (by omega)]; omega

def lastOf (s : List UInt8) : List UInt8 := (partsOf s).getD ((partsOf s).length - 1) []
theorem lastOf_len (s : List UInt8) : (lastOf s).length ≤ s.length := by
  unfold lastOf
  have h1 := partsOf_pos s
  rw [List.getD_eq_getElem?_getD, List.getElem?_eq_getElem (by omega)]
  exact partsOf_mem s _ (List.getElem_mem _)

def endsOf (s : List UInt8) : Bool := if s = [] then false else endNum (lastOf s)

theorem hexs_small : ∀ b ∈ hexs, b.toNat < 128 := by decide
theorem digs_small : ∀ b ∈ digs, b.toNat < 128 := by decide

theorem all_map (x : List UInt8) : ((x.map lowB).all fun b => inSet hexs (byteI b)) = (x.all fun b => decide (0 ≤ nib (byteI b))) ∧ ((x.map lowB).all fun b => inSet digs (byteI b)) = x.all isDig := by
  induction x with
  | nil => exact ⟨rfl, rfl⟩
  | cons b l ih =>
    obtain ⟨f1, f2, _⟩ := low_facts b
    simp only [List.map_cons, List.all_cons, f1, f2, ih.1, ih.2, and_self]

theorem c_strings_HasPrefix_val (y p : List UInt8) (hy : y.length ≤ 1073741824) (hp : p.length ≤ 1073741824) : c_strings_HasPrefix (y, p) = some (decide (p.length ≤ y.length) && (y.take p.length == p)) := by
  rw [c_strings_HasPrefix_eq, Zi_eq, c_istringslite_HasPrefix_eq, Zv_eq]
  by_cases h : p.length ≤ y.length
  · rw [show decide (((y.length : Nat) : Int) ≥ ((p.length : Nat) : Int)) = true from by simp; omega, cond_true]
    have hc : cutOk none (some ((p.length : Nat) : Int)) y.length = true := by simp [cutOk]; omega
    rw [hc, cond_true, decide_eq_true h, Bool.true_and]
    have : cutList none (some ((p.length : Nat) : Int)) y = y.take p.length := by simp [cutList]
    rw [this]; rfl
  · rw [show decide (((y.length : Nat) : Int) ≥ ((p.length : Nat) : Int)) = false from by simp; omega, cond_false, decide_eq_false h]; rfl

theorem c_host_EndsInNumber_val (s : List UInt8) (hs : s.length ≤ 1073741823) : c_host_EndsInNumber s = some (endsOf s) := by
  rw [c_host_EndsInNumber_eq, Z8_eq]
  unfold endsOf
  by_cases h : s = []
  · subst h; rfl
  · rw [show (s == ([] : List UInt8)) = false from by simpa using h, cond_false, if_neg h, c_host_parts_val s (by omega)]
    simp only [Option.bind_some]
    have h1 := partsOf_pos s
    have h2 := partsOf_len s
    rw [last_ok _ h1 (by omega), inside_nat, decide_eq_true (by omega : (partsOf s).length - 1 < (partsOf s).length), cond_true, Int.toNat_natCast]
    have hl := lastOf_len s
    rw [show List.getD (partsOf s) ((partsOf s).length - 1) (Ty.zero .str) = lastOf s from rfl, c_octets_Lower_val _ (by omega)]
    simp only [Option.bind_some]
    generalize lastOf s = x at hl ⊢
    have hx : x.length ≤ 1073741823 := by omega
    rw [c_strings_HasPrefix_val _ _ (by simp; omega) (by simp)]
    simp only [Option.bind_some]
    match x, hx with
    | [], _ => rfl
    | [a], hx =>
      rw [show (decide (([48, 120] : List UInt8).length ≤ ([a].map lowB).length) && (([a].map lowB).take ([48, 120] : List UInt8).length == [48, 120])) = false from rfl, cond_false]
      rw [show (!(([a].map lowB) == ([] : List UInt8))) = true from rfl, cond_true]
      have := c_host_all_val ([a].map lowB) digs digs_small (by simp)
      rw [show ([48, 49, 50, 51, 52, 53, 54, 55, 56, 57] : List UInt8) = digs from rfl, this, (all_map [a]).2]
      simp [endNum]
    | a :: b :: l, hx =>
      have e1 : (decide (([48, 120] : List UInt8).length ≤ ((a :: b :: l).map lowB).length) && (((a :: b :: l).map lowB).take ([48, 120] : List UInt8).length == [48, 120])) = ((byteI a == 48) && isX b) := by
        obtain ⟨_, _, f3, _, _⟩ := low_facts a
        obtain ⟨_, _, _, f4, _⟩ := low_facts b
        rw [← f3, ← f4]
        rw [show decide (([48, 120] : List UInt8).length ≤ ((a :: b :: l).map lowB).length) = true from by simp, Bool.true_and]
        rw [show ((a :: b :: l).map lowB).take ([48, 120] : List UInt8).length = [lowB a, lowB b] from rfl]
        simp
      rw [e1]
      have e2 : endNum (a :: b :: l) = if byteI a = 48 ∧ isX b = true then l.all (fun b => decide (0 ≤ nib (byteI b))) else (a :: b :: l).all isDig := rfl
      rw [e2]
      by_cases c : byteI a = 48 ∧ isX b = true
      · rw [if_pos c, show ((byteI a == 48) && isX b) = true from by simp [c.1, c.2], cond_true]
        rw [show cutOk (some (2 : Int)) none ((a :: b :: l).map lowB).length = true from cut_from (f := 2) (by simp), cond_true]
        rw [show cutList (some (2 : Int)) none ((a :: b :: l).map lowB) = l.map lowB from cutList_from 2 _]
        have := c_host_all_val (l.map lowB) hexs hexs_small (by simp at hx ⊢; omega)
        rw [show ([48, 49, 50, 51, 52, 53, 54, 55, 56, 57, 97, 98, 99, 100, 101, 102] : List UInt8) = hexs from rfl, this, (all_map l).1]
        rfl
      · rw [if_neg c, show ((byteI a == 48) && isX b) = false from by
          cases hb : isX b with
          | false => simp
          | true => simp; intro e; exact c ⟨e, hb⟩, cond_false]
        rw [show (!(((a :: b :: l).map lowB) == ([] : List UInt8))) = true from rfl, cond_true]
        have := c_host_all_val ((a :: b :: l).map lowB) digs digs_small (by simp at hx ⊢; omega)
        rw [show ([48, 49, 50, 51, 52, 53, 54, 55, 56, 57] : List UInt8) = digs from rfl, this, (all_map (a :: b :: l)).2]
        rfl
end Go.Abs
