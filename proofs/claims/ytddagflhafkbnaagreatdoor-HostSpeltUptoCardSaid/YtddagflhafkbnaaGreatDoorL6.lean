/- Part L6 of the proof: see the last text of the claim. No condition of its own. -/
import Derived.Test.YtddagflhafkbnaaGreatDoorL5
set_option linter.all false
namespace Go.Abs
set_option autoImplicit false

def dcut : List Int → List Int → List (List Int)
  | cur, [] => [cur]
  | cur, r :: l => if dotI r = true then cur :: dcut [] l else dcut (cur ++ [r]) l
theorem dcut_len : ∀ (l cur : List Int), 1 ≤ (dcut cur l).length ∧ (dcut cur l).length ≤ l.length + 1
  | [], cur => by simp [dcut]
  | r :: l, cur => by
    unfold dcut
    split
    · have := dcut_len l []; simp only [List.length_cons]; omega
    · have := dcut_len l (cur ++ [r]); simp only [List.length_cons]; omega
theorem dcut_mem : ∀ (l cur : List Int), ∀ x ∈ dcut cur l, ∀ r ∈ x, r ∈ cur ∨ (r ∈ l ∧ dotI r = false)
  | [], cur, x, hx, r, hr => by rw [List.mem_singleton.1 hx] at hr; exact .inl hr
  | r0 :: l, cur, x, hx, r, hr => by
    unfold dcut at hx
    split at hx
    · rcases List.mem_cons.1 hx with rfl | hx
      · exact .inl hr
      · rcases dcut_mem l [] x hx r hr with h | h
        · cases h
        · exact .inr ⟨List.mem_cons_of_mem _ h.1, h.2⟩
    · rename_i hd
      rcases dcut_mem l _ x hx r hr with h | h
      · rcases List.mem_append.1 h with h | h
        · exact .inl h
        · rw [List.mem_singleton.1 h]; exact .inr ⟨by simp, by simpa using hd⟩
      · exact .inr ⟨List.mem_cons_of_mem _ h.1, h.2⟩
theorem dcut_size : ∀ (l cur : List Int), ∀ x ∈ dcut cur l, x.length ≤ cur.length + l.length
  | [], cur, x, hx => by rw [List.mem_singleton.1 hx]; omega
  | r0 :: l, cur, x, hx => by
    unfold dcut at hx
    split at hx
    · rcases List.mem_cons.1 hx with rfl | hx
      · omega
      · have := dcut_size l [] x hx; simp only [List.length_cons, List.length_nil] at *; omega
    · have := dcut_size l _ x hx
      simp only [List.length_append, List.length_cons, List.length_nil] at *; omega

theorem cut_mid (a b c : List UInt8) : ((a ++ b ++ c).take (a.length + b.length)).drop a.length = b := by
  rw [List.take_left' (by rw [List.length_append]), List.drop_left]
theorem ToASCII_cut (s : List UInt8) (hs : s.length ≤ 65536) : ∀ (rest pre cur : List Int) (r : List (List UInt8)), scalL rest → s = textOf pre ++ textOf cur ++ textOf rest → r.length + rest.length ≤ 70000 →
    Zh1 s (((textOf pre).length : Nat) : Int) s ((textOf pre).length + (textOf cur).length) r = Zi1 s (((r ++ (dcut cur rest).map textOf).length : Nat) : Int) 0 (r ++ (dcut cur rest).map textOf)
  | [], pre, cur, r, hl, e, hr => by
    have hlen : s.length = (textOf pre).length + (textOf cur).length := by rw [e, textOf_nil, List.append_nil, List.length_append]
    have hd : s.drop (textOf pre).length = textOf cur := by rw [e, textOf_nil, List.append_nil, List.drop_left]
    rw [Zh1_eq, decide_eq_false (by omega), cond_false, cut_from (by omega), cond_true, cutList_from, hd, show decide (r.length + [textOf cur].length ≤ lim) = true from decide_eq_true (by simp only [lim, List.length_cons, List.length_nil]; simp only [List.length_nil] at hr; omega), cond_true]
    rfl
  | x :: rest, pre, cur, r, hl, e, hr => by
    obtain ⟨h1, h2⟩ := scalL_tail hl
    have hb := rbs_len x
    have e' : s = textOf pre ++ textOf cur ++ (rbs x ++ textOf rest) := by rw [e, textOf_cons]
    have hlen : s.length = (textOf pre).length + (textOf cur).length + ((rbs x).length + (textOf rest).length) := by rw [e']; simp only [List.length_append]
    have hd : s.drop ((textOf pre).length + (textOf cur).length) = rbs x ++ textOf rest := by
      rw [e', List.drop_left' (by rw [List.length_append])]
    have hra := runeAt_encK s ((textOf pre).length + (textOf cur).length) x h1 _ (by omega) hd
    have hwd : wd s ((textOf pre).length + (textOf cur).length) = (rbs x).length := by unfold wd; rw [hra]; simp
    rw [Zh1_eq, decide_eq_true (by omega), cond_true, decRune_rune, decRune_wd, hra, hwd, c_host_dot_val, Option.bind_some]
    dsimp only
    unfold dcut
    cases hdot : dotI x with
    | true =>
      have hm : cutList (some (((textOf pre).length : Nat) : Int)) (some (((textOf pre).length + (textOf cur).length : Nat) : Int)) s = textOf cur := by
        rw [cutList_both, e']; exact cut_mid _ _ _
      rw [cond_true, if_pos rfl, cut_both (by omega) (by omega), cond_true, hm, show decide (r.length + [textOf cur].length ≤ lim) = true from decide_eq_true (by simp only [lim, List.length_cons, List.length_nil]; simp only [List.length_cons] at hr; omega), cond_true, encRune_eq x h1]
      have key := ToASCII_cut s hs rest (pre ++ cur ++ [x]) [] (r ++ [textOf cur]) h2 (by rw [e', textOf_append, textOf_append, textOf_cons, textOf_nil]; simp only [List.append_nil, List.append_assoc]) (by simp only [List.length_append, List.length_cons, List.length_nil] at hr ⊢; omega)
      have hp : (textOf (pre ++ cur ++ [x])).length = (textOf pre).length + (textOf cur).length + (rbs x).length := by rw [textOf_append, textOf_append, textOf_cons, textOf_nil, List.append_nil]; simp only [List.length_append]
      rw [hp, textOf_nil, List.length_nil, Nat.add_zero] at key
      rw [w64 (by omega) (by omega), show (((textOf pre).length + (textOf cur).length : Nat) : Int) + (((rbs x).length : Nat) : Int) = (((textOf pre).length + (textOf cur).length + (rbs x).length : Nat) : Int) from by omega, key, List.append_assoc]
      rfl
    | false =>
      rw [cond_false, if_neg (by simp)]
      have key := ToASCII_cut s hs rest pre (cur ++ [x]) r h2 (by rw [e', textOf_append, textOf_cons, textOf_nil]; simp only [List.append_nil, List.append_assoc]) (by simp only [List.length_cons] at hr ⊢; omega)
      rw [textOf_append, textOf_cons, textOf_nil, List.append_nil, List.length_append, ← Nat.add_assoc] at key
      exact key

def labGo : Nat → List (List UInt8) → List (List UInt8) × Int
  | _, [] => ([], 0)
  | i, x :: l => if (labelOf x (l.isEmpty && decide (0 < i))).2 ≠ 0 then ([], (labelOf x (l.isEmpty && decide (0 < i))).2)
    else if (labGo (i + 1) l).2 ≠ 0 then ([], (labGo (i + 1) l).2) else ((labelOf x (l.isEmpty && decide (0 < i))).1 :: (labGo (i + 1) l).1, 0)
def trimDot (y : List UInt8) : List UInt8 := if y.getLast? = some 46 then y.dropLast else y
def joinEnd (l : List (List UInt8)) : List UInt8 × Int := if 253 < (trimDot (Lib.join l [46])).length then ([], 5) else (Lib.join l [46], 0)
def asciiOf (s : List UInt8) : List UInt8 × Int :=
  if (validOf s).1 = false then ([], 21) else if 65536 < s.length then ([], 5) else if s = [] then ([], 0)
  else if (labGo 0 ((dcut [] (scalarsOf s)).map textOf)).2 ≠ 0 then ([], (labGo 0 ((dcut [] (scalarsOf s)).map textOf)).2) else joinEnd (labGo 0 ((dcut [] (scalarsOf s)).map textOf)).1
theorem getLast_at (s : List UInt8) (h : 0 < s.length) : s.getLast? = some (s.getD (s.length - 1) 0) := by
  rw [List.getLast?_eq_getElem?, List.getD_eq_getElem?_getD, List.getElem?_eq_getElem (by omega)]; rfl
theorem c_TrimDot_val (y : List UInt8) (hy : y.length ≤ 1073741824) : c_strings_TrimSuffix (y, [46]) = some (trimDot y) := by
  have e1 : (([46] : List UInt8)).length = 1 := rfl
  rw [c_strings_TrimSuffix_eq, Zs1_eq, c_istringslite_TrimSuffix_eq, Zc2_eq, c_istringslite_HasSuffix_eq, Z93_eq]
  simp only
  rw [e1, show (((1 : Nat) : Int)) = 1 from rfl, w64 (by omega) (by omega)]
  unfold trimDot
  by_cases c : 1 ≤ y.length
  · have ew : (y.length : Int) - 1 = ((y.length - 1 : Nat) : Int) := by omega
    rw [show decide ((y.length : Int) ≥ 1) = true from decide_eq_true (by omega), cond_true, ew, cut_from (by omega), cond_true, cutList_from, Option.bind_some]
    have hd : y.drop (y.length - 1) = [y.getD (y.length - 1) 0] := by
      rw [List.drop_eq_getElem_cons (by omega), List.drop_eq_nil_of_le (by omega), List.getD_eq_getElem?_getD, List.getElem?_eq_getElem (by omega)]; rfl
    rw [hd, getLast_at y c]
    generalize y.getD (y.length - 1) 0 = z
    by_cases g : z = 46
    · rw [g, show (([46] : List UInt8) == [46]) = true from rfl, cond_true, if_pos rfl, show cutOk none (some ((y.length - 1 : Nat) : Int)) y.length = true from by simp [cutOk], cond_true, Option.bind_some, List.dropLast_eq_take]
      rfl
    · rw [show ([z] == ([46] : List UInt8)) = false from by simp [g], cond_false, if_neg (by simp [g])]; rfl
  · have : y = [] := List.eq_nil_of_length_eq_zero (by omega)
    subst this
    rfl
theorem labelEnd_cases (t : List UInt8) (last : Bool) : ((labelEnd t last).2 ≠ 0 ∧ (labelEnd t last).1 = []) ∨ (labelEnd t last = (t, 0) ∧ t.length ≤ 63) := by
  unfold labelEnd
  by_cases a : 63 < t.length
  · rw [if_pos a]; exact .inl ⟨by simp, rfl⟩
  · rw [if_neg a]
    repeat' split
    all_goals first | exact .inl ⟨by simp, rfl⟩ | exact .inr ⟨rfl, by omega⟩
theorem labelOf_cases (s : List UInt8) (last : Bool) : ((labelOf s last).2 ≠ 0 ∧ (labelOf s last).1 = []) ∨ ((labelOf s last).2 = 0 ∧ (labelOf s last).1.length ≤ 63) := by
  have key : ∀ t, ((labelEnd t last).2 ≠ 0 ∧ (labelEnd t last).1 = []) ∨ ((labelEnd t last).2 = 0 ∧ (labelEnd t last).1.length ≤ 63) := by
    intro t
    rcases labelEnd_cases t last with h | ⟨h1, h2⟩
    · exact .inl h
    · rw [h1]; exact .inr ⟨rfl, h2⟩
  unfold labelOf
  repeat' split
  all_goals first | exact .inl ⟨by simp, rfl⟩ | exact key _
theorem lens_bound (n : Nat) : ∀ l : List (List UInt8), (∀ x ∈ l, x.length ≤ n) → Lib.lens l ≤ n * l.length
  | [], _ => by simp [Lib.lens]
  | x :: l, h => by
    have h1 := lens_bound n l (fun y hy => h y (by simp [hy]))
    have h2 := h x (by simp)
    unfold Lib.lens at h1 ⊢
    rw [List.map_cons, List.sum_cons, List.length_cons, Nat.mul_succ]; omega
theorem join_bound (n : Nat) (l : List (List UInt8)) (h : ∀ x ∈ l, x.length ≤ n) : (Lib.join l [46]).length ≤ (n + 1) * l.length := by
  cases l with
  | nil => simp [Lib.join_nil]
  | cons x r =>
    have := lens_bound n (x :: r) h
    rw [Lib.join_length, List.length_cons, List.length_nil, Nat.zero_add, Nat.one_mul, Nat.add_mul, Nat.one_mul]
    simp only [List.length_cons] at *; omega
theorem ToASCII_labs (s : List UInt8) : ∀ (todo don : List (List UInt8)), don.length + todo.length ≤ 70000 → (∀ x ∈ don, x.length ≤ 63) → (∀ x ∈ todo, x.length ≤ 1073741824) →
    Zi1 s (((don ++ todo).length : Nat) : Int) (don.length : Int) (don ++ todo) = some (if (labGo don.length todo).2 ≠ 0 then ([], (labGo don.length todo).2) else joinEnd (don ++ (labGo don.length todo).1))
  | [], don, hl, hd, ht => by
    have hj := join_bound 63 don hd
    have hl : don.length ≤ 70000 := by simpa using hl
    rw [Zi1_eq, lt_nat, decide_eq_false (by simp), cond_false, List.append_nil, c_strings_Join_eq, primJoin]
    simp only
    rw [decide_eq_true (show don.length ≤ 140737488355328 by omega), decide_eq_true (show (Lib.join don [46]).length ≤ 140737488355328 by omega), Bool.true_and, cond_true, Option.bind_some, c_TrimDot_val _ (by omega), Option.bind_some]
    unfold labGo joinEnd
    rw [if_neg (by simp), List.append_nil]
    by_cases c : 253 < (trimDot (Lib.join don [46])).length
    · rw [show decide (((trimDot (Lib.join don [46])).length : Int) > 253) = true from decide_eq_true (by omega), cond_true, if_pos c]
    · rw [show decide (((trimDot (Lib.join don [46])).length : Int) > 253) = false from decide_eq_false (by omega), cond_false, if_neg c]
  | x :: todo, don, hl, hd, ht => by
    have hi : don.length < (don ++ x :: todo).length := by rw [List.length_append, List.length_cons]; omega
    have hll : (don ++ x :: todo).length = don.length + todo.length + 1 := by rw [List.length_append, List.length_cons]; omega
    have hl : don.length + todo.length + 1 ≤ 70000 := by simpa [Nat.add_assoc] using hl
    have hg : List.getD (don ++ x :: todo) (Int.toNat (don.length : Int)) (Ty.zero .str) = x := by
      rw [Int.toNat_natCast, List.getD_eq_getElem?_getD, List.getElem?_append_right (by omega), Nat.sub_self]; rfl
    have hset : ∀ y, List.set (don ++ x :: todo) (Int.toNat (don.length : Int)) y = (don ++ [y]) ++ todo := by
      intro y
      rw [Int.toNat_natCast, List.set_append_right _ _ (by omega), Nat.sub_self, List.set_cons_zero, List.append_assoc]; rfl
    have hw : IntKind.i64.wrap ((don.length : Int) + 1) = ((don.length + 1 : Nat) : Int) := by rw [w64 (by omega) (by omega)]; omega
    have step : ∀ b : Bool, ((c_host_label (x, b)).bind fun y0 =>
            bif (y0.2 != (0 : Int)) then
              some (([] : List UInt8), y0.2)
            else
              bif (inside (don.length : Int) (List.length (don ++ x :: todo))) then
                Zi1 s (((don ++ x :: todo).length : Nat) : Int) (IntKind.wrap IntKind.i64 ((don.length : Int) + (1 : Int))) (List.set (don ++ x :: todo) (Int.toNat (don.length : Int)) y0.1)
              else
                none) = some (if (labelOf x b).2 ≠ 0 then ([], (labelOf x b).2) else if (labGo (don.length + 1) todo).2 ≠ 0 then ([], (labGo (don.length + 1) todo).2) else joinEnd (don ++ ((labelOf x b).1 :: (labGo (don.length + 1) todo).1))) := by
      intro b
      rw [c_host_label_val x b (ht x (by simp)), Option.bind_some, bne0]
      rcases labelOf_cases x b with ⟨h1, _⟩ | ⟨h1, h2⟩
      · rw [decide_eq_true h1, cond_true, if_pos h1]
      · have h1' : ¬ (labelOf x b).2 ≠ 0 := fun h => h h1
        rw [decide_eq_false h1', cond_false, if_neg h1', inside_nat, decide_eq_true hi, cond_true, hset, hw]
        have ih := ToASCII_labs s todo (don ++ [(labelOf x b).1]) (by simp only [List.length_append, List.length_cons, List.length_nil]; omega) (fun y hy => by
          rcases List.mem_append.1 hy with hy | hy
          · exact hd y hy
          · rw [List.mem_singleton.1 hy]; exact h2) (fun y hy => ht y (by simp [hy]))
        have hlen : (don ++ [(labelOf x b).1]).length = don.length + 1 := by simp
        rw [hlen, show ((don ++ [(labelOf x b).1]) ++ todo).length = (don ++ x :: todo).length from by simp only [List.length_append, List.length_cons, List.length_nil]; omega] at ih
        rw [ih]
        simp only [List.append_assoc, List.singleton_append]
    rw [Zi1_eq, lt_nat, decide_eq_true hi, cond_true, inside_nat, decide_eq_true hi, cond_true, hg, w64 (by omega) (by omega)]
    rw [inside_nat, decide_eq_true hi] at step
    rw [labGo]
    have fin : ∀ b : Bool, b = (todo.isEmpty && decide (0 < don.length)) → (if (labelOf x b).2 ≠ 0 then (([] : List UInt8), (labelOf x b).2) else if (labGo (don.length + 1) todo).2 ≠ 0 then ([], (labGo (don.length + 1) todo).2) else joinEnd (don ++ ((labelOf x b).1 :: (labGo (don.length + 1) todo).1))) =
        (if (if (labelOf x (todo.isEmpty && decide (0 < don.length))).2 ≠ 0 then (([] : List (List UInt8)), (labelOf x (todo.isEmpty && decide (0 < don.length))).2) else if (labGo (don.length + 1) todo).2 ≠ 0 then ([], (labGo (don.length + 1) todo).2) else ((labelOf x (todo.isEmpty && decide (0 < don.length))).1 :: (labGo (don.length + 1) todo).1, 0)).2 ≠ 0 then ([], (if (labelOf x (todo.isEmpty && decide (0 < don.length))).2 ≠ 0 then (([] : List (List UInt8)), (labelOf x (todo.isEmpty && decide (0 < don.length))).2) else if (labGo (don.length + 1) todo).2 ≠ 0 then ([], (labGo (don.length + 1) todo).2) else ((labelOf x (todo.isEmpty && decide (0 < don.length))).1 :: (labGo (don.length + 1) todo).1, 0)).2)
          else joinEnd (don ++ (if (labelOf x (todo.isEmpty && decide (0 < don.length))).2 ≠ 0 then (([] : List (List UInt8)), (labelOf x (todo.isEmpty && decide (0 < don.length))).2) else if (labGo (don.length + 1) todo).2 ≠ 0 then ([], (labGo (don.length + 1) todo).2) else ((labelOf x (todo.isEmpty && decide (0 < don.length))).1 :: (labGo (don.length + 1) todo).1, 0)).1)) := by
      rintro b rfl
      by_cases c : (labelOf x (todo.isEmpty && decide (0 < don.length))).2 ≠ 0
      · rw [if_pos c, if_pos c, if_pos c]
      · rw [if_neg c, if_neg c]
        by_cases d : (labGo (don.length + 1) todo).2 ≠ 0
        · rw [if_pos d, if_pos d, if_pos d]
        · rw [if_neg d, if_neg d, if_neg (by simp)]
    cases todo with
    | nil =>
      rw [show ((don.length : Int) == (((don ++ [x]).length : Nat) : Int) - 1) = true from beq_iff_eq.2 (by simp), cond_true, step, show decide ((don.length : Int) > 0) = decide (0 < don.length) from by by_cases h : 0 < don.length <;> simp [h], fin _ (by simp)]
    | cons z todo =>
      rw [show ((don.length : Int) == (((don ++ x :: z :: todo).length : Nat) : Int) - 1) = false from beq_eq_false_iff_ne.2 (by simp only [List.length_append, List.length_cons]; omega), cond_false, step, fin _ (by simp)]
theorem c_host_ToASCII_val (s : List UInt8) : c_host_ToASCII s = some (asciiOf s) := by
  rw [c_host_ToASCII_eq, Zg1_eq, c_utf_Valid_val, Option.bind_some]
  unfold asciiOf
  cases hv : (validOf s).1 with
  | false => rw [Bool.not_false, cond_true, if_pos rfl]
  | true =>
    rw [Bool.not_true, cond_false, if_neg (by simp)]
    by_cases c : 65536 < s.length
    · rw [show decide ((s.length : Int) > 65536) = true from decide_eq_true (by omega), cond_true, if_pos c]
    · rw [show decide ((s.length : Int) > 65536) = false from decide_eq_false (by omega), cond_false, if_neg c]
      by_cases d : s = []
      · rw [show (s == []) = true from by rw [d]; rfl, cond_true, if_pos d]
      · have hsl := scalarsOf_len s
        have hdl := dcut_len (scalarsOf s) []
        have h1 := ToASCII_cut s (by omega) (scalarsOf s) [] [] [] (scalL_scalars s) (by rw [textOf_scalars s hv]; rfl) (by simp only [List.length_nil]; omega)
        have h2 := ToASCII_labs s ((dcut [] (scalarsOf s)).map textOf) [] (by simp only [List.length_nil, List.length_map]; omega) (fun x hx => by cases hx) (fun x hx => by
          obtain ⟨y, hy, rfl⟩ := List.mem_map.1 hx
          have := dcut_size _ _ y hy
          have := textOf_len y
          simp only [List.length_nil] at *; omega)
        rw [show (s == []) = false from by simpa using d, cond_false, if_neg d]
        rw [textOf_nil, List.length_nil, Nat.add_zero, List.nil_append] at h1
        rw [List.nil_append, List.length_nil, List.nil_append] at h2
        rw [show ((0 : Nat) : Int) = 0 from rfl] at h1 h2
        rw [h1, h2]

end Go.Abs
namespace Go.Abs
set_option autoImplicit false

theorem trimDot_len (y : List UInt8) : y.length ≤ (trimDot y).length + 1 := by
  unfold trimDot; split
  · rw [List.length_dropLast]; omega
  · omega
end Go.Abs
namespace Go.Abs
set_option autoImplicit false

def hnil : D35 := ((0 : Int), (([] : List UInt8), ((0 : Int), z8)))
theorem hnil_eq : ((Ty.zero (.int .i64)), ((Ty.zero .str), ((Ty.zero (.int .u32)), (Ty.zero (.arr 8 (.int .u16)))))) = hnil := rfl
def badB (b : UInt8) : Bool := decide (byteI b < 32) || (byteI b == 37 || (byteI b == 127 || forbI (byteI b)))
theorem forb_all2 : (List.range 256).all (fun n => decide (Lib.indexByte forb (UInt8.ofNat (n : Int).toNat) ≥ 0) == forbI (n : Int)) = true := by kernel_rfl
theorem forb_byte (b : UInt8) : decide (Lib.indexByte forb (UInt8.ofNat (byteI b).toNat) ≥ 0) = forbI (byteI b) := by
  have h := byteI_lt b
  obtain ⟨n, hn⟩ := Int.eq_ofNat_of_zero_le h.1
  have := List.all_eq_true.1 forb_all2 n (List.mem_range.2 (by omega))
  rw [hn]
  exact beq_iff_eq.1 this
def domEnd (name : List UInt8) : D35 × Int :=
  if endsOf name = true then (if (ipOf name).2 ≠ 0 then (hnil, (ipOf name).2) else (((2 : Int), (([] : List UInt8), ((ipOf name).1, z8))), 0)) else (((1 : Int), (name, ((0 : Int), z8))), 0)
def specialOf (s : List UInt8) : D35 × Int :=
  if (asciiOf (decText s)).2 ≠ 0 then (hnil, (asciiOf (decText s)).2) else if (asciiOf (decText s)).1 = [] then (hnil, 51)
  else if (asciiOf (decText s)).1.any badB = true then (hnil, 52) else domEnd (asciiOf (decText s)).1
def opaqueOf (s : List UInt8) : D35 × Int :=
  if forbids s = true then (hnil, 52) else if 65536 < (encText s).length then (hnil, 5) else (((4 : Int), (encText s, ((0 : Int), z8))), 0)
def inner (s : List UInt8) : List UInt8 := (s.take (s.length - 1)).drop 1
def sixIn (s : List UInt8) : D35 × Int :=
  if s.getLast? ≠ some 93 then (hnil, 51) else if s.length < 2 then (hnil, 51) else if (v6Of (inner s)).2 ≠ 0 then (hnil, (v6Of (inner s)).2)
  else (((3 : Int), (([] : List UInt8), ((0 : Int), (v6Of (inner s)).1))), 0)
def parseOf (s : List UInt8) (sp : Bool) : D35 × Int :=
  if 65536 < s.length then (hnil, 5) else if s.head? = some 91 then sixIn s
  else if sp = true then specialOf s else if s = [] then (((5 : Int), (([] : List UInt8), ((0 : Int), z8))), 0) else opaqueOf s

theorem dom_loop (s : List UInt8) (sp : Bool) (name : List UInt8) (hn : name.length ≤ 65536) : ∀ (n i : Nat), i + n = name.length → Zf1 s sp name (name.length : Int) (i : Int) hnil = some (if (name.drop i).any badB = true then (hnil, 52) else domEnd name)
  | 0, i, h => by
    have : i = name.length := by omega
    subst this
    rw [Zf1_eq, lt_nat, decide_eq_false (Nat.lt_irrefl _), cond_false, List.drop_length, if_neg (by simp), c_host_EndsInNumber_val name (by omega), Option.bind_some]
    unfold domEnd
    cases endsOf name with
    | false => rw [cond_false, if_neg (by simp)]; rfl
    | true =>
      rw [cond_true, if_pos rfl, c_host_IPv4_val name (by omega), Option.bind_some, bne0]
      by_cases c : (ipOf name).2 ≠ 0
      · rw [decide_eq_true c, cond_true, if_pos c]; rfl
      · rw [decide_eq_false c, cond_false, if_neg c]; rfl
  | n + 1, i, h => by
    have hi : i < name.length := by omega
    have hw : IntKind.i64.wrap ((i : Int) + 1) = ((i + 1 : Nat) : Int) := by rw [w64 (by omega) (by omega)]; omega
    have hg : (((UInt8.toNat (List.getD name (Int.toNat (i : Int)) (0 : UInt8))) : Nat) : Int) = byteI name[i] := by
      rw [Int.toNat_natCast, List.getD_eq_getElem?_getD, List.getElem?_eq_getElem hi]; rfl
    rw [Zf1_eq, lt_nat, decide_eq_true hi, cond_true, inside_nat, decide_eq_true hi, cond_true, hg, hw, List.drop_eq_getElem_cons hi, List.any_cons, dom_loop s sp name hn n (i + 1) (by omega), c_strings_IndexByte_eq, primIndexByte]
    have e : badB name[i] = (decide (byteI name[i] < 32) || (byteI name[i] == 37 || (byteI name[i] == 127 || forbI (byteI name[i])))) := rfl
    rw [e]
    have key : ((some (Lib.indexByte forb (UInt8.ofNat (byteI name[i]).toNat))).bind fun y0 => bif (decide (y0 ≥ (0 : Int))) then some (hnil, (52 : Int)) else some (if (name.drop (i + 1)).any badB = true then (hnil, (52 : Int)) else domEnd name)) = some (if (forbI (byteI name[i]) || (name.drop (i + 1)).any badB) = true then (hnil, 52) else domEnd name) := by
      rw [Option.bind_some, forb_byte]
      cases forbI (byteI name[i]) with
      | true => rw [cond_true, Bool.true_or, if_pos rfl]
      | false => rw [cond_false, Bool.false_or]
    cases decide (byteI name[i] < 32) with
    | true => rw [cond_true, Bool.true_or, Bool.true_or, if_pos rfl]; rfl
    | false =>
      rw [cond_false, Bool.false_or]
      cases (byteI name[i] == 37) with
      | true => rw [cond_true, Bool.true_or, Bool.true_or, if_pos rfl]; rfl
      | false =>
        rw [cond_false, Bool.false_or]
        cases (byteI name[i] == 127) with
        | true => rw [cond_true, Bool.true_or, Bool.true_or, if_pos rfl]; rfl
        | false =>
          rw [cond_false, Bool.false_or]
          exact key
theorem joinEnd_len (l : List (List UInt8)) : (joinEnd l).1.length ≤ 254 := by
  unfold joinEnd
  split
  · simp
  · have := trimDot_len (Lib.join l [46])
    dsimp only; omega
theorem asciiOf_len (s : List UInt8) : (asciiOf s).1.length ≤ 254 := by
  unfold asciiOf
  repeat' split
  all_goals first | exact joinEnd_len _ | simp
theorem special_run (s : List UInt8) (sp : Bool) (hs : s.length ≤ 65536) : ((c_percent_DecodeText s).bind fun y0 =>
                  (c_host_ToASCII y0).bind fun y1 =>
                    bif (y1.2 != (0 : Int)) then
                      some (((Ty.zero (.int .i64)), ((Ty.zero .str), ((Ty.zero (.int .u32)), (Ty.zero (.arr 8 (.int .u16)))))), y1.2)
                    else
                      bif (y1.1 == ([] : List UInt8)) then
                        some (((Ty.zero (.int .i64)), ((Ty.zero .str), ((Ty.zero (.int .u32)), (Ty.zero (.arr 8 (.int .u16)))))), (51 : Int))
                      else
                        Zf1 s sp y1.1 (((List.length y1.1) : Nat) : Int) (0 : Int) ((Ty.zero (.int .i64)), ((Ty.zero .str), ((Ty.zero (.int .u32)), (Ty.zero (.arr 8 (.int .u16))))))) = some (specialOf s) := by
  have hl := asciiOf_len (decText s)
  rw [hnil_eq, c_percent_DecodeText_val s (by omega), Option.bind_some, c_host_ToASCII_val, Option.bind_some, bne0]
  unfold specialOf
  by_cases c : (asciiOf (decText s)).2 ≠ 0
  · rw [decide_eq_true c, cond_true, if_pos c]
  · rw [decide_eq_false c, cond_false, if_neg c]
    by_cases d : (asciiOf (decText s)).1 = []
    · rw [show ((asciiOf (decText s)).1 == []) = true from by rw [d]; rfl, cond_true, if_pos d]
    · have := dom_loop s sp (asciiOf (decText s)).1 (by omega) (asciiOf (decText s)).1.length 0 (by omega)
      rw [show ((0 : Nat) : Int) = 0 from rfl, List.drop_zero] at this
      rw [show ((asciiOf (decText s)).1 == []) = false from by simpa using d, cond_false, if_neg d, this]
theorem opaque_run (s : List UInt8) (hs : s.length ≤ 65536) : ((c_strings_ContainsAny (s, ([(0 : UInt8), (9 : UInt8), (10 : UInt8), (13 : UInt8), (32 : UInt8), (35 : UInt8), (47 : UInt8), (58 : UInt8), (60 : UInt8), (62 : UInt8), (63 : UInt8), (64 : UInt8), (91 : UInt8), (92 : UInt8), (93 : UInt8), (94 : UInt8), (124 : UInt8)] : List UInt8))).bind fun y0 =>
                  bif y0 then
                    some (((Ty.zero (.int .i64)), ((Ty.zero .str), ((Ty.zero (.int .u32)), (Ty.zero (.arr 8 (.int .u16)))))), (52 : Int))
                  else
                    (c_percent_EncodeText ((1 : Int), s)).bind fun y1 =>
                      bif (decide ((((List.length y1.1) : Nat) : Int) > (65536 : Int))) then
                        some (((Ty.zero (.int .i64)), ((Ty.zero .str), ((Ty.zero (.int .u32)), (Ty.zero (.arr 8 (.int .u16)))))), (5 : Int))
                      else
                        some (((4 : Int), (y1.1, ((Ty.zero (.int .u32)), (Ty.zero (.arr 8 (.int .u16)))))), (0 : Int))) = some (opaqueOf s) := by
  rw [show ([(0 : UInt8), (9 : UInt8), (10 : UInt8), (13 : UInt8), (32 : UInt8), (35 : UInt8), (47 : UInt8), (58 : UInt8), (60 : UInt8), (62 : UInt8), (63 : UInt8), (64 : UInt8), (91 : UInt8), (92 : UInt8), (93 : UInt8), (94 : UInt8), (124 : UInt8)] : List UInt8) = forb from rfl, ContainsAny_val s (by omega), Option.bind_some, hnil_eq]
  unfold opaqueOf
  cases forbids s with
  | true => rw [cond_true, if_pos rfl]
  | false =>
    rw [cond_false, if_neg (by simp), c_percent_EncodeText_val s (by omega), Option.bind_some]
    by_cases c : 65536 < (encText s).length
    · rw [show decide (((encText s).length : Int) > 65536) = true from decide_eq_true (by omega), cond_true, if_pos c]
    · rw [show decide (((encText s).length : Int) > 65536) = false from decide_eq_false (by omega), cond_false, if_neg c]; rfl
theorem c_host_Parse_val (s : List UInt8) (sp : Bool) : c_host_Parse (s, sp) = some (parseOf s sp) := by
  rw [c_host_Parse_eq, Ze1_eq]
  unfold parseOf
  simp only
  by_cases a : 65536 < s.length
  · rw [show decide ((s.length : Int) > 65536) = true from decide_eq_true (by omega), cond_true, if_pos a]; rfl
  rw [show decide ((s.length : Int) > 65536) = false from decide_eq_false (by omega), cond_false, if_neg a, special_run s sp (by omega), opaque_run s (by omega)]
  cases s with
  | nil =>
    rw [show (!(([] : List UInt8) == [])) = false from rfl, cond_false, if_neg (by simp)]
    cases sp with
    | true => rw [Bool.not_true, cond_false, if_pos rfl]; rfl
    | false => rw [Bool.not_false, cond_true, if_neg (by simp), if_pos rfl, show ((([] : List UInt8)) == []) = true from rfl, cond_true]; rfl
  | cons b t =>
    have hlen : (b :: t).length = t.length + 1 := rfl
    have hne : ((b :: t) == ([] : List UInt8)) = false := rfl
    have h0 : (((UInt8.toNat (List.getD (b :: t) (Int.toNat (0 : Int)) (0 : UInt8))) : Nat) : Int) = byteI b := rfl
    rw [hne, Bool.not_false, cond_true, in_zero, cond_true, h0]
    by_cases c : b = 91
    · subst c
      have hw : IntKind.i64.wrap ((((91 : UInt8) :: t).length : Int) - 1) = ((((91 : UInt8) :: t).length - 1 : Nat) : Int) := by rw [w64 (by omega) (by omega)]; omega
      rw [show (byteI 91 == 91) = true from rfl, cond_true, hw, inside_nat, decide_eq_true (by omega), cond_true, Int.toNat_natCast, if_pos (show ((91 : UInt8) :: t).head? = some 91 from rfl)]
      unfold sixIn
      rw [getLast_at _ (by omega)]
      generalize hgl : List.getD ((91 : UInt8) :: t) (((91 : UInt8) :: t).length - 1) 0 = g
      by_cases d : g = 93
      · subst d
        rw [show ((((93 : UInt8).toNat : Nat) : Int) != 93) = false from rfl, cond_false, if_neg (by simp)]
        by_cases e : ((91 : UInt8) :: t).length < 2
        · rw [show decide (((((91 : UInt8) :: t).length : Nat) : Int) < 2) = true from decide_eq_true (by omega), cond_true, if_pos e]; rfl
        · have hcut : cutList (some (1 : Int)) (some ((((91 : UInt8) :: t).length - 1 : Nat) : Int)) ((91 : UInt8) :: t) = inner ((91 : UInt8) :: t) := cutList_both 1 _ _
          have hil : (inner ((91 : UInt8) :: t)).length ≤ 65536 := by
            unfold inner
            rw [List.length_drop, List.length_take]; omega
          rw [show decide (((((91 : UInt8) :: t).length : Nat) : Int) < 2) = false from decide_eq_false (by omega), cond_false, if_neg e, show cutOk (some (1 : Int)) (some ((((91 : UInt8) :: t).length - 1 : Nat) : Int)) ((91 : UInt8) :: t).length = true from cut_both (f := 1) (by omega) (by omega), cond_true, hcut, c_host_IPv6_val _ (by omega), Option.bind_some, bne0]
          by_cases f : (v6Of (inner ((91 : UInt8) :: t))).2 ≠ 0
          · rw [decide_eq_true f, cond_true, if_pos f]; rfl
          · rw [decide_eq_false f, cond_false, if_neg f]; rfl
      · have hb : ((((g.toNat : Nat) : Int)) != 93) = true := bne_iff_ne.2 (fun h => d (byteI_inj (show byteI g = byteI 93 from h)))
        rw [hb, cond_true, if_pos (by simpa using d)]; rfl
    · have hb : (byteI b == 91) = false := beq_eq_false_iff_ne.2 (fun h => c (byteI_inj (show byteI b = byteI 91 from h)))
      rw [hb, cond_false, if_neg (by simpa using c)]
      cases sp with
      | true => rw [Bool.not_true, cond_false, if_pos rfl]; rfl
      | false => rw [Bool.not_false, cond_true, if_neg (by simp), if_neg (by simp), cond_false]; rfl
end Go.Abs
namespace Go.Abs
set_option autoImplicit false

theorem bat_get (s : List UInt8) (k : Nat) (hk : k < s.length) : bat s k = byteI s[k] := ((drop_bat s k hk).2).symm
theorem ut1_of {s : List UInt8} {k : Nat} (h : bat s k < 128) : ut1 s k = true := decide_eq_true h
theorem runeAt_low {s : List UInt8} {k : Nat} (h : bat s k < 128) : runeAt s k = (bat s k, (1, false)) := by
  unfold runeAt; rw [if_pos (ut1_of h)]
theorem wwd_low {s : List UInt8} {k : Nat} (h : bat s k < 128) : wwd s k = 1 := by
  unfold wwd wd; rw [runeAt_low h]; rfl
theorem pdec_plain (s : List UInt8) (h : ∀ b ∈ s, byteI b ≠ 37) : ∀ (n k : Nat), s.length ≤ k + n → k ≤ s.length → pdec s n k = (s.drop k).map byteI
  | 0, k, hn, hk => by rw [List.drop_eq_nil_of_le (by omega)]; rfl
  | n + 1, k, hn, hk => by
    unfold pdec
    by_cases c : k < s.length
    · have ht : trip s k = -1 := by
        unfold trip
        rw [if_neg (fun e => h _ (List.getElem_mem c) (by rw [← bat_get s k c]; exact e.2.1))]
      rw [if_pos c, if_neg (by omega), pdec_plain s h n (k + 1) (by omega) (by omega), List.drop_eq_getElem_cons c, List.map_cons, bat_get s k c]
    · rw [if_neg c, List.drop_eq_nil_of_le (by omega)]; rfl
theorem strOf_bytes (s : List UInt8) : strOf (s.map byteI) = s := by
  unfold strOf
  rw [List.map_map, List.map_congr_left (f := (fun n : Int => UInt8.ofNat n.toNat) ∘ byteI) (g := id) (fun b _ => ofInt_byteI b), List.map_id]
theorem pdec_noPct (s : List UInt8) (h : ∀ b ∈ s, byteI b ≠ 37) : strOf (pdec s s.length 0) = s := by
  rw [pdec_plain s h s.length 0 (by omega) (by omega), List.drop_zero, strOf_bytes]
theorem decText_noPct (s : List UInt8) (h : ∀ b ∈ s, byteI b ≠ 37) : decText s = webFix s := by unfold decText; rw [pdec_noPct s h]
theorem webRunes_scal (s : List UInt8) : scalL (webRunes s) := by
  intro r hr
  unfold webRunes webOf at hr
  obtain ⟨x, hx, rfl⟩ := List.mem_map.1 hr
  exact wpcs_scal s s.length 0 x hx
def plainI (c : Int) : Prop := 32 ≤ c ∧ c ≤ 126
instance (c : Int) : Decidable (plainI c) := by unfold plainI; infer_instance
end Go.Abs
