/- Part L6 of the proof: see the last text of the claim. No condition of its own. -/
import Derived.Test.YtddagflhafkbnaaGreatDoorL5
set_option linter.all false
namespace Go.Abs
set_option autoImplicit false

def dcut : List Int → List Int → List (List Int)
  | cur, [] => [cur]
  | cur, r :: l => if dotI r = true then cur :: dcut [] l else dcut (cur ++ [r]) l
theorem dcut_len : ∀ (l cur : List Int), 1 ≤ (dcut cur l).length ∧ (dcut cur l).length ≤ l.length + 1
  | [], cur => by simp [dcut]
  | r :: l, cur => by
    unfold dcut
    split
    · have := dcut_len l []; simp only [List.length_cons]; omega
    · have := dcut_len l (cur ++ [r]); simp only [List.length_cons]; omega
theorem dcut_mem : ∀ (l cur : List Int), ∀ x ∈ dcut cur l, ∀ r ∈ x, r ∈ cur ∨ (r ∈ l ∧ dotI r = false)
  | [], cur, x, hx, r, hr => by rw [List.mem_singleton.1 hx] at hr; exact .inl hr
  | r0 :: l, cur, x, hx, r, hr => by
    unfold dcut at hx
    split at hx
    · rcases List.mem_cons.1 hx with rfl | hx
      · exact .inl hr
      · rcases dcut_mem l [] x hx r hr with h | h
        · cases h
        · exact .inr ⟨List.mem_cons_of_mem _ h.1, h.2⟩
    · rename_i hd
      rcases dcut_mem l _ x hx r hr with h | h
      · rcases List.mem_append.1 h with h | h
        · exact .inl h
        · rw [List.mem_singleton.1 h]; exact .inr ⟨by simp, by simpa using hd⟩
      · exact .inr ⟨List.mem_cons_of_mem _ h.1, h.2⟩
theorem dcut_size : ∀ (l cur : List Int), ∀ x ∈ dcut cur l, x.length ≤ cur.length + l.length
  | [], cur, x, hx => by rw [List.mem_singleton.1 hx]; omega
  | r0 :: l, cur, x, hx => by
    unfold dcut at hx
    split at hx
    · rcases List.mem_cons.1 hx with rfl | hx
      · omega
      · have := dcut_size l [] x hx; simp only [List.length_cons, List.length_nil] at *; omega
    · have := dcut_size l _ x hx
      simp only [List.length_append, List.length_cons, List.length_nil] at *; omega

theorem cut_mid (a b c : List UInt8) : ((a ++ b ++ c).take (a.length + b.length)).drop a.length = b := by
  rw [List.take_left' (by rw [List.length_append]), List.drop_left]
theorem ToASCII_cut (s : List UInt8) (hs : s.length ≤ 65536) : ∀ (rest pre cur : List Int) (r : List (List UInt8)), scalL rest → s = textOf pre ++ textOf cur ++ textOf rest → r.length + rest.length ≤ 70000 →
    Z31 s (((textOf pre).length : Nat) : Int) s ((textOf pre).length + (textOf cur).length) r = Z41 s (((r ++ (dcut cur rest).map textOf).length : Nat) : Int) 0 (r ++ (dcut cur rest).map textOf)
  | [], pre, cur, r, hl, e, hr => by
    have hlen : s.length = (textOf pre).length + (textOf cur).length := by rw [e, textOf_nil, List.append_nil, List.length_append]
    have hd : s.drop (textOf pre).length = textOf cur := by rw [e, textOf_nil, List.append_nil, List.drop_left]
    rw [Z31_eq, decide_eq_false (by omega), cond_false, cut_from (by omega), cond_true, cutList_from, hd, show decide (r.length + [textOf cur].length ≤ lim) = true from decide_eq_true (by simp only [lim, List.length_cons, List.length_nil]; simp only [List.length_nil] at hr; omega), cond_true]
    rfl
  | x :: rest, pre, cur, r, hl, e, hr => by
    obtain ⟨h1, h2⟩ := scalL_tail hl
    have hb := rbs_len x
    have e' : s = textOf pre ++ textOf cur ++ (rbs x ++ textOf rest) := by rw [e, textOf_cons]
    have hlen : s.length = (textOf pre).length + (textOf cur).length + ((rbs x).length + (textOf rest).length) := by rw [e']; simp only [List.length_append]
    have hd : s.drop ((textOf pre).length + (textOf cur).length) = rbs x ++ textOf rest := by
      rw [e', List.drop_left' (by rw [List.length_append])]
    have hra := runeAt_encK s ((textOf pre).length + (textOf cur).length) x h1 _ (by omega) hd
    have hwd : wd s ((textOf pre).length + (textOf cur).length) = (rbs x).length := by unfold wd; rw [hra]; simp
    rw [Z31_eq, decide_eq_true (by omega), cond_true, decRune_rune, decRune_wd, hra, hwd, c_host_dot_val, Option.bind_some]
    dsimp only
    unfold dcut
    cases hdot : dotI x with
    | true =>
      have hm : cutList (some (((textOf pre).length : Nat) : Int)) (some (((textOf pre).length + (textOf cur).length : Nat) : Int)) s = textOf cur := by
        rw [cutList_both, e']; exact cut_mid _ _ _
      rw [cond_true, if_pos rfl, cut_both (by omega) (by omega), cond_true, hm, show decide (r.length + [textOf cur].length ≤ lim) = true from decide_eq_true (by simp only [lim, List.length_cons, List.length_nil]; simp only [List.length_cons] at hr; omega), cond_true, encRune_eq x h1]
      have key := ToASCII_cut s hs rest (pre ++ cur ++ [x]) [] (r ++ [textOf cur]) h2 (by rw [e', textOf_append, textOf_append, textOf_cons, textOf_nil]; simp only [List.append_nil, List.append_assoc]) (by simp only [List.length_append, List.length_cons, List.length_nil] at hr ⊢; omega)
      have hp : (textOf (pre ++ cur ++ [x])).length = (textOf pre).length + (textOf cur).length + (rbs x).length := by rw [textOf_append, textOf_append, textOf_cons, textOf_nil, List.append_nil]; simp only [List.length_append]
      rw [hp, textOf_nil, List.length_nil, Nat.add_zero] at key
      rw [w64 (by omega) (by omega), show (((textOf pre).length + (textOf cur).length : Nat) : Int) + (((rbs x).length : Nat) : Int) = (((textOf pre).length + (textOf cur).length + (rbs x).length : Nat) : Int) from by omega, key, List.append_assoc]
      rfl
    | false =>
      rw [cond_false, if_neg (by simp)]
      have key := ToASCII_cut s hs rest pre (cur ++ [x]) r h2 (by rw [e', textOf_append, textOf_cons, textOf_nil]; simp only [List.append_nil, List.append_assoc]) (by simp only [List.length_cons] at hr ⊢; omega)
      rw [textOf_append, textOf_cons, textOf_nil, List.append_nil, List.length_append, ← Nat.add_assoc] at key
      exact key

def labGo : Nat → List (List UInt8) → List (List UInt8) × Int
  | _, [] => ([], 0)
  | i, x :: l => if (labelOf x (l.isEmpty && decide (0 < i))).2 ≠ 0 then ([], (labelOf x (l.isEmpty && decide (0 < i))).2)
    else if (labGo (i + 1) l).2 ≠ 0 then ([], (labGo (i + 1) l).2) else ((labelOf x (l.isEmpty && decide (0 < i))).1 :: (labGo (i + 1) l).1, 0)
def trimDot (y : List UInt8) : List UInt8 := if y.getLast? = some 46 then y.dropLast else y
def joinEnd (l : List (List UInt8)) : List UInt8 × Int := if 253 < (trimDot (Lib.join l [46])).length then ([], 5) else (Lib.join l [46], 0)
def asciiOf (s : List UInt8) : List UInt8 × Int :=
  if (validOf s).1 = false then ([], 21) else if 65536 < s.length then ([], 5) else if s = [] then ([], 0)
  else if (labGo 0 ((dcut [] (scalarsOf s)).map textOf)).2 ≠ 0 then ([], (labGo 0 ((dcut [] (scalarsOf s)).map textOf)).2) else joinEnd (labGo 0 ((dcut [] (scalarsOf s)).map textOf)).1
theorem getLast_at (s : List UInt8) (h : 0 < s.length) : s.getLast? = some (s.getD (s.length - 1) 0) := by
  rw [List.getLast?_eq_getElem?, List.getD_eq_getElem?_getD, List.getElem?_eq_getElem (by omega)]; rfl
theorem c_TrimDot_val (y : List UInt8) (hy : y.length ≤ 1073741824) : c_strings_TrimSuffix (y, [46]) = some (trimDot y) := by
  have e1 : (([46] : List UInt8)).length = 1 := rfl
  rw [c_strings_TrimSuffix_eq, Zd1_eq, c_istringslite_TrimSuffix_eq, Zx1_eq, c_istringslite_HasSuffix_eq, Zu2_eq]
  simp only
  rw [e1, show (((1 : Nat) : Int)) = 1 from rfl, w64 (by omega) (by omega)]
  unfold trimDot
  by_cases c : 1 ≤ y.length
  · have ew : (y.length : Int) - 1 = ((y.length - 1 : Nat) : Int) := by omega
    rw [show decide ((y.length : Int) ≥ 1) = true from decide_eq_true (by omega), cond_true, ew, cut_from (by omega), cond_true, cutList_from, Option.bind_some]
    have hd : y.drop (y.length - 1) = [y.getD (y.length - 1) 0] := by
      rw [List.drop_eq_getElem_cons (by omega), List.drop_eq_nil_of_le (by omega), List.getD_eq_getElem?_getD, List.getElem?_eq_getElem (by omega)]; rfl
    rw [hd, getLast_at y c]
    generalize y.getD (y.length - 1) 0 = z
    by_cases g : z = 46
    · rw [g, show (([46] : List UInt8) == [46]) = true from rfl, cond_true, if_pos rfl, show cutOk none (some ((y.length - 1 : Nat) : Int)) y.length = true from by simp [cutOk], cond_true, Option.bind_some, List.dropLast_eq_take]
      rfl
    · rw [show ([z] == ([46] : List UInt8)) = false from by simp [g], cond_false, if_neg (by simp [g])]; rfl
  · have : y = [] := List.eq_nil_of_length_eq_zero (by omega)
    subst this
    rfl
theorem labelEnd_cases (t : List UInt8) (last : Bool) : ((labelEnd t last).2 ≠ 0 ∧ (labelEnd t last).1 = []) ∨ (labelEnd t last = (t, 0) ∧ t.length ≤ 63) := by
  unfold labelEnd
  by_cases a : 63 < t.length
  · rw [if_pos a]; exact .inl ⟨by simp, rfl⟩
  · rw [if_neg a]
    repeat' split
    all_goals first | exact .inl ⟨by simp, rfl⟩ | exact .inr ⟨rfl, by omega⟩
theorem labelOf_cases (s : List UInt8) (last : Bool) : ((labelOf s last).2 ≠ 0 ∧ (labelOf s last).1 = []) ∨ ((labelOf s last).2 = 0 ∧ (labelOf s last).1.length ≤ 63) := by
  have key : ∀ t, ((labelEnd t last).2 ≠ 0 ∧ (labelEnd t last).1 = []) ∨ ((labelEnd t last).2 = 0 ∧ (labelEnd t last).1.length ≤ 63) := by
    intro t
    rcases labelEnd_cases t last with h | ⟨h1, h2⟩
    · exact .inl h
    · rw [h1]; exact .inr ⟨rfl, h2⟩
  unfold labelOf
  repeat' split
  all_goals first | exact .inl ⟨by simp, rfl⟩ | exact key _
theorem lens_bound (n : Nat) : ∀ l : List (List UInt8), (∀ x ∈ l, x.length ≤ n) → Lib.lens l ≤ n * l.length
  | [], _ => by simp [Lib.lens]
  | x :: l, h => by
    have h1 := lens_bound n l (fun y hy => h y (by simp [hy]))
    have h2 := h x (by simp)
    unfold Lib.lens at h1 ⊢
    rw [List.map_cons, List.sum_cons, List.length_cons, Nat.mul_succ]; omega
theorem join_bound (n : Nat) (l : List (List UInt8)) (h : ∀ x ∈ l, x.length ≤ n) : (Lib.join l [46]).length ≤ (n + 1) * l.length := by
  cases l with
  | nil => simp [Lib.join_nil]
  | cons x r =>
    have := lens_bound n (x :: r) h
    rw [Lib.join_length, List.length_cons, List.length_nil, Nat.zero_add, Nat.one_mul, Nat.add_mul, Nat.one_mul]
    simp only [List.length_cons] at *; omega
theorem ToASCII_labs (s : List UInt8) : ∀ (todo don : List (List UInt8)), don.length + todo.length ≤ 70000 → (∀ x ∈ don, x.length ≤ 63) → (∀ x ∈ todo, x.length ≤ 1073741824) →
    Z41 s (((don ++ todo).length : Nat) : Int) (don.length : Int) (don ++ todo) = some (if (labGo don.length todo).2 ≠ 0 then ([], (labGo don.length todo).2) else joinEnd (don ++ (labGo don.length todo).1))
  | [], don, hl, hd, ht => by
    have hj := join_bound 63 don hd
    have hl : don.length ≤ 70000 := by simpa using hl
    rw [Z41_eq, lt_nat, decide_eq_false (by simp), cond_false, List.append_nil, c_strings_Join_eq, primJoin]
    simp only
    rw [decide_eq_true (show don.length ≤ 140737488355328 by omega), decide_eq_true (show (Lib.join don [46]).length ≤ 140737488355328 by omega), Bool.true_and, cond_true, Option.bind_some, c_TrimDot_val _ (by omega), Option.bind_some]
    unfold labGo joinEnd
    rw [if_neg (by simp), List.append_nil]
    by_cases c : 253 < (trimDot (Lib.join don [46])).length
    · rw [show decide (((trimDot (Lib.join don [46])).length : Int) > 253) = true from decide_eq_true (by omega), cond_true, if_pos c]
    · rw [show decide (((trimDot (Lib.join don [46])).length : Int) > 253) = false from decide_eq_false (by omega), cond_false, if_neg c]
  | x :: todo, don, hl, hd, ht => by
    have hi : don.length < (don ++ x :: todo).length := by rw [List.length_append, List.length_cons]; omega
    have hll : (don ++ x :: todo).length = don.length + todo.length + 1 := by rw [List.length_append, List.length_cons]; omega
    have hl : don.length + todo.length + 1 ≤ 70000 := by simpa [Nat.add_assoc] using hl
    have hg : List.getD (don ++ x :: todo) (Int.toNat (don.length : Int)) (Ty.zero .str) = x := by
      rw [Int.toNat_natCast, List.getD_eq_getElem?_getD, List.getElem?_append_right (by omega), Nat.sub_self]; rfl
    have hset : ∀ y, List.set (don ++ x :: todo) (Int.toNat (don.length : Int)) y = (don ++ [y]) ++ todo := by
      intro y
      rw [Int.toNat_natCast, List.set_append_right _ _ (by omega), Nat.sub_self, List.set_cons_zero, List.append_assoc]; rfl
    have hw : IntKind.i64.wrap ((don.length : Int) + 1) = ((don.length + 1 : Nat) : Int) := by rw [w64 (by omega) (by omega)]; omega
    have step : ∀ b : Bool, ((c_host_label (x, b)).bind fun y0 =>
            bif (y0.2 != (0 : Int)) then
              some (([] : List UInt8), y0.2)
            else
              bif (inside (don.length : Int) (List.length (don ++ x :: todo))) then
                Z41 s (((don ++ x :: todo).length : Nat) : Int) (IntKind.wrap IntKind.i64 ((don.length : Int) + (1 : Int))) (List.set (don ++ x :: todo) (Int.toNat (don.length : Int)) y0.1)
              else
                none) = some (if (labelOf x b).2 ≠ 0 then ([], (labelOf x b).2) else if (labGo (don.length + 1) todo).2 ≠ 0 then ([], (labGo (don.length + 1) todo).2) else joinEnd (don ++ ((labelOf x b).1 :: (labGo (don.length + 1) todo).1))) := by
      intro b
      rw [c_host_label_val x b (ht x (by simp)), Option.bind_some, bne0]
      rcases labelOf_cases x b with ⟨h1, _⟩ | ⟨h1, h2⟩
      · rw [decide_eq_true h1, cond_true, if_pos h1]
      · have h1' : ¬ (labelOf x b).2 ≠ 0 := fun h => h h1
        rw [decide_eq_false h1', cond_false, if_neg h1', inside_nat, decide_eq_true hi, cond_true, hset, hw]
        have ih := ToASCII_labs s todo (don ++ [(labelOf x b).1]) (by simp only [List.length_append, List.length_cons, List.length_nil]; omega) (fun y hy => by
          rcases List.mem_append.1 hy with hy | hy
          · exact hd y hy
          · rw [List.mem_singleton.1 hy]; exact h2) (fun y hy => ht y (by simp [hy]))
        have hlen : (don ++ [(labelOf x b).1]).length = don.length + 1 := by simp
        rw [hlen, show ((don ++ [(labelOf x b).1]) ++ todo).length = (don ++ x :: todo).length from by simp only [List.length_append, List.length_cons, List.length_nil]; omega] at ih
        rw [ih]
        simp only [List.append_assoc, List.singleton_append]
    rw [Z41_eq, lt_nat, decide_eq_true hi, cond_true, inside_nat, decide_eq_true hi, cond_true, hg, w64 (by omega) (by omega)]
    rw [inside_nat, decide_eq_true hi] at step
    rw [labGo]
    have fin : ∀ b : Bool, b = (todo.isEmpty && decide (0 < don.length)) → (if (labelOf x b).2 ≠ 0 then (([] : List UInt8), (labelOf x b).2) else if (labGo (don.length + 1) todo).2 ≠ 0 then ([], (labGo (don.length + 1) todo).2) else joinEnd (don ++ ((labelOf x b).1 :: (labGo (don.length + 1) todo).1))) =
        (if (if (labelOf x (todo.isEmpty && decide (0 < don.length))).2 ≠ 0 then (([] : List (List UInt8)), (labelOf x (todo.isEmpty && decide (0 < don.length))).2) else if (labGo (don.length + 1) todo).2 ≠ 0 then ([], (labGo (don.length + 1) todo).2) else ((labelOf x (todo.isEmpty && decide (0 < don.length))).1 :: (labGo (don.length + 1) todo).1, 0)).2 ≠ 0 then ([], (if (labelOf x (todo.isEmpty && decide (0 < don.length))).2 ≠ 0 then (([] : List (List UInt8)), (labelOf x (todo.isEmpty && decide (0 < don.length))).2) else if (labGo (don.length + 1) todo).2 ≠ 0 then ([], (labGo (don.length + 1) todo).2) else ((labelOf x (todo.isEmpty && decide (0 < don.length))).1 :: (labGo (don.length + 1) todo).1, 0)).2)
          else joinEnd (don ++ (if (labelOf x (todo.isEmpty && decide (0 < don.length))).2 ≠ 0 then (([] : List (List UInt8)), (labelOf x (todo.isEmpty && decide (0 < don.length))).2) else if (labGo (don.length + 1) todo).2 ≠ 0 then ([], (labGo (don.length + 1) todo).2) else ((labelOf x (todo.isEmpty && decide (0 < don.length))).1 :: (labGo (don.length + 1) todo).1, 0)).1)) := by
      rintro b rfl
      by_cases c : (labelOf x (todo.isEmpty && decide (0 < don.length))).2 ≠ 0
      · rw [if_pos c, if_pos c, if_pos c]
      · rw [if_neg c, if_neg c]
        by_cases d : (labGo (don.length + 1) todo).2 ≠ 0
        · rw [if_pos d, if_pos d, if_pos d]
        · rw [if_neg d, if_neg d, if_neg (by simp)]
    cases todo with
    | nil =>
      rw [show ((don.length : Int) == (((don ++ [x]).length : Nat) : Int) - 1) = true from beq_iff_eq.2 (by simp), cond_true, step, show decide ((don.length : Int) > 0) = decide (0 < don.length) from by by_cases h : 0 < don.length <;> simp [h], fin _ (by simp)]
    | cons z todo =>
      rw [show ((don.length : Int) == (((don ++ x :: z :: todo).length : Nat) : Int) - 1) = false from beq_eq_false_iff_ne.2 (by simp only [List.length_append, List.length_cons]; omega), cond_false, step, fin _ (by simp)]
theorem c_host_ToASCII_val (s : List UInt8) : c_host_ToASCII s = some (asciiOf s) := by
  rw [c_host_ToASCII_eq, Z21_eq, c_utf_Valid_val, Option.bind_some]
  unfold asciiOf
  cases hv : (validOf s).1 with
  | false => rw [Bool.not_false, cond_true, if_pos rfl]
  | true =>
    rw [Bool.not_true, cond_false, if_neg (by simp)]
    by_cases c : 65536 < s.length
    · rw [show decide ((s.length : Int) > 65536) = true from decide_eq_true (by omega), cond_true, if_pos c]
    · rw [show decide ((s.length : Int) > 65536) = false from decide_eq_false (by omega), cond_false, if_neg c]
      by_cases d : s = []
      · rw [show (s == []) = true from by rw [d]; rfl, cond_true, if_pos d]
      · have hsl := scalarsOf_len s
        have hdl := dcut_len (scalarsOf s) []
        have h1 := ToASCII_cut s (by omega) (scalarsOf s) [] [] [] (scalL_scalars s) (by rw [textOf_scalars s hv]; rfl) (by simp only [List.length_nil]; omega)
        have h2 := ToASCII_labs s ((dcut [] (scalarsOf s)).map textOf) [] (by simp only [List.length_nil, List.length_map]; omega) (fun x hx => by cases hx) (fun x hx => by
          obtain ⟨y, hy, rfl⟩ := List.mem_map.1 hx
          have := dcut_size _ _ y hy
          have := textOf_len y
          simp only [List.length_nil] at *; omega)
        rw [show (s == []) = false from by simpa using d, cond_false, if_neg d]
        rw [textOf_nil, List.length_nil, Nat.add_zero, List.nil_append] at h1
        rw [List.nil_append, List.length_nil, List.nil_append] at h2
        rw [show ((0 : Nat) : Int) = 0 from rfl] at h1 h2
        rw [h1, h2]

def uniL (x : List UInt8) : List UInt8 := if (UnlabelOf x).2 = 0 then (UnlabelOf x).1 else x
def unicodeOf (s : List UInt8) : List UInt8 := Lib.join ((splitAt s 46).map uniL) [46]
theorem uniL_len (x : List UInt8) : (uniL x).length ≤ 4 * x.length := by
  have := UnlabelOf_len x
  unfold uniL; split <;> omega
end Go.Abs
namespace Go.Abs
set_option autoImplicit false

def tok (t : List UInt8) : Prop := ∀ b ∈ t, okI (byteI b)
def undot (l : List Int) : Prop := ∀ r ∈ l, dotI r = false
theorem ok_low {c : Int} (h : okI c) : lowI c = c := by rw [lowI_spec, if_neg h.2.2.2]
theorem dot46 {r : Int} (h : dotI r = false) : r ≠ 46 := by rintro rfl; cases h
theorem ok_undot {c : Int} (h : okI c) : dotI c = false := by
  have h1 := h.2.1
  have h2 := h.2.2.1
  unfold dotI
  rw [beq_eq_false_iff_ne.2 h2, beq_eq_false_iff_ne.2 (show c ≠ 12290 by omega), beq_eq_false_iff_ne.2 (show c ≠ 65294 by omega), beq_eq_false_iff_ne.2 (show c ≠ 65377 by omega)]; rfl
theorem tok_low {t : List UInt8} (h : tok t) : lowS t = t := by
  unfold lowS
  rw [List.map_congr_left (g := id) (fun b hb => byteI_inj (by rw [byteI_lowB, ok_low (h b hb)]; rfl)), List.map_id]
theorem tok_lt {t : List UInt8} (h : tok t) : ∀ b ∈ t, byteI b < 128 := fun b hb => (h b hb).2.1
theorem tok_basic {t : List UInt8} (h : tok t) : basicB t = true := basic_of (tok_lt h)
theorem tok_has {t : List UInt8} (h : tok t) : has t 65533 = false := by
  unfold has
  rw [scalars_basic t (tok_lt h), List.any_eq_false]
  intro r hr
  obtain ⟨b, hb, rfl⟩ := List.mem_map.1 hr
  have := tok_lt h b hb
  simp only [beq_iff_eq]; omega
theorem tok_undot {t : List UInt8} (h : tok t) : undot (t.map byteI) := by
  intro r hr
  obtain ⟨b, hb, rfl⟩ := List.mem_map.1 hr
  exact ok_undot (h b hb)
theorem low_ok {r : Int} (h0 : scal r = true) (h1 : dotI r = false) (h2 : lowI r < 128) : okI (lowI r) := by
  have hr := scal_range h0
  have := dot46 h1
  rw [lowI_spec] at h2 ⊢
  unfold okI
  split at h2
  · rw [if_pos (by assumption)]; omega
  · rw [if_neg (by assumption)]; omega
theorem xn_tok : tok xn := by
  intro b hb
  have : ∀ b ∈ xn, okI (byteI b) := by decide
  exact this b hb
theorem label_tok (s t : List UInt8) (hs : ∀ r ∈ scalarsOf s, r < 128 → okI r) (hb : basicB s = false) (h : LabelOf s = (t, 0)) : tok t := by
  unfold LabelOf at h
  split at h
  · rename_i c; exact absurd (congrArg Prod.snd h) c
  · rw [hb, if_neg (by simp)] at h
    have := congrArg Prod.fst h
    dsimp only at this
    subst this
    intro b hb
    rcases List.mem_append.1 hb with hb | hb
    · exact xn_tok b hb
    · exact EncodeOf_ok s hs b hb

theorem labelEnd_self {t u : List UInt8} {last : Bool} (h : labelEnd t last = (u, 0)) : u = t := by
  rcases labelEnd_cases t last with ⟨h1, _⟩ | ⟨h1, _⟩
  · rw [h] at h1; exact absurd rfl h1
  · rw [h1] at h; exact (congrArg Prod.fst h).symm
theorem lab_tok (l : List Int) (hl : scalL l) (hd : undot l) (last : Bool) (t : List UInt8) (h : labelOf (textOf l) last = (t, 0)) : tok t ∧ labelEnd t last = (t, 0) := by
  have hlow := low_text l hl
  have hsc := scalars_text _ (low_scal hl)
  have hok : ∀ r ∈ l.map lowI, r < 128 → okI r := by
    intro r hr h1
    obtain ⟨x, hx, rfl⟩ := List.mem_map.1 hr
    exact low_ok (hl x hx) (hd x hx) h1
  unfold labelOf at h
  rw [hlow] at h
  split at h
  · rename_i c
    split at h
    · cases congrArg Prod.snd h
    · rename_i d
      have e : LabelOf (textOf (l.map lowI)) = ((LabelOf (textOf (l.map lowI))).1, 0) := by
        have : (LabelOf (textOf (l.map lowI))).2 = 0 := by omega
        rw [← this]
      have := labelEnd_self h
      rw [← this] at e h
      exact ⟨label_tok _ t (by rw [hsc]; exact hok) c.1 e, h⟩
  · rename_i c
    split at h
    · cases congrArg Prod.snd h
    · rename_i d
      have hbas : basicB (textOf (l.map lowI)) = true := by
        cases hb : basicB (textOf (l.map lowI)) with
        | true => rfl
        | false => exact absurd ⟨hb, by simpa using d⟩ c
      have := labelEnd_self h
      rw [← this] at h
      refine ⟨?_, h⟩
      rw [this]
      intro b hb
      have h1 := basic_mem hbas b hb
      have h2 := scalars_basic _ (basic_mem hbas)
      rw [hsc] at h2
      exact hok _ (by rw [h2]; exact List.mem_map_of_mem hb) h1
theorem lab_again (t : List UInt8) (last : Bool) (ht : tok t) (h : labelEnd t last = (t, 0)) : labelOf t last = (t, 0) := by
  unfold labelOf
  rw [tok_low ht, tok_basic ht, tok_has ht, if_neg (fun h => by cases h.1), if_neg (by simp), h]
theorem take4_tok {t : List UInt8} (ht : tok t) : tok (t.take 4) := fun b hb => ht b (List.mem_of_mem_take hb)
theorem lab_uni (t : List UInt8) (last : Bool) (ht : tok t) (h : labelEnd t last = (t, 0)) : ∃ l, uniL t = textOf l ∧ scalL l ∧ undot l ∧ labelOf (textOf l) last = (t, 0) := by
  have hx : isXn t = (decide (4 ≤ t.length) && (lowS (t.take 4) == xn)) := by unfold isXn; rw [tok_low (take4_tok ht)]
  cases hn : isXn t with
  | false =>
    have hu : UnlabelOf t = (t, 0) := by
      unfold UnlabelOf
      by_cases c : t.length < 4
      · rw [if_pos c]
      · rw [if_neg c]
        rw [hn, decide_eq_true (by omega), Bool.true_and] at hx
        rw [if_pos (beq_eq_false_iff_ne.1 hx.symm)]
    refine ⟨t.map byteI, ?_, basic_scalL (tok_lt ht), tok_undot ht, ?_⟩
    · unfold uniL; rw [hu, if_pos rfl, basic_self t (tok_lt ht)]
    · rw [basic_self t (tok_lt ht)]; exact lab_again t last ht h
  | true =>
    rw [hn] at hx
    have hx := hx.symm
    rw [Bool.and_eq_true] at hx
    have h4 := of_decide_eq_true hx.1
    have hxe := beq_iff_eq.1 hx.2
    have hnt : ¬ 63 < t.length ∧ ¬ (t = [] ∧ last = false) ∧ (UnlabelOf t).2 = 0 ∧ has (UnlabelOf t).1 65533 = false ∧ dotted (UnlabelOf t).1 = false := by
      unfold labelEnd at h
      rw [hn] at h
      split at h
      · cases congrArg Prod.snd h
      rename_i c1
      split at h
      · cases congrArg Prod.snd h
      rename_i c2
      rw [if_pos rfl] at h
      split at h
      · cases congrArg Prod.snd h
      rename_i c3
      split at h
      · cases congrArg Prod.snd h
      rename_i c4
      split at h
      · cases congrArg Prod.snd h
      rename_i c5
      exact ⟨c1, c2, by omega, by simpa using c4, by simpa using c5⟩
    obtain ⟨_, _, u2, u3, u4⟩ := hnt
    have hu : UnlabelOf t = ((DecodeOf (t.drop 4)).1, 0) ∧ (DecodeOf (t.drop 4)).2.1 = 0 ∧ (LabelOf (DecodeOf (t.drop 4)).1).2 = 0 ∧ basicB (DecodeOf (t.drop 4)).1 = false ∧ lowS (LabelOf (DecodeOf (t.drop 4)).1).1 = lowS t := by
      unfold UnlabelOf at u2 ⊢
      rw [if_neg (by omega), if_neg (fun h => h hxe)] at u2 ⊢
      split at u2
      · rename_i c; exact absurd u2 c
      rename_i c1
      split at u2
      · cases u2
      rename_i c2
      split at u2
      · cases u2
      rename_i c3
      split at u2
      · cases u2
      rename_i c4
      rw [if_neg c1, if_neg c2, if_neg c3, if_neg c4]
      refine ⟨rfl, by omega, by omega, by simpa using c3, ?_⟩
      by_cases e : lowS (LabelOf (DecodeOf (t.drop 4)).1).1 = lowS t
      · exact e
      · exact absurd e c4
    obtain ⟨e1, e2, e3, e4, e5⟩ := hu
    rw [e1] at u3 u4
    rcases DecodeOf_spec (fun r => lowI r = r) (fun r hr => lowI_high hr) (t.drop 4) (fun b hb => ok_low (ht b (List.mem_of_mem_drop hb))) with ⟨g, _⟩ | ⟨_, _, l, g1, g2, g3, g4⟩
    · exact absurd e2 g
    · dsimp only at u3 u4
      have hu : uniL t = textOf l := by unfold uniL; rw [e1, if_pos rfl]; exact g1
      rw [g1] at u3 u4 e3 e4 e5
      have hd : undot l := by
        unfold dotted at u4
        rw [scalars_text l g2, List.any_eq_false] at u4
        intro r hr
        have := u4 r hr
        simpa using this
      have hlow : lowS (textOf l) = textOf l := by
        rw [low_text l g2]
        congr 1
        rw [List.map_congr_left (g := id) (fun r hr => g3 r hr), List.map_id]
      have hb : tok (LabelOf (textOf l)).1 := by
        refine label_tok (textOf l) _ ?_ e4 (by rw [← e3])
        rw [scalars_text l g2]
        intro r hr h1
        have h2 := low_ok (g2 r hr) (hd r hr) (by rw [g3 r hr]; exact h1)
        rwa [g3 r hr] at h2
      have hback : (LabelOf (textOf l)).1 = t := by rw [← tok_low hb, e5, tok_low ht]
      refine ⟨l, hu, g2, hd, ?_⟩
      unfold labelOf
      rw [hlow, if_pos ⟨e4, u3⟩, if_neg (by omega), hback, h]

def allLab : Nat → List (List UInt8) → Prop
  | _, [] => True
  | i, t :: l => (tok t ∧ labelEnd t (l.isEmpty && decide (0 < i)) = (t, 0)) ∧ allLab (i + 1) l
theorem labGo_all : ∀ (M : List (List Int)) (i : Nat), (∀ x ∈ M, scalL x ∧ undot x) → (labGo i (M.map textOf)).2 = 0 → allLab i (labGo i (M.map textOf)).1 ∧ (labGo i (M.map textOf)).1.length = M.length
  | [], i, _, _ => ⟨trivial, rfl⟩
  | x :: M, i, hM, h => by
    rw [List.map_cons, labGo] at h ⊢
    split at h
    · rename_i c; exact absurd h c
    rename_i c1
    split at h
    · rename_i c; exact absurd h c
    rename_i c2
    rw [if_neg c1, if_neg c2]
    obtain ⟨h1, h2⟩ := labGo_all M (i + 1) (fun y hy => hM y (by simp [hy])) (by omega)
    have hx := hM x (by simp)
    have he : (M.map textOf).isEmpty = (labGo (i + 1) (M.map textOf)).1.isEmpty := by
      cases M with
      | nil => rfl
      | cons z M =>
        cases hl : (labGo (i + 1) ((z :: M).map textOf)).1 with
        | nil => rw [hl] at h2; simp at h2
        | cons a b => rfl
    have := lab_tok x hx.1 hx.2 ((M.map textOf).isEmpty && decide (0 < i)) (labelOf (textOf x) ((M.map textOf).isEmpty && decide (0 < i))).1 (by
      have h0 : (labelOf (textOf x) ((M.map textOf).isEmpty && decide (0 < i))).2 = 0 := by omega
      rw [← h0])
    refine ⟨⟨?_, h1⟩, by dsimp only; rw [List.length_cons, h2, List.length_cons]⟩
    rw [← he]; exact this
theorem allLab_again : ∀ (ts : List (List UInt8)) (i : Nat), allLab i ts → labGo i ts = (ts, 0)
  | [], _, _ => rfl
  | t :: ts, i, h => by
    rw [labGo, lab_again t _ h.1.1 h.1.2, allLab_again ts (i + 1) h.2]; rfl
theorem allLab_tok : ∀ (ts : List (List UInt8)) (i : Nat), allLab i ts → ∀ t ∈ ts, tok t
  | t :: ts, i, h, x, hx => by
    rcases List.mem_cons.1 hx with rfl | hx
    · exact h.1.1
    · exact allLab_tok ts (i + 1) h.2 x hx
theorem allLab_uni : ∀ (ts : List (List UInt8)) (i : Nat), allLab i ts → ∃ M : List (List Int), M.map textOf = ts.map uniL ∧ (∀ x ∈ M, scalL x ∧ undot x) ∧ labGo i (M.map textOf) = (ts, 0)
  | [], i, _ => ⟨[], rfl, fun x hx => (by cases hx), rfl⟩
  | t :: ts, i, h => by
    obtain ⟨l, h1, h2, h3, h4⟩ := lab_uni t _ h.1.1 h.1.2
    obtain ⟨M, g1, g2, g3⟩ := allLab_uni ts (i + 1) h.2
    refine ⟨l :: M, by rw [List.map_cons, List.map_cons, g1, h1], ?_, ?_⟩
    · intro x hx
      rcases List.mem_cons.1 hx with rfl | hx
      · exact ⟨h2, h3⟩
      · exact g2 x hx
    · have he : (M.map textOf).isEmpty = ts.isEmpty := by rw [g1]; cases ts <;> rfl
      rw [List.map_cons, labGo, he, h4, g3]; rfl

def joinA {α : Type} (d : α) : List (List α) → List α
  | [] => []
  | [x] => x
  | x :: y :: l => x ++ d :: joinA d (y :: l)
theorem join_joinA (sep : UInt8) : ∀ l : List (List UInt8), Lib.join l [sep] = joinA sep l
  | [] => Lib.join_nil _
  | [x] => Lib.join_one x _
  | x :: y :: l => by
    rw [Lib.join_cons, joinA, ← join_joinA sep (y :: l), Lib.join_cons]
    simp [Lib.joinTail]
theorem rbs46 : rbs 46 = [46] := by rw [rbs1 (by omega)]; rfl
theorem joinA_text : ∀ M : List (List Int), textOf (joinA 46 M) = joinA 46 (M.map textOf)
  | [] => rfl
  | [x] => rfl
  | x :: y :: l => by
    rw [joinA, textOf_append, textOf_cons, rbs46, joinA_text (y :: l)]; rfl
theorem joinA_map {α β : Type} (f : α → β) (d : α) : ∀ M : List (List α), (joinA d M).map f = joinA (f d) (M.map (List.map f))
  | [] => rfl
  | [x] => rfl
  | x :: y :: l => by
    rw [joinA, List.map_append, List.map_cons, joinA_map f d (y :: l)]; rfl
theorem joinA_mem {α : Type} (d : α) : ∀ M : List (List α), ∀ r ∈ joinA d M, r = d ∨ ∃ x ∈ M, r ∈ x
  | [x], r, h => .inr ⟨x, by simp, h⟩
  | x :: y :: l, r, h => by
    rw [joinA] at h
    rcases List.mem_append.1 h with h | h
    · exact .inr ⟨x, by simp, h⟩
    · rcases List.mem_cons.1 h with rfl | h
      · exact .inl rfl
      · rcases joinA_mem d (y :: l) r h with h | ⟨z, hz, h⟩
        · exact .inl h
        · exact .inr ⟨z, List.mem_cons_of_mem _ hz, h⟩
theorem dcut_app : ∀ (x cur l : List Int), undot x → dcut cur (x ++ l) = dcut (cur ++ x) l
  | [], cur, l, _ => by rw [List.append_nil]; rfl
  | r :: x, cur, l, h => by
    rw [List.cons_append, dcut, h r (by simp), if_neg (by simp), dcut_app x (cur ++ [r]) l (fun y hy => h y (by simp [hy])), List.append_assoc]; rfl
theorem dcut_join : ∀ (M : List (List Int)), M ≠ [] → (∀ x ∈ M, undot x) → dcut [] (joinA 46 M) = M
  | [], h, _ => absurd rfl h
  | [x], _, h => by
    have := dcut_app x [] [] (h x (by simp))
    rw [List.append_nil, List.nil_append] at this
    exact this
  | x :: y :: l, _, h => by
    rw [joinA, dcut_app x [] _ (h x (by simp)), List.nil_append, dcut, show dotI 46 = true from rfl, if_pos rfl, dcut_join (y :: l) (by simp) (fun z hz => h z (List.mem_cons_of_mem _ hz))]
def no46 (x : List UInt8) : Prop := ∀ b ∈ x, byteI b ≠ 46
theorem splitC_app : ∀ (x cur l : List UInt8), no46 x → splitC 46 cur (x ++ l) = splitC 46 (cur ++ x) l
  | [], cur, l, _ => by rw [List.append_nil]; rfl
  | r :: x, cur, l, h => by
    rw [List.cons_append, splitC, if_neg (show ¬ ((r.toNat : Nat) : Int) = 46 from h r (by simp)), splitC_app x (cur ++ [r]) l (fun y hy => h y (by simp [hy])), List.append_assoc]; rfl
theorem split_joinA : ∀ (M : List (List UInt8)), M ≠ [] → (∀ x ∈ M, no46 x) → splitAt (joinA 46 M) 46 = M
  | [], h, _ => absurd rfl h
  | [x], _, h => by
    have := splitC_app x [] [] (h x (by simp))
    rw [List.append_nil, List.nil_append] at this
    exact this
  | x :: y :: l, _, h => by
    have ih := split_joinA (y :: l) (by simp) (fun z hz => h z (List.mem_cons_of_mem _ hz))
    unfold splitAt at ih ⊢
    rw [joinA, splitC_app x [] _ (h x (by simp)), List.nil_append, splitC, if_pos (by decide), ih]
theorem tok_no46 {t : List UInt8} (h : tok t) : no46 t := fun b hb => (h b hb).2.2.1
theorem joinA_len4 : ∀ ts : List (List UInt8), (joinA 46 (ts.map uniL)).length ≤ 4 * (joinA 46 ts).length
  | [] => by simp [joinA]
  | [x] => uniL_len x
  | x :: y :: l => by
    have h1 := uniL_len x
    have h2 := joinA_len4 (y :: l)
    simp only [List.map_cons, joinA, List.length_append, List.length_cons] at h1 h2 ⊢
    omega
theorem trimDot_len (y : List UInt8) : y.length ≤ (trimDot y).length + 1 := by
  unfold trimDot; split
  · rw [List.length_dropLast]; omega
  · omega
theorem uni_nil : unicodeOf [] = [] := by
  have : uniL [] = [] := by
    have h := uniL_len []
    exact List.eq_nil_of_length_eq_zero (by simpa using h)
  show Lib.join [uniL []] [46] = []
  rw [this, Lib.join_one]
theorem ascii_nil : asciiOf [] = ([], 0) := by
  unfold asciiOf
  rw [if_neg (by rw [valid_basic [] (fun b hb => by cases hb)]; simp), if_neg (by simp), if_pos rfl]
theorem lab_nil : labelOf [] false = ([], 53) := by
  have h1 : basicB (lowS []) = true := rfl
  have h2 : has (lowS []) 65533 = false := rfl
  unfold labelOf
  rw [h1, h2, if_neg (fun h => by cases h.1), if_neg (by simp)]
  unfold labelEnd
  rw [if_neg (by simp [lowS]), if_pos ⟨rfl, rfl⟩]

theorem ascii_twice (s a : List UInt8) (h : asciiOf s = (a, 0)) : asciiOf a = (a, 0) ∧ asciiOf (unicodeOf a) = (a, 0) ∧ a.length ≤ 254 := by
  by_cases ha : a = []
  · subst ha; rw [uni_nil]; exact ⟨ascii_nil, ascii_nil, by simp⟩
  unfold asciiOf at h
  split at h
  · cases congrArg Prod.snd h
  rename_i hv
  split at h
  · cases congrArg Prod.snd h
  rename_i hl
  split at h
  · exact absurd (congrArg Prod.fst h).symm ha
  rename_i hne
  split at h
  · rename_i c; exact absurd (congrArg Prod.snd h) c
  rename_i hgo
  have hM : ∀ x ∈ dcut [] (scalarsOf s), scalL x ∧ undot x := by
    intro x hx
    refine ⟨fun r hr => ?_, fun r hr => ?_⟩
    · rcases dcut_mem _ _ x hx r hr with h | h
      · cases h
      · exact scalars_scal s r h.1
    · rcases dcut_mem _ _ x hx r hr with h | h
      · cases h
      · exact h.2
  obtain ⟨h1, h2⟩ := labGo_all _ 0 hM (by omega)
  generalize (labGo 0 ((dcut [] (scalarsOf s)).map textOf)).1 = ts at h h1 h2
  have hts : ts ≠ [] := by
    have := (dcut_len (scalarsOf s) []).1
    rintro rfl; simp at h2; omega
  unfold joinEnd at h
  split at h
  · cases congrArg Prod.snd h
  rename_i hlen
  have hje := congrArg Prod.fst h
  dsimp only at hje
  have hend : joinEnd ts = (a, 0) := by unfold joinEnd; rw [if_neg hlen, hje]
  have hal : a.length ≤ 254 := by
    have := trimDot_len (Lib.join ts [46])
    rw [hje] at this hlen; omega
  rw [join_joinA] at hje
  have htok := allLab_tok ts 0 h1
  have halt : ∀ b ∈ a, byteI b < 128 := by
    intro b hb
    rw [← hje] at hb
    rcases joinA_mem 46 ts b hb with rfl | ⟨x, hx, hb⟩
    · decide
    · exact tok_lt (htok x hx) b hb
  refine ⟨?_, ?_, hal⟩
  · have hsc : scalarsOf a = joinA 46 (ts.map (List.map byteI)) := by
      rw [scalars_basic a halt, ← hje, joinA_map]; rfl
    have hcut : dcut [] (scalarsOf a) = ts.map (List.map byteI) := by
      rw [hsc]
      refine dcut_join _ (by simpa using hts) (fun x hx => ?_)
      obtain ⟨t, ht, rfl⟩ := List.mem_map.1 hx
      exact tok_undot (htok t ht)
    have hback : (ts.map (List.map byteI)).map textOf = ts := by
      rw [List.map_map, List.map_congr_left (f := textOf ∘ List.map byteI) (g := id) (fun t ht => basic_self t (tok_lt (htok t ht))), List.map_id]
    unfold asciiOf
    rw [if_neg (by rw [valid_basic a halt]; simp), if_neg (by omega), if_neg ha, hcut, hback, allLab_again ts 0 h1, if_neg (by simp)]
    exact hend
  · obtain ⟨M, g1, g2, g3⟩ := allLab_uni ts 0 h1
    have hMne : M ≠ [] := by
      rintro rfl
      cases ts with
      | nil => exact hts rfl
      | cons t ts => cases g1
    have hu : unicodeOf a = textOf (joinA 46 M) := by
      unfold unicodeOf
      rw [← hje, split_joinA ts hts (fun x hx => tok_no46 (htok x hx)), join_joinA, ← g1, joinA_text]
    have hul : (unicodeOf a).length ≤ 1016 := by
      rw [hu, joinA_text, g1]
      have := joinA_len4 ts
      rw [hje] at this; omega
    have hsl : scalL (joinA 46 M) := by
      intro r hr
      rcases joinA_mem 46 M r hr with rfl | ⟨x, hx, hr⟩
      · rfl
      · exact (g2 x hx).1 r hr
    have hune : unicodeOf a ≠ [] := by
      intro e
      rw [hu] at e
      have hj : joinA 46 M = [] := by
        have := textOf_len_ge (joinA 46 M)
        rw [e] at this
        exact List.eq_nil_of_length_eq_zero (by simpa using this)
      cases M with
      | nil => exact hMne rfl
      | cons x M =>
        cases M with
        | cons y M => simp [joinA] at hj
        | nil =>
          have hj : x = [] := hj
          subst hj
          have : labGo 0 ([[]].map textOf) = ([], 53) := by
            show labGo 0 [[]] = _
            rw [labGo, show (([] : List (List UInt8)).isEmpty && decide (0 < 0)) = false from rfl, lab_nil, if_pos (by simp)]
          rw [this] at g3
          cases congrArg Prod.snd g3
    unfold asciiOf
    rw [if_neg (by rw [hu, valid_text _ hsl]; simp), if_neg (by omega), if_neg hune, hu, scalars_text _ hsl, dcut_join M hMne (fun x hx => (g2 x hx).2), g3, if_neg (by simp)]
    exact hend
end Go.Abs
namespace Go.Abs
set_option autoImplicit false

def hnil : D35 := ((0 : Int), (([] : List UInt8), ((0 : Int), z8)))
theorem hnil_eq : ((Ty.zero (.int .i64)), ((Ty.zero .str), ((Ty.zero (.int .u32)), (Ty.zero (.arr 8 (.int .u16)))))) = hnil := rfl
def badB (b : UInt8) : Bool := decide (byteI b < 32) || (byteI b == 37 || (byteI b == 127 || forbI (byteI b)))
theorem forb_all2 : (List.range 256).all (fun n => decide (Lib.indexByte forb (UInt8.ofNat (n : Int).toNat) ≥ 0) == forbI (n : Int)) = true := by kernel_rfl
theorem forb_byte (b : UInt8) : decide (Lib.indexByte forb (UInt8.ofNat (byteI b).toNat) ≥ 0) = forbI (byteI b) := by
  have h := byteI_lt b
  obtain ⟨n, hn⟩ := Int.eq_ofNat_of_zero_le h.1
  have := List.all_eq_true.1 forb_all2 n (List.mem_range.2 (by omega))
  rw [hn]
  exact beq_iff_eq.1 this
def domEnd (name : List UInt8) : D35 × Int :=
  if endsOf name = true then (if (ipOf name).2 ≠ 0 then (hnil, (ipOf name).2) else (((2 : Int), (([] : List UInt8), ((ipOf name).1, z8))), 0)) else (((1 : Int), (name, ((0 : Int), z8))), 0)
def specialOf (s : List UInt8) : D35 × Int :=
  if (asciiOf (decText s)).2 ≠ 0 then (hnil, (asciiOf (decText s)).2) else if (asciiOf (decText s)).1 = [] then (hnil, 51)
  else if (asciiOf (decText s)).1.any badB = true then (hnil, 52) else domEnd (asciiOf (decText s)).1
def opaqueOf (s : List UInt8) : D35 × Int :=
  if forbids s = true then (hnil, 52) else if 65536 < (encText s).length then (hnil, 5) else (((4 : Int), (encText s, ((0 : Int), z8))), 0)
def inner (s : List UInt8) : List UInt8 := (s.take (s.length - 1)).drop 1
def sixIn (s : List UInt8) : D35 × Int :=
  if s.getLast? ≠ some 93 then (hnil, 51) else if s.length < 2 then (hnil, 51) else if (v6Of (inner s)).2 ≠ 0 then (hnil, (v6Of (inner s)).2)
  else (((3 : Int), (([] : List UInt8), ((0 : Int), (v6Of (inner s)).1))), 0)
def parseOf (s : List UInt8) (sp : Bool) : D35 × Int :=
  if 65536 < s.length then (hnil, 5) else if s.head? = some 91 then sixIn s
  else if sp = true then specialOf s else if s = [] then (((5 : Int), (([] : List UInt8), ((0 : Int), z8))), 0) else opaqueOf s

theorem dom_loop (s : List UInt8) (sp : Bool) (name : List UInt8) (hn : name.length ≤ 65536) : ∀ (n i : Nat), i + n = name.length → Z11 s sp name (name.length : Int) (i : Int) hnil = some (if (name.drop i).any badB = true then (hnil, 52) else domEnd name)
  | 0, i, h => by
    have : i = name.length := by omega
    subst this
    rw [Z11_eq, lt_nat, decide_eq_false (Nat.lt_irrefl _), cond_false, List.drop_length, if_neg (by simp), c_host_EndsInNumber_val name (by omega), Option.bind_some]
    unfold domEnd
    cases endsOf name with
    | false => rw [cond_false, if_neg (by simp)]; rfl
    | true =>
      rw [cond_true, if_pos rfl, c_host_IPv4_val name (by omega), Option.bind_some, bne0]
      by_cases c : (ipOf name).2 ≠ 0
      · rw [decide_eq_true c, cond_true, if_pos c]; rfl
      · rw [decide_eq_false c, cond_false, if_neg c]; rfl
  | n + 1, i, h => by
    have hi : i < name.length := by omega
    have hw : IntKind.i64.wrap ((i : Int) + 1) = ((i + 1 : Nat) : Int) := by rw [w64 (by omega) (by omega)]; omega
    have hg : (((UInt8.toNat (List.getD name (Int.toNat (i : Int)) (0 : UInt8))) : Nat) : Int) = byteI name[i] := by
      rw [Int.toNat_natCast, List.getD_eq_getElem?_getD, List.getElem?_eq_getElem hi]; rfl
    rw [Z11_eq, lt_nat, decide_eq_true hi, cond_true, inside_nat, decide_eq_true hi, cond_true, hg, hw, List.drop_eq_getElem_cons hi, List.any_cons, dom_loop s sp name hn n (i + 1) (by omega), c_strings_IndexByte_eq, primIndexByte]
    have e : badB name[i] = (decide (byteI name[i] < 32) || (byteI name[i] == 37 || (byteI name[i] == 127 || forbI (byteI name[i])))) := rfl
    rw [e]
    have key : ((some (Lib.indexByte forb (UInt8.ofNat (byteI name[i]).toNat))).bind fun y0 => bif (decide (y0 ≥ (0 : Int))) then some (hnil, (52 : Int)) else some (if (name.drop (i + 1)).any badB = true then (hnil, (52 : Int)) else domEnd name)) = some (if (forbI (byteI name[i]) || (name.drop (i + 1)).any badB) = true then (hnil, 52) else domEnd name) := by
      rw [Option.bind_some, forb_byte]
      cases forbI (byteI name[i]) with
      | true => rw [cond_true, Bool.true_or, if_pos rfl]
      | false => rw [cond_false, Bool.false_or]
    cases decide (byteI name[i] < 32) with
    | true => rw [cond_true, Bool.true_or, Bool.true_or, if_pos rfl]; rfl
    | false =>
      rw [cond_false, Bool.false_or]
      cases (byteI name[i] == 37) with
      | true => rw [cond_true, Bool.true_or, Bool.true_or, if_pos rfl]; rfl
      | false =>
        rw [cond_false, Bool.false_or]
        cases (byteI name[i] == 127) with
        | true => rw [cond_true, Bool.true_or, Bool.true_or, if_pos rfl]; rfl
        | false =>
          rw [cond_false, Bool.false_or]
          exact key
theorem joinEnd_len (l : List (List UInt8)) : (joinEnd l).1.length ≤ 254 := by
  unfold joinEnd
  split
  · simp
  · have := trimDot_len (Lib.join l [46])
    dsimp only; omega
theorem asciiOf_len (s : List UInt8) : (asciiOf s).1.length ≤ 254 := by
  unfold asciiOf
  repeat' split
  all_goals first | exact joinEnd_len _ | simp
theorem special_run (s : List UInt8) (sp : Bool) (hs : s.length ≤ 65536) : ((c_percent_DecodeText s).bind fun y0 =>
                  (c_host_ToASCII y0).bind fun y1 =>
                    bif (y1.2 != (0 : Int)) then
                      some (((Ty.zero (.int .i64)), ((Ty.zero .str), ((Ty.zero (.int .u32)), (Ty.zero (.arr 8 (.int .u16)))))), y1.2)
                    else
                      bif (y1.1 == ([] : List UInt8)) then
                        some (((Ty.zero (.int .i64)), ((Ty.zero .str), ((Ty.zero (.int .u32)), (Ty.zero (.arr 8 (.int .u16)))))), (51 : Int))
                      else
                        Z11 s sp y1.1 (((List.length y1.1) : Nat) : Int) (0 : Int) ((Ty.zero (.int .i64)), ((Ty.zero .str), ((Ty.zero (.int .u32)), (Ty.zero (.arr 8 (.int .u16))))))) = some (specialOf s) := by
  have hl := asciiOf_len (decText s)
  rw [hnil_eq, c_percent_DecodeText_val s (by omega), Option.bind_some, c_host_ToASCII_val, Option.bind_some, bne0]
  unfold specialOf
  by_cases c : (asciiOf (decText s)).2 ≠ 0
  · rw [decide_eq_true c, cond_true, if_pos c]
  · rw [decide_eq_false c, cond_false, if_neg c]
    by_cases d : (asciiOf (decText s)).1 = []
    · rw [show ((asciiOf (decText s)).1 == []) = true from by rw [d]; rfl, cond_true, if_pos d]
    · have := dom_loop s sp (asciiOf (decText s)).1 (by omega) (asciiOf (decText s)).1.length 0 (by omega)
      rw [show ((0 : Nat) : Int) = 0 from rfl, List.drop_zero] at this
      rw [show ((asciiOf (decText s)).1 == []) = false from by simpa using d, cond_false, if_neg d, this]
theorem opaque_run (s : List UInt8) (hs : s.length ≤ 65536) : ((c_strings_ContainsAny (s, ([(0 : UInt8), (9 : UInt8), (10 : UInt8), (13 : UInt8), (32 : UInt8), (35 : UInt8), (47 : UInt8), (58 : UInt8), (60 : UInt8), (62 : UInt8), (63 : UInt8), (64 : UInt8), (91 : UInt8), (92 : UInt8), (93 : UInt8), (94 : UInt8), (124 : UInt8)] : List UInt8))).bind fun y0 =>
                  bif y0 then
                    some (((Ty.zero (.int .i64)), ((Ty.zero .str), ((Ty.zero (.int .u32)), (Ty.zero (.arr 8 (.int .u16)))))), (52 : Int))
                  else
                    (c_percent_EncodeText ((1 : Int), s)).bind fun y1 =>
                      bif (decide ((((List.length y1.1) : Nat) : Int) > (65536 : Int))) then
                        some (((Ty.zero (.int .i64)), ((Ty.zero .str), ((Ty.zero (.int .u32)), (Ty.zero (.arr 8 (.int .u16)))))), (5 : Int))
                      else
                        some (((4 : Int), (y1.1, ((Ty.zero (.int .u32)), (Ty.zero (.arr 8 (.int .u16)))))), (0 : Int))) = some (opaqueOf s) := by
  rw [show ([(0 : UInt8), (9 : UInt8), (10 : UInt8), (13 : UInt8), (32 : UInt8), (35 : UInt8), (47 : UInt8), (58 : UInt8), (60 : UInt8), (62 : UInt8), (63 : UInt8), (64 : UInt8), (91 : UInt8), (92 : UInt8), (93 : UInt8), (94 : UInt8), (124 : UInt8)] : List UInt8) = forb from rfl, ContainsAny_val s (by omega), Option.bind_some, hnil_eq]
  unfold opaqueOf
  cases forbids s with
  | true => rw [cond_true, if_pos rfl]
  | false =>
    rw [cond_false, if_neg (by simp), c_percent_EncodeText_val s (by omega), Option.bind_some]
    by_cases c : 65536 < (encText s).length
    · rw [show decide (((encText s).length : Int) > 65536) = true from decide_eq_true (by omega), cond_true, if_pos c]
    · rw [show decide (((encText s).length : Int) > 65536) = false from decide_eq_false (by omega), cond_false, if_neg c]; rfl
theorem c_host_Parse_val (s : List UInt8) (sp : Bool) : c_host_Parse (s, sp) = some (parseOf s sp) := by
  rw [c_host_Parse_eq, Z01_eq]
  unfold parseOf
  simp only
  by_cases a : 65536 < s.length
  · rw [show decide ((s.length : Int) > 65536) = true from decide_eq_true (by omega), cond_true, if_pos a]; rfl
  rw [show decide ((s.length : Int) > 65536) = false from decide_eq_false (by omega), cond_false, if_neg a, special_run s sp (by omega), opaque_run s (by omega)]
  cases s with
  | nil =>
    rw [show (!(([] : List UInt8) == [])) = false from rfl, cond_false, if_neg (by simp)]
    cases sp with
    | true => rw [Bool.not_true, cond_false, if_pos rfl]; rfl
    | false => rw [Bool.not_false, cond_true, if_neg (by simp), if_pos rfl, show ((([] : List UInt8)) == []) = true from rfl, cond_true]; rfl
  | cons b t =>
    have hlen : (b :: t).length = t.length + 1 := rfl
    have hne : ((b :: t) == ([] : List UInt8)) = false := rfl
    have h0 : (((UInt8.toNat (List.getD (b :: t) (Int.toNat (0 : Int)) (0 : UInt8))) : Nat) : Int) = byteI b := rfl
    rw [hne, Bool.not_false, cond_true, in_zero, cond_true, h0]
    by_cases c : b = 91
    · subst c
      have hw : IntKind.i64.wrap ((((91 : UInt8) :: t).length : Int) - 1) = ((((91 : UInt8) :: t).length - 1 : Nat) : Int) := by rw [w64 (by omega) (by omega)]; omega
      rw [show (byteI 91 == 91) = true from rfl, cond_true, hw, inside_nat, decide_eq_true (by omega), cond_true, Int.toNat_natCast, if_pos (show ((91 : UInt8) :: t).head? = some 91 from rfl)]
      unfold sixIn
      rw [getLast_at _ (by omega)]
      generalize hgl : List.getD ((91 : UInt8) :: t) (((91 : UInt8) :: t).length - 1) 0 = g
      by_cases d : g = 93
      · subst d
        rw [show ((((93 : UInt8).toNat : Nat) : Int) != 93) = false from rfl, cond_false, if_neg (by simp)]
        by_cases e : ((91 : UInt8) :: t).length < 2
        · rw [show decide (((((91 : UInt8) :: t).length : Nat) : Int) < 2) = true from decide_eq_true (by omega), cond_true, if_pos e]; rfl
        · have hcut : cutList (some (1 : Int)) (some ((((91 : UInt8) :: t).length - 1 : Nat) : Int)) ((91 : UInt8) :: t) = inner ((91 : UInt8) :: t) := cutList_both 1 _ _
          have hil : (inner ((91 : UInt8) :: t)).length ≤ 65536 := by
            unfold inner
            rw [List.length_drop, List.length_take]; omega
          rw [show decide (((((91 : UInt8) :: t).length : Nat) : Int) < 2) = false from decide_eq_false (by omega), cond_false, if_neg e, show cutOk (some (1 : Int)) (some ((((91 : UInt8) :: t).length - 1 : Nat) : Int)) ((91 : UInt8) :: t).length = true from cut_both (f := 1) (by omega) (by omega), cond_true, hcut, c_host_IPv6_val _ (by omega), Option.bind_some, bne0]
          by_cases f : (v6Of (inner ((91 : UInt8) :: t))).2 ≠ 0
          · rw [decide_eq_true f, cond_true, if_pos f]; rfl
          · rw [decide_eq_false f, cond_false, if_neg f]; rfl
      · have hb : ((((g.toNat : Nat) : Int)) != 93) = true := bne_iff_ne.2 (fun h => d (byteI_inj (show byteI g = byteI 93 from h)))
        rw [hb, cond_true, if_pos (by simpa using d)]; rfl
    · have hb : (byteI b == 91) = false := beq_eq_false_iff_ne.2 (fun h => c (byteI_inj (show byteI b = byteI 91 from h)))
      rw [hb, cond_false, if_neg (by simpa using c)]
      cases sp with
      | true => rw [Bool.not_true, cond_false, if_pos rfl]; rfl
      | false => rw [Bool.not_false, cond_true, if_neg (by simp), if_neg (by simp), cond_false]; rfl
end Go.Abs
namespace Go.Abs
set_option autoImplicit false

theorem bat_get (s : List UInt8) (k : Nat) (hk : k < s.length) : bat s k = byteI s[k] := ((drop_bat s k hk).2).symm
theorem ut1_of {s : List UInt8} {k : Nat} (h : bat s k < 128) : ut1 s k = true := decide_eq_true h
theorem runeAt_low {s : List UInt8} {k : Nat} (h : bat s k < 128) : runeAt s k = (bat s k, (1, false)) := by
  unfold runeAt; rw [if_pos (ut1_of h)]
theorem wwd_low {s : List UInt8} {k : Nat} (h : bat s k < 128) : wwd s k = 1 := by
  unfold wwd wd; rw [runeAt_low h]; rfl
theorem web_basic_go (s : List UInt8) (hb : ∀ b ∈ s, byteI b < 128) : ∀ (n k : Nat), s.length ≤ k + n → k ≤ s.length → (wpcs s n k).map (·.2.1) = (s.drop k).map byteI
  | 0, k, h, hk => by rw [List.drop_eq_nil_of_le (by omega)]; rfl
  | n + 1, k, h, hk => by
    unfold wpcs
    by_cases c : k < s.length
    · have h1 : bat s k < 128 := by rw [bat_get s k c]; exact hb _ (List.getElem_mem c)
      rw [if_pos c, wwd_low h1, List.map_cons, web_basic_go s hb n (k + 1) (by omega) (by omega), runeAt_low h1, List.drop_eq_getElem_cons c, List.map_cons, bat_get s k c]
    · rw [if_neg c, List.drop_eq_nil_of_le (by omega)]; rfl
theorem webRunes_basic (s : List UInt8) (hb : ∀ b ∈ s, byteI b < 128) : webRunes s = s.map byteI := web_basic_go s hb s.length 0 (by omega) (by omega)
theorem webFix_basic (s : List UInt8) (hb : ∀ b ∈ s, byteI b < 128) : webFix s = s := by
  unfold webFix; rw [webRunes_basic s hb, basic_self s hb]
theorem pdec_plain (s : List UInt8) (h : ∀ b ∈ s, byteI b ≠ 37) : ∀ (n k : Nat), s.length ≤ k + n → k ≤ s.length → pdec s n k = (s.drop k).map byteI
  | 0, k, hn, hk => by rw [List.drop_eq_nil_of_le (by omega)]; rfl
  | n + 1, k, hn, hk => by
    unfold pdec
    by_cases c : k < s.length
    · have ht : trip s k = -1 := by
        unfold trip
        rw [if_neg (fun e => h _ (List.getElem_mem c) (by rw [← bat_get s k c]; exact e.2.1))]
      rw [if_pos c, if_neg (by omega), pdec_plain s h n (k + 1) (by omega) (by omega), List.drop_eq_getElem_cons c, List.map_cons, bat_get s k c]
    · rw [if_neg c, List.drop_eq_nil_of_le (by omega)]; rfl
theorem strOf_bytes (s : List UInt8) : strOf (s.map byteI) = s := by
  unfold strOf
  rw [List.map_map, List.map_congr_left (f := (fun n : Int => UInt8.ofNat n.toNat) ∘ byteI) (g := id) (fun b _ => ofInt_byteI b), List.map_id]
theorem pdec_noPct (s : List UInt8) (h : ∀ b ∈ s, byteI b ≠ 37) : strOf (pdec s s.length 0) = s := by
  rw [pdec_plain s h s.length 0 (by omega) (by omega), List.drop_zero, strOf_bytes]
theorem decText_noPct (s : List UInt8) (h : ∀ b ∈ s, byteI b ≠ 37) : decText s = webFix s := by unfold decText; rw [pdec_noPct s h]
theorem decText_self (s : List UInt8) (h : ∀ b ∈ s, byteI b ≠ 37) (hb : ∀ b ∈ s, byteI b < 128) : decText s = s := by rw [decText_noPct s h, webFix_basic s hb]

theorem bytesI_low {r : Int} (h : scal r = true) : ∀ x ∈ bytesI r, x < 128 → x = r := by
  have hr := scal_range h
  intro x hx hlt
  unfold bytesI at hx
  split at hx
  · exact List.mem_singleton.1 hx
  · split at hx
    · simp only [List.mem_cons, List.not_mem_nil, or_false] at hx; omega
    · split at hx
      · simp only [List.mem_cons, List.not_mem_nil, or_false] at hx; omega
      · simp only [List.mem_cons, List.not_mem_nil, or_false] at hx; omega
theorem bytesI_range {r : Int} (h : scal r = true) : ∀ x ∈ bytesI r, 0 ≤ x ∧ x ≤ 255 := by
  have hr := scal_range h
  intro x hx
  unfold bytesI at hx
  split at hx
  · rw [List.mem_singleton.1 hx]; omega
  · split at hx
    · simp only [List.mem_cons, List.not_mem_nil, or_false] at hx; omega
    · split at hx
      · simp only [List.mem_cons, List.not_mem_nil, or_false] at hx; omega
      · simp only [List.mem_cons, List.not_mem_nil, or_false] at hx; omega
theorem rbs_low {r : Int} (h : scal r = true) (b : UInt8) (hb : b ∈ rbs r) (hlt : byteI b < 128) : byteI b = r := by
  unfold rbs strOf at hb
  obtain ⟨x, hx, rfl⟩ := List.mem_map.1 hb
  have := bytesI_range h x hx
  rw [byteI_ofInt this.1 this.2] at hlt ⊢
  exact bytesI_low h x hx hlt
theorem text_low (l : List Int) (h : scalL l) : ∀ b ∈ textOf l, byteI b < 128 → byteI b ∈ l := by
  induction l with
  | nil => intro b hb; rw [textOf_nil] at hb; cases hb
  | cons r l ih =>
    intro b hb hlt
    obtain ⟨h1, h2⟩ := scalL_tail h
    rw [textOf_cons] at hb
    rcases List.mem_append.1 hb with hb | hb
    · rw [rbs_low h1 b hb hlt]; simp
    · exact List.mem_cons_of_mem _ (ih h2 b hb hlt)
theorem webRunes_scal (s : List UInt8) : scalL (webRunes s) := by
  intro r hr
  unfold webRunes webOf at hr
  obtain ⟨x, hx, rfl⟩ := List.mem_map.1 hr
  exact wpcs_scal s s.length 0 x hx
theorem low_rune (s : List UInt8) (k : Nat) (c : k < s.length) (h : (runeAt s k).1 < 128) : ∃ b ∈ s, byteI b = (runeAt s k).1 := by
  by_cases q : ut1 s k = true
  · have := of_decide_eq_true q
    rw [runeAt_low this]
    exact ⟨s[k], List.getElem_mem c, (bat_get s k c).symm⟩
  · have h2 := (piece_high s k c q).1
    exact absurd h (Int.not_lt.2 h2)
theorem web_low_go (s : List UInt8) : ∀ (n k : Nat), ∀ r ∈ (wpcs s n k).map (·.2.1), r < 128 → ∃ b ∈ s, byteI b = r
  | 0, k, r, hr, _ => by cases hr
  | n + 1, k, r, hr, hlt => by
    rw [wpcs] at hr
    split at hr
    · rename_i c
      rw [List.map_cons] at hr
      rcases List.mem_cons.1 hr with e | hr
      · dsimp only at e
        rw [e] at hlt ⊢
        exact low_rune s k c hlt
      · exact web_low_go s n _ r hr hlt
    · cases hr
theorem webFix_low (s : List UInt8) : ∀ b ∈ webFix s, byteI b < 128 → b ∈ s := by
  intro b hb hlt
  have h1 := text_low _ (webRunes_scal s) b hb hlt
  obtain ⟨c, hc, e⟩ := web_low_go s s.length 0 _ h1 hlt
  rw [← byteI_inj e]; exact hc
theorem webRunes_ne (s : List UInt8) (h : s ≠ []) : webRunes s ≠ [] := by
  unfold webRunes webOf
  cases s with
  | nil => exact absurd rfl h
  | cons b t => rw [List.length_cons, wpcs, if_pos (by simp)]; simp
theorem webFix_ne (s : List UInt8) (h : s ≠ []) : webFix s ≠ [] := by
  intro e
  have h1 := textOf_len_ge (webRunes s)
  have h2 : (textOf (webRunes s)).length = 0 := by
    show (webFix s).length = 0
    rw [e]; rfl
  exact webRunes_ne s h (List.eq_nil_of_length_eq_zero (by omega))

def plainI (c : Int) : Prop := 32 ≤ c ∧ c ≤ 126
instance (c : Int) : Decidable (plainI c) := by unfold plainI; infer_instance
theorem ctl_get (c : Int) (h0 : 0 ≤ c) (h1 : c ≤ 255) : ctlSet.getD c.toNat false = decide (¬ (32 ≤ c ∧ c ≤ 126)) := by
  have : (List.range 256).all (fun n => ctlSet.getD n false == decide (¬ (32 ≤ (n : Int) ∧ (n : Int) ≤ 126))) = true := by kernel_rfl
  obtain ⟨n, rfl⟩ := Int.eq_ofNat_of_zero_le h0
  have := List.all_eq_true.1 this n (List.mem_range.2 (by omega))
  rw [Int.toNat_natCast]; exact beq_iff_eq.1 this
theorem encB_plain {c : Int} (h : plainI c) : encB c = [c] := by
  unfold encB
  rw [ctl_get c (by have := h.1; omega) (by have := h.2; omega), if_neg (by simp only [decide_eq_true_eq]; exact fun e => e h)]
theorem esc_tab : (List.range 256).all (fun n => (esc (n : Int)).all (fun x => decide (32 ≤ x ∧ x ≤ 126) && !forbI x)) = true := by kernel_rfl
theorem esc_facts (c : Int) (h0 : 0 ≤ c) (h1 : c ≤ 255) : ∀ x ∈ esc c, plainI x ∧ forbI x = false := by
  intro x hx
  obtain ⟨n, rfl⟩ := Int.eq_ofNat_of_zero_le h0
  have := List.all_eq_true.1 (List.all_eq_true.1 esc_tab n (List.mem_range.2 (by omega))) x hx
  rw [Bool.and_eq_true] at this
  exact ⟨of_decide_eq_true this.1, by simpa using this.2⟩
theorem encText_mem (s : List UInt8) : ∀ b ∈ encText s, plainI (byteI b) ∧ (forbids s = false → forbI (byteI b) = false) := by
  intro b hb
  unfold encText strOf at hb
  obtain ⟨x, hx, rfl⟩ := List.mem_map.1 hb
  obtain ⟨c, hc, hx⟩ := List.mem_flatMap.1 hx
  unfold bytesOf at hc
  obtain ⟨b', hb', rfl⟩ := List.mem_map.1 hc
  have hr := byteI_lt b'
  have hx : x ∈ encB (byteI b') := hx
  unfold encB at hx
  split at hx
  · have := esc_facts (byteI b') hr.1 hr.2 x hx
    have hp := this.1
    rw [byteI_ofInt (by have := hp.1; omega) (by have := hp.2; omega)]
    exact ⟨hp, fun _ => this.2⟩
  · rename_i hctl
    rw [List.mem_singleton.1 hx, byteI_ofInt hr.1 hr.2]
    rw [ctl_get _ hr.1 hr.2] at hctl
    have hp : plainI (byteI b') := by
      by_cases e : 32 ≤ byteI b' ∧ byteI b' ≤ 126
      · exact e
      · exact absurd (decide_eq_true e) hctl
    refine ⟨hp, fun hf => ?_⟩
    have hm := webFix_low s b' hb' (by have := hp.2; omega)
    unfold forbids at hf
    rw [List.any_eq_false] at hf
    simpa using hf b' hm
theorem flat_plain : ∀ (l : List Int), (∀ x ∈ l, plainI x) → l.flatMap encB = l
  | [], _ => rfl
  | x :: l, h => by rw [List.flatMap_cons, encB_plain (h x (by simp)), flat_plain l (fun y hy => h y (by simp [hy]))]; rfl
theorem encText_self (t : List UInt8) (h : ∀ b ∈ t, plainI (byteI b)) : encText t = t := by
  unfold encText
  rw [webFix_basic t (fun b hb => by have := (h b hb).2; omega), show bytesOf t = t.map byteI from rfl, flat_plain _ (fun x hx => by
    obtain ⟨b, hb, rfl⟩ := List.mem_map.1 hx
    exact h b hb), strOf_bytes]
theorem encText_ne (s : List UInt8) (h : s ≠ []) : encText s ≠ [] := by
  have hw := webFix_ne s h
  unfold encText
  cases hws : webFix s with
  | nil => exact absurd hws hw
  | cons b t =>
    intro e
    have := congrArg List.length e
    have hb := encB_len ((b.toNat : Nat) : Int)
    unfold strOf bytesOf at this
    rw [List.length_map, List.map_cons, List.flatMap_cons, List.length_append, List.length_nil] at this
    omega
end Go.Abs
