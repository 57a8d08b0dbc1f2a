/- Part L8 of the proof: see the last text of the claim. No condition of its own. -/
import Derived.Test.YtddagflhafkbnaaGreatDoorL6
import Derived.Test.YtddagflhafkbnaaGreatDoorL7
import Derived.Test.YtddagflhafkbnaaGreatDoorQ3
set_option linter.all false
namespace Go.Abs
set_option autoImplicit false

theorem w16r (n : Int) : 0 ≤ IntKind.u16.wrap n ∧ IntKind.u16.wrap n < 65536 := by
  have : IntKind.u16.wrap n = n % 65536 := rfl
  rw [this]; omega
theorem w32r (n : Int) : 0 ≤ IntKind.u32.wrap n ∧ IntKind.u32.wrap n < 4294967296 := by
  have : IntKind.u32.wrap n = n % 4294967296 := rfl
  rw [this]; omega
theorem hexPart_r {x : List UInt8} {v : Int} (h : hexPart x = some v) : 0 ≤ v ∧ v < 65536 := by
  unfold hexPart at h
  split at h
  · cases h
  · split at h
    · cases h
    · rw [← Option.some.inj h]; exact w16r _
theorem quad_r {x : List UInt8} {l : List Int} (h : quad x = some l) : inR16 l := by
  unfold quad quadOf at h
  split at h
  · simp only [Option.bind_eq_some_iff] at h
    obtain ⟨a, ha, b, hb, c, hc, d, hd, h⟩ := h
    have h1 := dec3_some ha
    have h2 := dec3_some hb
    have h3 := dec3_some hc
    have h4 := dec3_some hd
    rw [← Option.some.inj h]
    intro y hy
    simp only [List.mem_cons, List.not_mem_nil, or_false] at hy
    omega
  · cases h
theorem run6_r (t : Bool) : ∀ (l : List (List UInt8)) (r : List Int), run6 t l = some r → inR16 r
  | [], r, h => by rw [← Option.some.inj h]; intro x hx; cases hx
  | x :: l, r, h => by
    unfold run6 at h
    split at h
    · exact quad_r h
    · simp only [Option.bind_eq_some_iff, Option.map_eq_some_iff] at h
      obtain ⟨v, hv, q, hq, h⟩ := h
      have ih := run6_r t l q hq
      rw [← h]
      intro y hy
      rcases List.mem_cons.1 hy with rfl | hy
      · exact hexPart_r hv
      · exact ih y hy
theorem pieces_r (t : Bool) (s : List UInt8) (r : List Int) (h : pieces t s = some r) : inR16 r := by
  unfold pieces at h
  split at h
  · rw [← Option.some.inj h]; intro x hx; cases hx
  · exact run6_r t _ r h
theorem z8_r : inR16 z8 := by unfold inR16; decide
theorem v6_r (s : List UInt8) : (v6Of s).1.length = 8 ∧ inR16 (v6Of s).1 := by
  unfold v6Of
  split
  · unfold v6One
    split
    · rename_i l h
      split
      · rename_i h8; exact ⟨h8, pieces_r _ _ _ h⟩
      · exact ⟨rfl, z8_r⟩
    · exact ⟨rfl, z8_r⟩
  · unfold v6Two
    split
    · rename_i a b ha hb
      have h1 := pieces_r _ _ _ ha
      have h2 := pieces_r _ _ _ hb
      split
      · exact ⟨rfl, z8_r⟩
      · unfold lay8
        refine ⟨?_, fun y hy => ?_⟩
        · simp only [List.length_append, List.length_take, List.length_drop, z8, List.length_cons, List.length_nil]; omega
        · rcases List.mem_append.1 hy with hy | hy
          · rcases List.mem_append.1 (List.mem_of_mem_take hy) with hy | hy
            · exact h1 y hy
            · exact z8_r y (List.mem_of_mem_drop hy)
          · exact h2 y hy
    · exact ⟨rfl, z8_r⟩
theorem ip4_r (l : List Int) : 0 ≤ (ip4 l).1 ∧ (ip4 l).1 < 4294967296 := by
  unfold ip4
  repeat' split
  all_goals first | exact w32r _ | (dsimp only; omega)
theorem ip_r (s : List UInt8) : 0 ≤ (ipOf s).1 ∧ (ipOf s).1 < 4294967296 := by
  unfold ipOf ipEnd
  repeat' split
  all_goals first | exact ip4_r _ | (dsimp only; omega)

theorem lbeq_iff : ∀ (a b : List Int), Ty.beq.lbeq (fun x y => x == y) a b = true ↔ a = b
  | [], [] => by simp [Ty.beq.lbeq]
  | [], y :: b => by simp [Ty.beq.lbeq]
  | x :: a, [] => by simp [Ty.beq.lbeq]
  | x :: a, y :: b => by
    have ih := lbeq_iff a b
    simp only [Ty.beq.lbeq, Bool.and_eq_true, beq_iff_eq, ih, List.cons.injEq]
theorem beqH (a b : D35) : Ty.beq T35 a b = true ↔ a = b := by
  obtain ⟨a1, a2, a3, a4⟩ := a
  obtain ⟨b1, b2, b3, b4⟩ := b
  show ((a1 == b1) && ((a2 == b2) && ((a3 == b3) && Ty.beq.lbeq (fun x y => x == y) a4 b4))) = true ↔ _
  rw [Bool.and_eq_true, Bool.and_eq_true, Bool.and_eq_true, lbeq_iff]
  simp only [beq_iff_eq, Prod.mk.injEq]

def kd (h : D35) : Int := h.1
def wantK (k : Int) (h : D35) : D35 :=
  if k = 0 ∨ k = 5 then (k, (([] : List UInt8), ((0 : Int), z8))) else if k = 2 then (k, (([] : List UInt8), (h.2.2.1, z8))) else if k = 3 then (k, (([] : List UInt8), ((0 : Int), h.2.2.2)))
  else (parseOf h.2.1 (k == 1)).1
def wantOf (h : D35) : D35 := wantK (kd h) h
def kindOK (k : Int) : Prop := k = 0 ∨ k = 1 ∨ k = 2 ∨ k = 3 ∨ k = 4 ∨ k = 5
open Classical in
noncomputable def checkOf (h : D35) : Int := if kindOK (kd h) ∧ h = wantOf h then 0 else 51
open Classical in
theorem beq_dec (a b : D35) : (bif (!(Ty.beq T35 a b)) then some (51 : Int) else some (0 : Int)) = some (if a = b then 0 else 51) := by
  by_cases h : a = b
  · rw [(beqH a b).2 h, Bool.not_true, cond_false, if_pos h]
  · have : Ty.beq T35 a b = false := by
      cases hb : Ty.beq T35 a b with
      | false => rfl
      | true => exact absurd ((beqH a b).1 hb) h
    rw [this, Bool.not_false, cond_true, if_neg h]
theorem c_host_Check_val (h : D35) : c_host_Check h = some (checkOf h) := by
  have p6 : ∀ w, Zt3 h h w = some (open Classical in if h = w then 0 else 51) := fun w => by rw [Zt3_eq, beq_dec]
  have p3 : ∀ w, Zq3 h h w = some (open Classical in if h = w then 0 else 51) := fun w => by rw [Zq3_eq, p6]
  have p4 : ∀ w, Zr3 h h w = some (open Classical in if h = w then 0 else 51) := fun w => by rw [Zr3_eq, p3]
  have fin : ∀ w, kindOK (kd h) → w = wantOf h → (some (open Classical in if h = w then 0 else 51) : Option Int) = some (checkOf h) := by
    rintro w hk rfl
    unfold checkOf
    by_cases e : h = wantOf h
    · rw [if_pos e, if_pos ⟨hk, e⟩]
    · rw [if_neg e, if_neg (fun x => e x.2)]
  have hz : ((Ty.zero .str), ((Ty.zero (.int .u32)), (Ty.zero (.arr 8 (.int .u16))))) = (([] : List UInt8), ((0 : Int), z8)) := rfl
  rw [c_host_Check_eq, Zn3_eq, hz]
  have one : ∀ b : Bool, b = decide (kd h = 0 ∨ kd h = 5) → Zo3 h h.1 b h (h.1, (([] : List UInt8), ((0 : Int), z8))) = some (checkOf h) := by
    intro b hb
    rw [Zo3_eq]
    by_cases c : kd h = 0 ∨ kd h = 5
    · rw [hb, decide_eq_true c, cond_true, Zp3_eq, beq_dec]
      exact fin _ (by unfold kindOK; omega) (by unfold wantOf wantK; rw [if_pos c]; try rfl)
    · rw [hb, decide_eq_false c, cond_false]
      by_cases d : kd h = 2
      · rw [show (h.1 == 2) = true from beq_iff_eq.2 d, cond_true, p3]
        exact fin _ (by unfold kindOK; omega) (by unfold wantOf wantK; rw [if_neg c, if_pos d]; try rfl)
      · rw [show (h.1 == 2) = false from beq_eq_false_iff_ne.2 d, cond_false]
        by_cases e : kd h = 3
        · rw [show (h.1 == 3) = true from beq_iff_eq.2 e, cond_true, p4]
          exact fin _ (by unfold kindOK; omega) (by unfold wantOf wantK; rw [if_neg c, if_neg d, if_pos e]; try rfl)
        · rw [show (h.1 == 3) = false from beq_eq_false_iff_ne.2 e, cond_false]
          have five : ∀ b : Bool, b = decide (kd h = 1 ∨ kd h = 4) → Zs3 h b h (h.1, (([] : List UInt8), ((0 : Int), z8))) = some (checkOf h) := by
            intro b hb
            rw [Zs3_eq]
            by_cases g : kd h = 1 ∨ kd h = 4
            · rw [hb, decide_eq_true g, cond_true, c_host_Parse_val, Option.bind_some, Zu3_eq, p4]
              exact fin _ (by unfold kindOK; omega) (by unfold wantOf wantK; rw [if_neg c, if_neg d, if_neg e]; try rfl)
            · rw [hb, decide_eq_false g, cond_false]
              unfold checkOf
              rw [if_neg (fun x => by have := x.1; unfold kindOK at this; omega)]
          by_cases g : kd h = 1
          · rw [show (h.1 == 1) = true from beq_iff_eq.2 g, cond_true]
            exact five true (decide_eq_true (.inl g)).symm
          · rw [show (h.1 == 1) = false from beq_eq_false_iff_ne.2 g, cond_false]
            refine five _ ?_
            by_cases f : kd h = 4
            · rw [decide_eq_true (.inr f)]; exact beq_iff_eq.2 f
            · rw [decide_eq_false (fun x => x.elim g f)]; exact beq_eq_false_iff_ne.2 f
  by_cases c : kd h = 0
  · rw [show (h.1 == 0) = true from beq_iff_eq.2 c, cond_true]
    exact one true (decide_eq_true (.inl c)).symm
  · rw [show (h.1 == 0) = false from beq_eq_false_iff_ne.2 c, cond_false]
    refine one _ ?_
    by_cases f : kd h = 5
    · rw [decide_eq_true (.inr f)]; exact beq_iff_eq.2 f
    · rw [decide_eq_false (fun x => by omega)]; exact beq_eq_false_iff_ne.2 f
end Go.Abs
namespace Go.Abs
set_option autoImplicit false

theorem ascii_join (ts : List (List UInt8)) (hts : ts ≠ []) (h1 : allLab 0 ts) (a : List UInt8) (hje : joinA 46 ts = a) (hl : (trimDot a).length ≤ 253) (ha : a ≠ []) : asciiOf a = (a, 0) := by
  have htok := allLab_tok ts 0 h1
  have hal := trimDot_len a
  have halt : ∀ b ∈ a, byteI b < 128 := by
    intro b hb
    rw [← hje] at hb
    rcases joinA_mem 46 ts b hb with rfl | ⟨x, hx, hb⟩
    · decide
    · exact tok_lt (htok x hx) b hb
  have hsc : scalarsOf a = joinA 46 (ts.map (List.map byteI)) := by
    rw [scalars_basic a halt, ← hje, joinA_map]; rfl
  have hcut : dcut [] (scalarsOf a) = ts.map (List.map byteI) := by
    rw [hsc]
    refine dcut_join _ (by simpa using hts) (fun x hx => ?_)
    obtain ⟨t, ht, rfl⟩ := List.mem_map.1 hx
    exact tok_undot (htok t ht)
  have hback : (ts.map (List.map byteI)).map textOf = ts := by
    rw [List.map_map, List.map_congr_left (f := textOf ∘ List.map byteI) (g := id) (fun t ht => basic_self t (tok_lt (htok t ht))), List.map_id]
  unfold asciiOf
  rw [if_neg (by rw [valid_basic a halt]; simp), if_neg (by omega), if_neg ha, hcut, hback, allLab_again ts 0 h1, if_neg (by simp)]
  unfold joinEnd
  rw [join_joinA, hje, if_neg (by omega)]

theorem domEnd_cases (n : List UInt8) : ((domEnd n).2 ≠ 0 ∧ (domEnd n).1 = hnil) ∨ domEnd n = (((2 : Int), (([] : List UInt8), ((ipOf n).1, z8))), 0) ∨ (endsOf n = false ∧ domEnd n = (((1 : Int), (n, ((0 : Int), z8))), 0)) := by
  unfold domEnd
  by_cases a : endsOf n = true
  · rw [if_pos a]
    by_cases c : (ipOf n).2 ≠ 0
    · rw [if_pos c]; exact .inl ⟨c, rfl⟩
    · rw [if_neg c]; exact .inr (.inl rfl)
  · rw [if_neg a]; exact .inr (.inr ⟨by simpa using a, rfl⟩)
theorem special_cases (s : List UInt8) : ((specialOf s).2 ≠ 0 ∧ (specialOf s).1 = hnil) ∨
    ((asciiOf (decText s)).2 = 0 ∧ (asciiOf (decText s)).1 ≠ [] ∧ (asciiOf (decText s)).1.any badB = false ∧ specialOf s = domEnd (asciiOf (decText s)).1) := by
  unfold specialOf
  by_cases a : (asciiOf (decText s)).2 ≠ 0
  · rw [if_pos a]; exact .inl ⟨a, rfl⟩
  rw [if_neg a]
  by_cases b : (asciiOf (decText s)).1 = []
  · rw [if_pos b]; exact .inl ⟨by simp, rfl⟩
  rw [if_neg b]
  by_cases c : (asciiOf (decText s)).1.any badB = true
  · rw [if_pos c]; exact .inl ⟨by simp, rfl⟩
  rw [if_neg c]
  exact .inr ⟨by omega, b, by simpa using c, rfl⟩
theorem six_cases (s : List UInt8) : ((sixIn s).2 ≠ 0 ∧ (sixIn s).1 = hnil) ∨ sixIn s = (((3 : Int), (([] : List UInt8), ((0 : Int), (v6Of (inner s)).1))), 0) := by
  unfold sixIn
  by_cases a : s.getLast? ≠ some 93
  · rw [if_pos a]; exact .inl ⟨by simp, rfl⟩
  rw [if_neg a]
  by_cases b : s.length < 2
  · rw [if_pos b]; exact .inl ⟨by simp, rfl⟩
  rw [if_neg b]
  by_cases c : (v6Of (inner s)).2 ≠ 0
  · rw [if_pos c]; exact .inl ⟨c, rfl⟩
  rw [if_neg c]; exact .inr rfl
theorem opaque_cases (s : List UInt8) : ((opaqueOf s).2 ≠ 0 ∧ (opaqueOf s).1 = hnil) ∨ (forbids s = false ∧ (encText s).length ≤ 65536 ∧ opaqueOf s = (((4 : Int), (encText s, ((0 : Int), z8))), 0)) := by
  unfold opaqueOf
  by_cases a : forbids s = true
  · rw [if_pos a]; exact .inl ⟨by simp, rfl⟩
  rw [if_neg a]
  by_cases b : 65536 < (encText s).length
  · rw [if_pos b]; exact .inl ⟨by simp, rfl⟩
  rw [if_neg b]; exact .inr ⟨by simpa using a, by omega, rfl⟩
theorem parse_err (s : List UInt8) (sp : Bool) (h : (parseOf s sp).2 ≠ 0) : (parseOf s sp).1 = hnil := by
  unfold parseOf at h ⊢
  by_cases a : 65536 < s.length
  · rw [if_pos a]
  rw [if_neg a] at h ⊢
  by_cases b : s.head? = some 91
  · rw [if_pos b] at h ⊢
    rcases six_cases s with c | c
    · exact c.2
    · rw [c] at h; exact absurd rfl h
  rw [if_neg b] at h ⊢
  by_cases d : sp = true
  · rw [if_pos d] at h ⊢
    rcases special_cases s with c | ⟨_, _, _, c⟩
    · exact c.2
    · rw [c] at h ⊢
      rcases domEnd_cases (asciiOf (decText s)).1 with c | c | ⟨_, c⟩
      · exact c.2
      · rw [c] at h; exact absurd rfl h
      · rw [c] at h; exact absurd rfl h
  rw [if_neg d] at h ⊢
  by_cases e : s = []
  · rw [if_pos e] at h; exact absurd rfl h
  rw [if_neg e] at h ⊢
  rcases opaque_cases s with c | ⟨_, _, c⟩
  · exact c.2
  · rw [c] at h; exact absurd rfl h

theorem bad_not {b : UInt8} (h : badB b = false) : 32 ≤ byteI b ∧ byteI b ≠ 37 ∧ byteI b ≠ 127 ∧ forbI (byteI b) = false := by
  unfold badB at h
  simp only [Bool.or_eq_false_iff, decide_eq_false_iff_not, beq_eq_false_iff_ne] at h
  exact ⟨by omega, h.2.1, h.2.2.1, h.2.2.2⟩
theorem head_ne {s : List UInt8} (h : ∀ b ∈ s, forbI (byteI b) = false) : s.head? ≠ some 91 := by
  cases s with
  | nil => simp
  | cons b t =>
    intro e
    have : b = 91 := by simpa using e
    have hb := h b (by simp)
    rw [this] at hb
    exact absurd hb (by decide)
theorem ascii_out_low (s a : List UInt8) (h : asciiOf s = (a, 0)) : ∀ b ∈ a, byteI b < 128 := by
  by_cases ha : a = []
  · subst ha; intro b hb; cases hb
  unfold asciiOf at h
  split at h
  · cases congrArg Prod.snd h
  split at h
  · cases congrArg Prod.snd h
  split at h
  · exact absurd (congrArg Prod.fst h).symm ha
  split at h
  · rename_i c; exact absurd (congrArg Prod.snd h) c
  rename_i hgo
  have hM : ∀ x ∈ dcut [] (scalarsOf s), scalL x ∧ undot x := by
    intro x hx
    refine ⟨fun r hr => ?_, fun r hr => ?_⟩
    · rcases dcut_mem _ _ x hx r hr with h | h
      · cases h
      · exact scalars_scal s r h.1
    · rcases dcut_mem _ _ x hx r hr with h | h
      · cases h
      · exact h.2
  obtain ⟨h1, h2⟩ := labGo_all _ 0 hM (by omega)
  generalize (labGo 0 ((dcut [] (scalarsOf s)).map textOf)).1 = ts at h h1 h2
  unfold joinEnd at h
  split at h
  · cases congrArg Prod.snd h
  have hje := congrArg Prod.fst h
  dsimp only at hje
  rw [join_joinA] at hje
  have htok := allLab_tok ts 0 h1
  intro b hb
  rw [← hje] at hb
  rcases joinA_mem 46 ts b hb with rfl | ⟨x, hx, hb⟩
  · decide
  · exact tok_lt (htok x hx) b hb
theorem dom_again (s n : List UInt8) (h : asciiOf s = (n, 0)) (hn : n ≠ []) (hb : n.any badB = false) : parseOf n true = domEnd n := by
  obtain ⟨h1, _, h3⟩ := ascii_twice s n h
  have hlow := ascii_out_low s n h
  have hbad : ∀ b ∈ n, badB b = false := by
    rw [List.any_eq_false] at hb
    intro b hm; simpa using hb b hm
  have hd : decText n = n := decText_self n (fun b hm => (bad_not (hbad b hm)).2.1) hlow
  unfold parseOf
  rw [if_neg (by omega), if_neg (head_ne (fun b hm => (bad_not (hbad b hm)).2.2.2)), if_pos rfl]
  unfold specialOf
  rw [hd, h1, if_neg (by simp), if_neg hn, if_neg (by rw [hb]; simp)]
theorem joinC_A (sep : UInt8) (l : List (List UInt8)) : joinC sep l = joinA sep l := by rw [← join_joinC, join_joinA]
theorem digs_tab : (List.range 256).all (fun u => (itoaS u).all (fun b => decide (48 ≤ byteI b ∧ byteI b ≤ 57))) = true := by kernel_rfl
theorem itoa_digs (n : Int) (h0 : 0 ≤ n) (h1 : n < 256) : ∀ b ∈ Lib.itoa n, 48 ≤ byteI b ∧ byteI b ≤ 57 := by
  obtain ⟨u, rfl⟩ := Int.eq_ofNat_of_zero_le h0
  rw [itoa_S u (by omega)]
  intro b hb
  exact of_decide_eq_true (List.all_eq_true.1 (List.all_eq_true.1 digs_tab u (List.mem_range.2 (by omega))) b hb)
theorem itoa_tok (n : Int) (h0 : 0 ≤ n) (h1 : n < 256) : tok (Lib.itoa n) ∧ ∀ last, labelEnd (Lib.itoa n) last = (Lib.itoa n, 0) := by
  have hd := itoa_digs n h0 h1
  obtain ⟨_, f2, _, _, f5⟩ := itoa_facts n h0 h1
  refine ⟨fun b hb => ?_, fun last => ?_⟩
  · have := hd b hb
    unfold okI; omega
  · unfold labelEnd
    have hx : isXn (Lib.itoa n) = false := by unfold isXn; rw [decide_eq_false (by omega), Bool.false_and]
    rw [if_neg (by omega), if_neg (fun h => f2 h.1), hx, if_neg (by simp)]
theorem four_again (v : Int) (hv0 : 0 ≤ v) (hv1 : v < 4294967296) : parseOf (joinC 46 ((fours v).map Lib.itoa)) true = (((2 : Int), (([] : List UInt8), (v, z8))), 0) := by
  have hlen := four_len v
  obtain ⟨r1, r2⟩ := four_read v hv0 hv1
  have hf : ∀ n ∈ fours v, 0 ≤ n ∧ n < 256 := by
    intro n hn
    simp only [fours, List.mem_cons, List.not_mem_nil, or_false] at hn
    omega
  have hlab : allLab 0 ((fours v).map Lib.itoa) := by
    have t : ∀ n ∈ fours v, tok (Lib.itoa n) ∧ ∀ last, labelEnd (Lib.itoa n) last = (Lib.itoa n, 0) := fun n hn => itoa_tok n (hf n hn).1 (hf n hn).2
    have key : ∀ (l : List Int) (i : Nat), (∀ n ∈ l, tok (Lib.itoa n) ∧ ∀ last, labelEnd (Lib.itoa n) last = (Lib.itoa n, 0)) → allLab i (l.map Lib.itoa) := by
      intro l
      induction l with
      | nil => intro i _; trivial
      | cons n l ih => intro i h; exact ⟨⟨(h n (by simp)).1, (h n (by simp)).2 _⟩, ih (i + 1) (fun m hm => h m (by simp [hm]))⟩
    exact key _ 0 t
  have hmem : ∀ b ∈ joinC 46 ((fours v).map Lib.itoa), 46 ≤ byteI b ∧ byteI b ≤ 57 ∧ byteI b ≠ 47 := by
    intro b hb
    rw [joinC_A] at hb
    rcases joinA_mem 46 _ b hb with rfl | ⟨x, hx, hb⟩
    · decide
    · obtain ⟨n, hn, rfl⟩ := List.mem_map.1 hx
      have := itoa_digs n (hf n hn).1 (hf n hn).2 b hb
      omega
  have hne : joinC 46 ((fours v).map Lib.itoa) ≠ [] := by
    intro e
    rw [e] at r2
    exact absurd r2 (by unfold endsOf; rw [if_pos rfl]; simp)
  have htrim : (trimDot (joinC 46 ((fours v).map Lib.itoa))).length ≤ 253 := by
    have : (trimDot (joinC 46 ((fours v).map Lib.itoa))).length ≤ (joinC 46 ((fours v).map Lib.itoa)).length := by
      unfold trimDot; split
      · rw [List.length_dropLast]; omega
      · omega
    omega
  have hasc : asciiOf (joinC 46 ((fours v).map Lib.itoa)) = (joinC 46 ((fours v).map Lib.itoa), 0) := ascii_join _ (by simp [fours]) hlab _ (joinC_A _ _).symm htrim hne
  have hbad : (joinC 46 ((fours v).map Lib.itoa)).any badB = false := by
    rw [List.any_eq_false]
    intro b hb
    obtain ⟨h1, h2, h3⟩ := hmem b hb
    have hforb : forbI (byteI b) = false := by
      have tab : (List.range 12).all (fun n => (n == 1) || !forbI ((n : Int) + 46)) = true := by decide
      have := List.all_eq_true.1 tab (byteI b - 46).toNat (List.mem_range.2 (by omega))
      rw [show ((((byteI b - 46).toNat : Nat) : Int)) + 46 = byteI b from by omega, show ((byteI b - 46).toNat == 1) = false from beq_eq_false_iff_ne.2 (by omega), Bool.false_or] at this
      simpa using this
    unfold badB
    rw [decide_eq_false (by omega), beq_eq_false_iff_ne.2 (by omega), beq_eq_false_iff_ne.2 (by omega), hforb]; simp
  rw [dom_again _ _ hasc hne hbad]
  unfold domEnd
  rw [r2, if_pos rfl, r1, if_neg (by simp)]
theorem six_again (s : List UInt8) (v : List Int) (sp : Bool) (h2 : 2 ≤ s.length) (hl : s.length ≤ 200) (h : v6Of s = (v, 0)) : parseOf (91 :: s ++ [93]) sp = (((3 : Int), (([] : List UInt8), ((0 : Int), v))), 0) := by
  have hlen : (91 :: s ++ [93] : List UInt8).length = s.length + 2 := by simp
  have hin : inner (91 :: s ++ [93]) = s := by
    unfold inner
    rw [hlen]
    simp
  unfold parseOf
  rw [if_neg (by omega), if_pos (by simp)]
  unfold sixIn
  rw [hin, h, if_neg (show ¬ ((91 :: s ++ [93] : List UInt8).getLast? ≠ some 93) from fun e => e List.getLast?_concat), if_neg (by omega), if_neg (by simp)]
theorem opaque_again (s : List UInt8) (hs : s ≠ []) (hf : forbids s = false) (hl : (encText s).length ≤ 65536) : parseOf (encText s) false = (((4 : Int), (encText s, ((0 : Int), z8))), 0) := by
  have hm := encText_mem s
  have hself := encText_self (encText s) (fun b hb => (hm b hb).1)
  have hforb : forbids (encText s) = false := by
    unfold forbids
    rw [List.any_eq_false]
    intro b hb
    rw [(hm b hb).2 hf]; simp
  unfold parseOf
  rw [if_neg (by omega), if_neg (head_ne (fun b hb => (hm b hb).2 hf)), if_neg (by simp), if_neg (encText_ne s hs)]
  unfold opaqueOf
  rw [if_neg (by rw [hforb]; simp), hself, if_neg (by omega)]
theorem empty_again : parseOf [] false = (((5 : Int), (([] : List UInt8), ((0 : Int), z8))), 0) := by
  unfold parseOf
  rw [if_neg (by simp), if_neg (by simp), if_neg (by simp), if_pos rfl]
end Go.Abs
namespace Go.Abs
set_option autoImplicit false

def wfH (h : D35) : Prop := h.2.2.2.length = 8 ∧ inR16 h.2.2.2 ∧ 0 ≤ h.2.2.1 ∧ h.2.2.1 < 4294967296
theorem wf_z (k : Int) (n : List UInt8) : wfH (k, (n, ((0 : Int), z8))) := ⟨rfl, z8_r, Int.le_refl _, show (0 : Int) < 4294967296 by omega⟩
theorem check_of (h : D35) (hk : kindOK (kd h)) (he : h = wantOf h) : checkOf h = 0 := by unfold checkOf; rw [if_pos ⟨hk, he⟩]
theorem check_split (h : D35) : (checkOf h = 51) ∨ (checkOf h = 0 ∧ kindOK (kd h) ∧ h = wantOf h) := by
  unfold checkOf
  split
  · rename_i c; exact .inr ⟨rfl, c⟩
  · exact .inl rfl
def OkAns (a : D35) (sp : Bool) : Prop := checkOf a = 0 ∧ wfH a ∧ (sp = true → kd a = 1 ∨ kd a = 2 ∨ kd a = 3) ∧ (sp = false → kd a = 3 ∨ kd a = 4 ∨ kd a = 5)
theorem okAns3 (v : List Int) (sp : Bool) (h1 : v.length = 8) (h2 : inR16 v) : OkAns ((3 : Int), (([] : List UInt8), ((0 : Int), v))) sp := by
  refine ⟨check_of _ (show kindOK 3 by unfold kindOK; omega) ?_, ⟨h1, h2, Int.le_refl _, show (0 : Int) < 4294967296 by omega⟩, fun _ => .inr (.inr rfl), fun _ => .inl rfl⟩
  show _ = wantK 3 _
  unfold wantK
  rw [if_neg (by omega), if_neg (by omega), if_pos rfl]
theorem okAns2 (v : Int) (h1 : 0 ≤ v) (h2 : v < 4294967296) : OkAns ((2 : Int), (([] : List UInt8), (v, z8))) true := by
  refine ⟨check_of _ (show kindOK 2 by unfold kindOK; omega) ?_, ⟨rfl, z8_r, h1, h2⟩, fun _ => .inr (.inl rfl), (fun e => by cases e)⟩
  show _ = wantK 2 _
  unfold wantK
  rw [if_neg (by omega), if_pos rfl]
theorem okAns1 (n : List UInt8) (h : parseOf n true = (((1 : Int), (n, ((0 : Int), z8))), 0)) : OkAns ((1 : Int), (n, ((0 : Int), z8))) true := by
  refine ⟨check_of _ (show kindOK 1 by unfold kindOK; omega) ?_, wf_z _ _, fun _ => .inl rfl, (fun e => by cases e)⟩
  show _ = wantK 1 _
  unfold wantK
  rw [if_neg (by omega), if_neg (by omega), if_neg (by omega), show ((1 : Int) == 1) = true from rfl]
  dsimp only
  rw [h]
theorem okAns4 (n : List UInt8) (h : parseOf n false = (((4 : Int), (n, ((0 : Int), z8))), 0)) : OkAns ((4 : Int), (n, ((0 : Int), z8))) false := by
  refine ⟨check_of _ (show kindOK 4 by unfold kindOK; omega) ?_, wf_z _ _, (fun e => by cases e), fun _ => .inr (.inl rfl)⟩
  show _ = wantK 4 _
  unfold wantK
  rw [if_neg (by omega), if_neg (by omega), if_neg (by omega), show ((4 : Int) == 1) = false from rfl]
  dsimp only
  rw [h]
theorem okAns5 : OkAns ((5 : Int), (([] : List UInt8), ((0 : Int), z8))) false := by
  refine ⟨check_of _ (show kindOK 5 by unfold kindOK; omega) ?_, wf_z _ _, (fun e => by cases e), fun _ => .inr (.inr rfl)⟩
  show _ = wantK 5 _
  unfold wantK
  rw [if_pos (by omega)]
theorem parse_ok (s : List UInt8) (sp : Bool) (h : (parseOf s sp).2 = 0) : OkAns (parseOf s sp).1 sp := by
  unfold parseOf at h ⊢
  by_cases a : 65536 < s.length
  · rw [if_pos a] at h; exact absurd h (show ¬ (5 : Int) = 0 by omega)
  rw [if_neg a] at h ⊢
  by_cases b : s.head? = some 91
  · rw [if_pos b] at h ⊢
    rcases six_cases s with c | c
    · exact absurd h c.1
    · rw [c]
      obtain ⟨v1, v2⟩ := v6_r (inner s)
      exact okAns3 _ sp v1 v2
  rw [if_neg b] at h ⊢
  cases sp with
  | true =>
    rw [if_pos rfl] at h ⊢
    rcases special_cases s with c | ⟨g1, g2, g3, c⟩
    · exact absurd h c.1
    · rw [c] at h ⊢
      rcases domEnd_cases (asciiOf (decText s)).1 with c | c | ⟨e, c⟩
      · exact absurd h c.1
      · rw [c]
        have v := ip_r (asciiOf (decText s)).1
        exact okAns2 _ v.1 v.2
      · have hag := dom_again (decText s) _ (by rw [← g1]) g2 g3
        rw [c] at hag ⊢
        exact okAns1 _ hag
  | false =>
    rw [if_neg (by simp)] at h ⊢
    by_cases e : s = []
    · rw [if_pos e]; exact okAns5
    rw [if_neg e] at h ⊢
    rcases opaque_cases s with c | ⟨g1, g2, c⟩
    · exact absurd h c.1
    · rw [c]; exact okAns4 _ (opaque_again s e g1 g2)

theorem print_bad (h : D35) (hc : checkOf h = 51) : c_host_Print h = some (([] : List UInt8), 51) := by
  rw [c_host_Print_eq, Zm3_eq, c_host_Check_val, hc, Option.bind_some, show ((51 : Int) != 0) = true from rfl, cond_true]
theorem print_okK (k : Int) (n : List UInt8) (v4 : Int) (v6 : List Int) (hw : v6.length = 8 ∧ inR16 v6 ∧ 0 ≤ v4 ∧ v4 < 4294967296) (hc : checkOf ((k, (n, (v4, v6))) : D35) = 0) (hk : kindOK k) (he : ((k, (n, (v4, v6))) : D35) = wantK k (k, (n, (v4, v6)))) :
    ∃ p, c_host_Print ((k, (n, (v4, v6))) : D35) = some (p, 0) ∧ (k = 0 → p = []) ∧ (k = 1 ∨ k = 2 ∨ k = 3 → parseOf p true = (((k, (n, (v4, v6))) : D35), 0)) ∧ (k = 3 ∨ k = 4 ∨ k = 5 → parseOf p false = (((k, (n, (v4, v6))) : D35), 0)) := by
  rw [c_host_Print_eq, Zm3_eq, c_host_Check_val, hc, Option.bind_some, show ((0 : Int) != 0) = false from rfl, cond_false]
  obtain ⟨w1, w2, w3, w4⟩ := hw
  unfold kindOK at hk
  unfold wantK at he
  dsimp only at he ⊢
  clear hc
  by_cases k2 : k = 2
  · subst k2
    rw [if_neg (by omega), if_pos rfl] at he
    rw [show ((2 : Int) == 2) = true from rfl, cond_true, four_val _ w3 w4]
    refine ⟨_, rfl, fun e => by omega, fun _ => ?_, fun e => by omega⟩
    rw [four_again _ w3 w4, ← he]
  rw [show (k == 2) = false from beq_eq_false_iff_ne.2 k2, cond_false]
  by_cases k3 : k = 3
  · subst k3
    rw [if_neg (by omega), if_neg k2, if_pos rfl] at he
    obtain ⟨s, s1, s2, s3, s4⟩ := six_val v6 w1 w2
    rw [show ((3 : Int) == 3) = true from rfl, cond_true, s1, Option.bind_some, show decide (([91] : List UInt8).length + s.length ≤ 2 ^ 62) = true from decide_eq_true (by simp only [List.length_cons, List.length_nil]; omega), cond_true, show decide ((([91] : List UInt8) ++ s).length + ([93] : List UInt8).length ≤ 2 ^ 62) = true from decide_eq_true (by simp only [List.length_append, List.length_cons, List.length_nil]; omega), cond_true]
    have ha : ∀ sp, parseOf (91 :: s ++ [93]) sp = (((3 : Int), (n, (v4, v6))), 0) := by
      intro sp
      rw [six_again s v6 sp s2 s3 s4, ← he]
    exact ⟨91 :: s ++ [93], rfl, fun e => by omega, fun _ => ha true, fun _ => ha false⟩
  rw [show (k == 3) = false from beq_eq_false_iff_ne.2 k3, cond_false]
  by_cases k05 : k = 0 ∨ k = 5
  · rw [if_pos k05] at he
    have hn : n = [] := congrArg (fun x : D35 => x.2.1) he
    refine ⟨n, rfl, fun _ => hn, fun e => by omega, fun e => ?_⟩
    have k5 : k = 5 := by omega
    subst k5
    rw [he, hn]
    exact empty_again
  · rw [if_neg k05, if_neg k2, if_neg k3] at he
    have hp : parseOf n (k == 1) = ((k, (n, (v4, v6))), 0) := by
      by_cases e : (parseOf n (k == 1)).2 = 0
      · exact Prod.ext he.symm e
      · have := parse_err _ _ e
        rw [← he] at this
        exact absurd (congrArg (fun x : D35 => kd x) this) (fun h0 => k05 (.inl h0))
    refine ⟨n, rfl, fun e => by omega, fun e => ?_, fun e => ?_⟩
    · have k1 : k = 1 := by omega
      subst k1
      exact hp
    · have k1 : k ≠ 1 := by omega
      rwa [show (k == 1) = false from beq_eq_false_iff_ne.2 k1] at hp
theorem print_ok (h : D35) (hw : wfH h) (hc : checkOf h = 0) : ∃ p, c_host_Print h = some (p, 0) ∧ (kd h = 0 → p = []) ∧ (kd h = 1 ∨ kd h = 2 ∨ kd h = 3 → parseOf p true = (h, 0)) ∧ (kd h = 3 ∨ kd h = 4 ∨ kd h = 5 → parseOf p false = (h, 0)) := by
  obtain ⟨hk, he⟩ : kindOK (kd h) ∧ h = wantOf h := by
    rcases check_split h with c | ⟨_, c⟩
    · rw [hc] at c; cases c
    · exact c
  obtain ⟨k, n, v4, v6⟩ := h
  exact print_okK k n v4 v6 hw hc hk he
end Go.Abs
namespace Go.Abs
set_option autoImplicit false
theorem fx_tail (s : List UInt8) (sp : Bool) (h : D35) (hw : wfH h) : Zf4 s sp h h = some true := by
  rw [Zf4_eq]
  rcases check_split h with c | ⟨c, _, _⟩
  · rw [print_bad h c, Option.bind_some, c_law05_num_val, Option.bind_some, show ((51 : Int) != 0) = true from rfl, cond_true, show (([] : List UInt8) == []) = true from rfl, cond_true, c_host_Check_val, c, Option.bind_some, c_law05_num_val, Option.bind_some]; rfl
  · obtain ⟨p, h1, h2, h3, h4⟩ := print_ok h hw c
    have hk := (check_split h).resolve_left (by rw [c]; simp)
    have fin : ∀ b : Bool, parseOf p b = (h, 0) → ((c_host_Parse (p, b)).bind fun y2 => (c_law05_num y2.2).bind fun y3 => bif (y3 == (0 : Int)) then some (Ty.beq T35 y2.1 h) else some false) = some true := by
      intro b hb
      rw [c_host_Parse_val, hb, Option.bind_some, c_law05_num_val, Option.bind_some, show ((0 : Int) == 0) = true from rfl, cond_true, (beqH h h).2 rfl]
    rw [h1, Option.bind_some, c_law05_num_val, Option.bind_some, show ((0 : Int) != 0) = false from rfl, cond_false]
    by_cases k0 : kd h = 0
    · rw [show (h.1 == (0 : Int)) = true from beq_iff_eq.2 k0, cond_true, h2 k0]; rfl
    rw [show (h.1 == (0 : Int)) = false from beq_eq_false_iff_ne.2 k0, cond_false]
    by_cases k1 : kd h = 1
    · rw [show (h.1 == (1 : Int)) = true from beq_iff_eq.2 k1, cond_true]
      exact fin true (h3 (.inl k1))
    rw [show (h.1 == (1 : Int)) = false from beq_eq_false_iff_ne.2 k1, cond_false]
    by_cases k2 : kd h = 2
    · rw [show (h.1 == (2 : Int)) = true from beq_iff_eq.2 k2, cond_true]
      exact fin true (h3 (.inr (.inl k2)))
    rw [show (h.1 == (2 : Int)) = false from beq_eq_false_iff_ne.2 k2, cond_false]
    by_cases k3 : kd h = 3
    · rw [show (h.1 == (3 : Int)) = true from beq_iff_eq.2 k3]
      exact fin true (h3 (.inr (.inr k3)))
    rw [show (h.1 == (3 : Int)) = false from beq_eq_false_iff_ne.2 k3]
    have hk := hk.2.1
    unfold kindOK at hk
    exact fin false (h4 (by omega))
theorem law05_HostFixpoint_of (s : List UInt8) (sp : Bool) (h : D35) (hw : wfH h) (h47 : c_law05_alive () = some true) : c_law05_HostFixpoint (s, sp, h) = some true := by
  rw [c_law05_HostFixpoint_eq]
  dsimp only
  rw [Ze4_eq, h47, Option.bind_some, Bool.not_true, cond_false, c_host_Parse_val, Option.bind_some, c_law05_num_val, Option.bind_some, fx_tail s sp h hw]
  by_cases c : (parseOf s sp).2 = 0
  · obtain ⟨o1, o2, o3, o4⟩ := parse_ok s sp c
    obtain ⟨p, h1, h2, h3, h4⟩ := print_ok _ o2 o1
    have hp : parseOf p sp = ((parseOf s sp).1, 0) := by
      cases sp with
      | true => exact h3 (o3 rfl)
      | false => exact h4 (o4 rfl)
    rw [show ((parseOf s sp).2 == 0) = true from beq_iff_eq.2 c, cond_true, h1, Option.bind_some, c_host_Parse_val, hp, Option.bind_some, c_host_Check_val, o1, Option.bind_some, c_law05_num_val, Option.bind_some, show ((0 : Int) != 0) = false from rfl, cond_false, Option.bind_some, show ((0 : Int) != 0) = false from rfl, cond_false, Option.bind_some, show ((0 : Int) != 0) = false from rfl, cond_false, (beqH _ _).2 rfl, Bool.not_true, cond_false]
  · rw [show ((parseOf s sp).2 == 0) = false from beq_eq_false_iff_ne.2 c, cond_false, hnil_eq, parse_err s sp c, (beqH _ _).2 rfl, Bool.not_true, cond_false]
end Go.Abs
