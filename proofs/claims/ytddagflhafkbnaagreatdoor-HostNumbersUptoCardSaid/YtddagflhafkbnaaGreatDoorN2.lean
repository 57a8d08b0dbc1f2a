/- Part N2 of the proof: see the last text of the claim. No condition of its own. -/
import Derived.Test.YtddagflhafkbnaaGreatDoorN1
import Derived.Lib.LaidTab
import Derived.LaidLaws
set_option linter.all false
/- A world for the witness: the tables hold what their initialisers lay. -/
namespace Go.Proofs.YtddagflhafkbnaaGreatDoor.HostNumbers
open Go.ChangeShapes Go.WideShapes Go.ChangeAt Go.RowKit

def layIn (cs : Array Value) : Obj → Obj
  | .cells _ t frozen => .cells cs t frozen
  | o => o
def ints (k : IntKind) (l : List Int) : Array Value := (l.map fun n => Value.int k n).toArray
def pairs (k : IntKind) (l : List (Int × Int)) : Array Value := (l.flatMap fun x => [Value.int k x.1, Value.int k x.2]).toArray
def lays : List (Nat × Array Value) := [(1, ints .u64 Abs.pow10s), (2, ints .u8 Abs.utf8First), (3, pairs .u8 Abs.utf8Accept), (4, ints .u8 Abs.bruijn32), (5, ints .u8 Abs.bruijn64)]
noncomputable def laidWorld (os : Os) : World :=
  { World.holding Tryz.prog os ⟨#[], #[], []⟩ with heap := lays.foldl (fun h x => h.modify x.1 (layIn x.2)) (World.holding Tryz.prog os ⟨#[], #[], []⟩).heap }

theorem reads (os : Os) {H : Type} (enc : TypeId × Value → H) : ∃ places, DataW.whole enc Tryz.prog ((laidWorld os).forCall (fun _ _ => 0) ⟨#[], #[.string ⟨#[]⟩], []⟩).memory Tryz.f7.params.toList Rows.hostNumbersSpec.vars false #[Value.string ⟨#[]⟩].toList 8 = some ([.lit (.string [])], [], places) :=
  ⟨[], by kernel_rfl⟩
end Go.Proofs.YtddagflhafkbnaaGreatDoor.HostNumbers
/- The world for the witness holds the row's tables. -/
namespace Go.Proofs.YtddagflhafkbnaaGreatDoor.HostNumbers
open Go.ChangeShapes Go.WideShapes Go.ChangeAt Go.RowKit

def risingB : Nat → List Nat → Bool
  | _, [] => true
  | n, m :: l => Nat.blt n m && risingB m l
theorem rising_gt : ∀ (l : List Nat) (n : Nat), risingB n l = true → ∀ m ∈ l, n < m
  | [], _, _, _, hm => by cases hm
  | x :: l, n, h, m, hm => by
    simp only [risingB, Bool.and_eq_true, Nat.blt_eq] at h
    rcases List.mem_cons.1 hm with rfl | hm
    · exact h.1
    · have := rising_gt l x h.2 m hm; omega
theorem rising_nodup : ∀ (l : List Nat) (n : Nat), risingB n l = true → l.Nodup
  | [], _, _ => List.nodup_nil
  | x :: l, n, h => by
    have h' := h
    simp only [risingB, Bool.and_eq_true, Nat.blt_eq] at h'
    refine List.nodup_cons.2 ⟨fun hx => ?_, rising_nodup l x h'.2⟩
    have := rising_gt l x h'.2 x hx
    omega
def key : MemPlace → Nat
  | .cell b off => 1 + 1000 * ([0, 2, 4, 3, 0, 1].getD b 5) + off
  | .map _ => 0

theorem laidMet_of_keys {P : Program} {w : World} {l : List (String × DataW Unit)} (fuel : Nat) (h : (DataW.laidRun P w fuel (l.map (·.1))).map (·.1) = some l)
    (hn : (DataW.laidRun P w fuel (l.map (·.1))).map (fun x => risingB 0 (x.2.map key)) = some true) (hr : (DataW.laidRun P w fuel (l.map (·.1))).map (fun x => laidRowsB P w x.2) = some true) : laidMet P l w := by
  cases hx : DataW.laidRun P w fuel (l.map (·.1)) with
  | none => simp [hx] at h
  | some x =>
    obtain ⟨l', ps⟩ := x
    simp only [hx, Option.map_some, Option.some.injEq] at h hn hr
    subst h
    exact laidMet_of_run fuel hx (decide_eq_true (List.Pairwise.of_map key (fun a b hne e => hne (congrArg key e)) (rising_nodup _ 0 hn))) hr

noncomputable def theWorld (os : Os) : World := ((laidWorld os).forCall (fun _ _ => 0) ⟨#[], #[.string ⟨#[]⟩], []⟩).memory
theorem run1 (os : Os) : (DataW.laidRun Tryz.prog (theWorld os) 8 (Rows.hostNumbersUptoRow.laid.map (·.1))).map (·.1) = some Rows.hostNumbersUptoRow.laid := by kernel_rfl
theorem run2 (os : Os) : (DataW.laidRun Tryz.prog (theWorld os) 8 (Rows.hostNumbersUptoRow.laid.map (·.1))).map (fun x => risingB 0 (x.2.map key)) = some true := by kernel_rfl
theorem run3 (os : Os) : (DataW.laidRun Tryz.prog (theWorld os) 8 (Rows.hostNumbersUptoRow.laid.map (·.1))).map (fun x => laidRowsB Tryz.prog (theWorld os) x.2) = some true := by kernel_rfl
theorem laid_met (os : Os) : laidMet Tryz.prog Rows.hostNumbersUptoRow.laid ((laidWorld os).forCall (fun _ _ => 0) ⟨#[], #[.string ⟨#[]⟩], []⟩).memory :=
  laidMet_of_keys 8 (run1 os) (run2 os) (run3 os)
end Go.Proofs.YtddagflhafkbnaaGreatDoor.HostNumbers
