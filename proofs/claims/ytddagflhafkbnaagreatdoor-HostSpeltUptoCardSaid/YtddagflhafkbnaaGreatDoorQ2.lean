/- Part Q2 of the proof: see the last text of the claim. No condition of its own. -/
import Derived.Test.YtddagflhafkbnaaGreatDoorQ1
set_option linter.all false
namespace Go.Abs
noncomputable section
set_option autoImplicit false
set_option linter.all false
def c_ref02_Valid (x : List UInt8) : Option (Bool × Int) := Abs.Call E 53 x
def Z21 (s0 : List UInt8) : Option (Bool × Int) := (Abs.Run E 53 (E.at 53 []) ⟨mkSlots [(0, (.val .str s0))], assocB [], assocR []⟩)
def Z31 (s0 : List UInt8) (s1 : Int) (r2 : List D181) : Option (Bool × Int) := (Abs.Run E 53 (E.at 53 [1, 1, 0, 1, 0, 7]) ⟨mkSlots [(0, (.val .str s0)), (4, (.row 0)), (5, (.val (.int .i64) s1))], mkBoxes [], mkRows [.mk T181 .live r2]⟩)
def c_ref02_Pieces (x : List UInt8) : Option (List D181) := Abs.Call E 130 x
def Z41 (s0 : List UInt8) : Option (List D181) := (Abs.Run E 130 (E.at 130 []) ⟨mkSlots [(0, (.val .str s0))], assocB [], assocR []⟩)
def Z51 (s0 : List UInt8) (s1 : Int) (r2 : List D181) : Option (List D181) := (Abs.Run E 130 (E.at 130 [1, 1, 0, 1, 0, 7]) ⟨mkSlots [(0, (.val .str s0)), (3, (.row 0)), (4, (.val (.int .i64) s1))], mkBoxes [], mkRows [.mk T181 .live r2]⟩)
def c_ref02_One (x : (List UInt8 × (Int × Bool))) : Option D181 := Abs.Call E 186 x
def Z61 (s0 : List UInt8) (s1 : Int) (s2 : Bool) : Option D181 := (Abs.Run E 186 (E.at 186 []) ⟨mkSlots [(2, (.val .bool s2)), (1, (.val (.int .i64) s1)), (0, (.val .str s0))], assocB [], assocR []⟩)
def Z71 (s0 : List UInt8) (s1 : Int) (s2 : Bool) (s3 : Int) (b4 : D181) : Option D181 := (Abs.Run E 186 (E.at 186 [1, 0, 1, 0, 7]) ⟨mkSlots [(0, (.val .str s0)), (1, (.val (.int .i64) s1)), (2, (.val .bool s2)), (6, (.addr (.box 0) [])), (7, (.val (.int .i64) s3))], mkBoxes [.cells T181 .live (.val T181 b4)], mkRows []⟩)
def c_ref02_Scalar (x : Int) : Option Bool := Abs.Call E 230 x
def Z81 (s0 : Int) : Option Bool := (Abs.Run E 230 (E.at 230 []) ⟨mkSlots [(0, (.val (.int .i32) s0))], assocB [], assocR []⟩)
def c_ref02_guess (x : (List UInt8 × (Int × Int))) : Option Int := Abs.Call E 229 x
def Z91 (s0 : List UInt8) (s1 : Int) (s2 : Int) : Option Int := (Abs.Run E 229 (E.at 229 []) ⟨mkSlots [(2, (.val (.int .i64) s2)), (1, (.val (.int .i64) s1)), (0, (.val .str s0))], assocB [], assocR []⟩)
def Za1 (s0 : List UInt8) (s1 : Int) (s2 : Int) (s3 : Int) (s4 : Int) : Option Int := (Abs.Run E 229 (E.at 229 [1, 1, 1, 0, 1, 0, 7]) ⟨mkSlots [(0, (.val .str s0)), (1, (.val (.int .i64) s1)), (2, (.val (.int .i64) s2)), (8, (.val (.int .i32) s3)), (9, (.val (.int .i64) s4))], mkBoxes [], mkRows []⟩)
def c_ref02_Bytes (x : Int) : Option (List Int) := Abs.Call E 231 x
def Zb1 (s0 : Int) : Option (List Int) := (Abs.Run E 231 (E.at 231 []) ⟨mkSlots [(0, (.val (.int .i32) s0))], assocB [], assocR []⟩)
def c_ref02_at (x : (List UInt8 × (Int × (List Int)))) : Option Bool := Abs.Call E 232 x
def Zc1 (s0 : List UInt8) (s1 : Int) (s2 : (List Int)) : Option Bool := (Abs.Run E 232 (E.at 232 []) ⟨mkSlots [(2, (.val (.sl false (.int .u8)) s2)), (1, (.val (.int .i64) s1)), (0, (.val .str s0))], assocB [], assocR []⟩)
def Zd1 (s0 : List UInt8) (s1 : Int) (s2 : (List Int)) (s3 : Int) : Option Bool := (Abs.Run E 232 (E.at 232 [1, 1, 0, 1, 0, 7]) ⟨mkSlots [(0, (.val .str s0)), (1, (.val (.int .i64) s1)), (2, (.val (.sl false (.int .u8)) s2)), (7, (.val (.int .i64) s3))], mkBoxes [], mkRows []⟩)
theorem c_ref02_Valid_eq (x : List UInt8) : c_ref02_Valid x =
 Z21 x := by kernel_rfl
theorem Z21_eq (s0 : List UInt8) : Z21 s0 =
 (c_ref02_Pieces s0).bind fun y0 =>
 Z31 s0 (0 : Int) y0 := by unfold Z21; rewrite [Run_unfold]; kernel_rfl
theorem Z31_eq (s0 : List UInt8) (s1 : Int) (r2 : List D181) : Z31 s0 s1 r2 =
 bif (decide (s1 < (((List.length r2) : Nat) : Int))) then
 bif (inside s1 (List.length r2)) then
 bif (List.getD r2 (Int.toNat s1) (Ty.zero T181)).2.2.2 then
 bif (inside s1 (List.length r2)) then
 some (false, (List.getD r2 (Int.toNat s1) (Ty.zero T181)).1)
 else
 none
 else
 Z31 s0 (IntKind.wrap IntKind.i64 (s1 + (1 : Int))) r2
 else
 none
 else
 some (true, (0 : Int)) := by unfold Z31; rewrite [Run_unfold]; kernel_rfl
theorem c_ref02_Pieces_eq (x : List UInt8) : c_ref02_Pieces x =
 Z41 x := by kernel_rfl
theorem Z41_eq (s0 : List UInt8) : Z41 s0 =
 Z51 s0 (0 : Int) ([] : List D181) := by unfold Z41; rewrite [Run_unfold]; kernel_rfl
theorem Z51_eq (s0 : List UInt8) (s1 : Int) (r2 : List D181) : Z51 s0 s1 r2 =
 bif (decide (s1 < (((List.length s0) : Nat) : Int))) then
 (c_ref02_One (s0, (s1, false))).bind fun y0 =>
 bif (decide (((List.length r2) + (List.length ([y0] : List D181))) ≤ (lim))) then
 Z51 s0 (IntKind.wrap IntKind.i64 (s1 + y0.2.1)) (r2 ++ ([y0] : List D181))
 else
 none
 else
 some r2 := by unfold Z51; rewrite [Run_unfold]; kernel_rfl
theorem c_ref02_One_eq (x : (List UInt8 × (Int × Bool))) : c_ref02_One x =
 Z61 x.1 x.2.1 x.2.2 := by kernel_rfl
theorem Z61_eq (s0 : List UInt8) (s1 : Int) (s2 : Bool) : Z61 s0 s1 s2 =
 Z71 s0 s1 s2 (1 : Int) ((Ty.zero (.int .i64)), ((Ty.zero (.int .i64)), ((Ty.zero (.int .i32)), (Ty.zero .bool)))) := by unfold Z61; rewrite [Run_unfold]; kernel_rfl
theorem Z71_eq (s0 : List UInt8) (s1 : Int) (s2 : Bool) (s3 : Int) (b4 : D181) : Z71 s0 s1 s2 s3 b4 =
 bif (decide (s3 ≤ (4 : Int))) then
 bif (decide ((IntKind.wrap IntKind.i64 (s1 + s3)) ≤ (((List.length s0) : Nat) : Int))) then
 (c_ref02_guess (s0, (s1, s3))).bind fun y0 =>
 (c_ref02_Scalar y0).bind fun y1 =>
 bif y1 then
 (c_ref02_Bytes y0).bind fun y2 =>
 bif ((((List.length y2) : Nat) : Int) == s3) then
 (c_ref02_Bytes y0).bind fun y3 =>
 (c_ref02_at (s0, (s1, y3))).bind fun y4 =>
 bif y4 then
 some (s1, (s3, (y0, (Ty.zero .bool))))
 else
 Z71 s0 s1 s2 (IntKind.wrap IntKind.i64 (s3 + (1 : Int))) b4
 else
 Z71 s0 s1 s2 (IntKind.wrap IntKind.i64 (s3 + (1 : Int))) b4
 else
 bif s2 then
 bif (decide (y0 ≥ (55296 : Int))) then
 bif (decide (y0 ≤ (57343 : Int))) then
 (c_ref02_Bytes y0).bind fun y2 =>
 bif ((((List.length y2) : Nat) : Int) == s3) then
 (c_ref02_Bytes y0).bind fun y3 =>
 (c_ref02_at (s0, (s1, y3))).bind fun y4 =>
 bif y4 then
 some (s1, (s3, (y0, (Ty.zero .bool))))
 else
 Z71 s0 s1 s2 (IntKind.wrap IntKind.i64 (s3 + (1 : Int))) b4
 else
 Z71 s0 s1 s2 (IntKind.wrap IntKind.i64 (s3 + (1 : Int))) b4
 else
 Z71 s0 s1 s2 (IntKind.wrap IntKind.i64 (s3 + (1 : Int))) b4
 else
 Z71 s0 s1 s2 (IntKind.wrap IntKind.i64 (s3 + (1 : Int))) b4
 else
 Z71 s0 s1 s2 (IntKind.wrap IntKind.i64 (s3 + (1 : Int))) b4
 else
 some (s1, ((1 : Int), ((65533 : Int), true)))
 else
 some (s1, ((1 : Int), ((65533 : Int), true))) := by unfold Z71; rewrite [Run_unfold]; kernel_rfl
theorem c_ref02_Scalar_eq (x : Int) : c_ref02_Scalar x =
 Z81 x := by kernel_rfl
theorem Z81_eq (s0 : Int) : Z81 s0 =
 bif (decide (s0 ≥ (0 : Int))) then
 bif (decide (s0 ≤ (1114111 : Int))) then
 bif (decide (s0 < (55296 : Int))) then
 some true
 else
 some (decide (s0 > (57343 : Int)))
 else
 some false
 else
 some false := by unfold Z81; rewrite [Run_unfold]; kernel_rfl
theorem c_ref02_guess_eq (x : (List UInt8 × (Int × Int))) : c_ref02_guess x =
 Z91 x.1 x.2.1 x.2.2 := by kernel_rfl
theorem Z91_eq (s0 : List UInt8) (s1 : Int) (s2 : Int) : Z91 s0 s1 s2 =
 bif (inside s1 (List.length s0)) then
 bif (inside s2 (List.length ([(0 : Int), (127 : Int), (31 : Int), (15 : Int), (7 : Int)] : List Int))) then
 Za1 s0 s1 s2 (IntKind.wrap IntKind.i32 (bits Go.BinOp.and IntKind.u8 (((UInt8.toNat (List.getD s0 (Int.toNat s1) (0 : UInt8))) : Nat) : Int) (List.getD ([(0 : Int), (127 : Int), (31 : Int), (15 : Int), (7 : Int)] : List Int) (Int.toNat s2) (Ty.zero (.int .u8))))) (1 : Int)
 else
 none
 else
 none := by unfold Z91; rewrite [Run_unfold]; kernel_rfl
theorem Za1_eq (s0 : List UInt8) (s1 : Int) (s2 : Int) (s3 : Int) (s4 : Int) : Za1 s0 s1 s2 s3 s4 =
 bif (decide (s4 < s2)) then
 bif (inside (IntKind.wrap IntKind.i64 (s1 + s4)) (List.length s0)) then
 Za1 s0 s1 s2 (IntKind.wrap IntKind.i32 ((IntKind.wrap IntKind.i32 (s3 * (64 : Int))) + (IntKind.wrap IntKind.i32 (bits Go.BinOp.and IntKind.u8 (((UInt8.toNat (List.getD s0 (Int.toNat (IntKind.wrap IntKind.i64 (s1 + s4))) (0 : UInt8))) : Nat) : Int) (63 : Int))))) (IntKind.wrap IntKind.i64 (s4 + (1 : Int)))
 else
 none
 else
 some s3 := by unfold Za1; rewrite [Run_unfold]; kernel_rfl
theorem c_ref02_Bytes_eq (x : Int) : c_ref02_Bytes x =
 Zb1 x := by kernel_rfl
theorem Zb1_eq (s0 : Int) : Zb1 s0 =
 bif (decide (s0 < (128 : Int))) then
 some ([(IntKind.wrap IntKind.u8 s0)] : List Int)
 else
 bif (decide (s0 < (2048 : Int))) then
 some ([(IntKind.wrap IntKind.u8 (IntKind.wrap IntKind.i32 ((192 : Int) + (IntKind.wrap IntKind.i32 (Int.tdiv s0 (64 : Int)))))), (IntKind.wrap IntKind.u8 (IntKind.wrap IntKind.i32 ((128 : Int) + (Int.tmod s0 (64 : Int)))))] : List Int)
 else
 bif (decide (s0 < (65536 : Int))) then
 some ([(IntKind.wrap IntKind.u8 (IntKind.wrap IntKind.i32 ((224 : Int) + (IntKind.wrap IntKind.i32 (Int.tdiv s0 (4096 : Int)))))), (IntKind.wrap IntKind.u8 (IntKind.wrap IntKind.i32 ((128 : Int) + (Int.tmod (IntKind.wrap IntKind.i32 (Int.tdiv s0 (64 : Int))) (64 : Int))))), (IntKind.wrap IntKind.u8 (IntKind.wrap IntKind.i32 ((128 : Int) + (Int.tmod s0 (64 : Int)))))] : List Int)
 else
 some ([(IntKind.wrap IntKind.u8 (IntKind.wrap IntKind.i32 ((240 : Int) + (IntKind.wrap IntKind.i32 (Int.tdiv s0 (262144 : Int)))))), (IntKind.wrap IntKind.u8 (IntKind.wrap IntKind.i32 ((128 : Int) + (Int.tmod (IntKind.wrap IntKind.i32 (Int.tdiv s0 (4096 : Int))) (64 : Int))))), (IntKind.wrap IntKind.u8 (IntKind.wrap IntKind.i32 ((128 : Int) + (Int.tmod (IntKind.wrap IntKind.i32 (Int.tdiv s0 (64 : Int))) (64 : Int))))), (IntKind.wrap IntKind.u8 (IntKind.wrap IntKind.i32 ((128 : Int) + (Int.tmod s0 (64 : Int)))))] : List Int) := by unfold Zb1; rewrite [Run_unfold]; kernel_rfl
theorem c_ref02_at_eq (x : (List UInt8 × (Int × (List Int)))) : c_ref02_at x =
 Zc1 x.1 x.2.1 x.2.2 := by kernel_rfl
theorem Zc1_eq (s0 : List UInt8) (s1 : Int) (s2 : (List Int)) : Zc1 s0 s1 s2 =
 bif (decide ((IntKind.wrap IntKind.i64 ((((List.length s0) : Nat) : Int) - s1)) < (((List.length s2) : Nat) : Int))) then
 some false
 else
 Zd1 s0 s1 s2 (0 : Int) := by unfold Zc1; rewrite [Run_unfold]; kernel_rfl
theorem Zd1_eq (s0 : List UInt8) (s1 : Int) (s2 : (List Int)) (s3 : Int) : Zd1 s0 s1 s2 s3 =
 bif (decide (s3 < (((List.length s2) : Nat) : Int))) then
 bif (inside (IntKind.wrap IntKind.i64 (s1 + s3)) (List.length s0)) then
 bif (inside s3 (List.length s2)) then
 bif ((((UInt8.toNat (List.getD s0 (Int.toNat (IntKind.wrap IntKind.i64 (s1 + s3))) (0 : UInt8))) : Nat) : Int) != (List.getD s2 (Int.toNat s3) (Ty.zero (.int .u8)))) then
 some false
 else
 Zd1 s0 s1 s2 (IntKind.wrap IntKind.i64 (s3 + (1 : Int)))
 else
 none
 else
 none
 else
 some true := by unfold Zd1; rewrite [Run_unfold]; kernel_rfl
end
end Go.Abs
