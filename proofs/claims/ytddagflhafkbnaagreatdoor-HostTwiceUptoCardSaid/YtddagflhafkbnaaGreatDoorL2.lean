/- Part L2 of the proof: see the last text of the claim. No condition of its own. -/
import Derived.Test.YtddagflhafkbnaaGreatDoorL1
set_option linter.all false
/- The parts of an IPv6 address. -/
namespace Go.Abs
set_option autoImplicit false

/-! a byte in a text -/
/-! a small number -/
end Go.Abs
/- The dotted tail of an IPv6 address. -/
namespace Go.Abs
set_option autoImplicit false

/-! The reference's. -/
end Go.Abs
/- The program's dotted tail. -/
namespace Go.Abs
set_option autoImplicit false

end Go.Abs
/- Runs of the pieces of an IPv6 address. -/
namespace Go.Abs
set_option autoImplicit false

/-! The reference's. -/
end Go.Abs
/- IPv6 addresses: the program's and the reference's. -/
namespace Go.Abs
set_option autoImplicit false

/-! The program's. -/
end Go.Abs
/- The law: true of every text. -/
namespace Go.Abs
set_option autoImplicit false

theorem c_law05_num_val (n : Int) : c_law05_num n = some n := by rw [c_law05_num_eq, p_law05_num_0_eq]

end Go.Abs
