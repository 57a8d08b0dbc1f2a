/- Part Q2 of the proof: see the last text of the claim. No condition of its own. -/
import Derived.Test.YtddagflhafkbnaaGreatDoorQ1
set_option linter.all false
namespace Go.Abs
set_option autoImplicit false
set_option linter.all false
end Go.Abs
