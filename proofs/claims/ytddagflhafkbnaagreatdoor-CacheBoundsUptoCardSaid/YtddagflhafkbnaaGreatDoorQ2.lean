/- Part Q2 of the proof: see the last text of the claim. No condition of its own. -/
import Derived.Test.YtddagflhafkbnaaGreatDoorQ1
set_option linter.all false
set_option autoImplicit false
namespace Go.Abs
end Go.Abs
