/- Lists sorted, merged, and cut off: no program in sight. -/
import Derived.Test.YtbphlohiealbeaaGreatDoorGgS
namespace Go.Gp
set_option linter.unusedVariables false
set_option linter.unusedSimpArgs false
variable {α : Type} {lt : α → α → Bool}
end Go.Gp
