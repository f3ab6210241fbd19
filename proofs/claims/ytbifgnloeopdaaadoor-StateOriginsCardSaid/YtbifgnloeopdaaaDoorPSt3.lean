/- States in plain words: each act leaves a state that is whole, and nothing sinks. -/
import Derived.Test.YtbifgnloeopdaaaDoorF0
import Derived.Test.YtbifgnloeopdaaaDoorF1
import Derived.Test.YtbifgnloeopdaaaDoorPSt2
namespace Go.Proofs.YtbifgnloeopdaaaDoor.Pure
open Go Go.Gg Go.Gp Gf
set_option linter.unusedVariables false
set_option linter.unusedSimpArgs false
theorem Le.refl (n : Nat) (a : List Int) : Le n a a := fun i hi => Int.le_refl _
end Go.Proofs.YtbifgnloeopdaaaDoor.Pure
