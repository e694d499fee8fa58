/- Contracts of the functions over values, edges and sides. No condition. -/
import Derived.Test.YtniljjbpcgblmaaCore
import Derived.StillTailTactics
import Derived.IntWalk
namespace Go.Proofs.Ytniljjbpcgblmaa
open Go.RowKit
set_option linter.unusedVariables false


end Go.Proofs.Ytniljjbpcgblmaa
