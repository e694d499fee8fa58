/- Contracts of the small functions over styles. No condition. -/
import Derived.Test.YtjmdeficahinoaaCore2
import Derived.Test.YtjmdeficahinoaaConv
namespace Go.Proofs.Ytjmdeficahinoaa
open Go.RowKit
set_option linter.unusedVariables false

end Go.Proofs.Ytjmdeficahinoaa
