/- Contracts of the functions on size constraints. No condition. -/
import Derived.Test.YtcmanaklojomeaaSty
import Derived.Test.YtcmanaklojomeaaStyFr
import Derived.Deep.RegionLaw
namespace Go.Proofs.Ytcmanaklojomeaa
open Go.RowKit
set_option linter.unusedVariables false
attribute [local go_sem ↓] exec_row1 exec_row1d exec_rowh exec_rowhd

end Go.Proofs.Ytcmanaklojomeaa
