/- The lock of the program: what its functions do. Conditions: none. -/
import Derived.Test.YtgcmglieciaifaaBj
import Derived.Test.YtgcmglieciaifaaTy
import Derived.Test.YtgcmglieciaifaaSlQ
set_option linter.unusedSimpArgs false
set_option linter.unusedVariables false
set_option maxRecDepth 100000
set_option maxHeartbeats 2000000
namespace Go.Proofs.Ytgcmglieciaifaa
open Go Go.SL
attribute [local irreducible] pc rc SlT Me Mt It pt ro pur ex sep old Meets


/-! ### Slices of owners -/










































































































end Go.Proofs.Ytgcmglieciaifaa
