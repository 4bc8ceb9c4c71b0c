-- PRINTED by print.py (a twelfth state) out of the translation. Not trusted: Lean checks it.
import Derived.Test.YtdojfnjgipeogaaGreatDoorInx0
import Derived.Test.YtdojfnjgipeogaaGreatDoorInx1
import Derived.Test.YtdojfnjgipeogaaGreatDoorInx2
namespace Go.Proofs.YtdojfnjgipeogaaGreatDoor.In
open Go.RowKit Go.Proofs.YtdojfnjgipeogaaGreatDoorW.PrintWords Go.Proofs.YtdojfnjgipeogaaGreatDoorW.PrintLast Go.Proofs.YtdojfnjgipeogaaGreatDoorW.PrintMore
attribute [local go_sem] max2_int min2_int max_two min_two max_three min_three max_four min_four   -- for this text's walks alone
set_option linter.unusedVariables false
set_option linter.unusedSimpArgs false

end Go.Proofs.YtdojfnjgipeogaaGreatDoor.In
