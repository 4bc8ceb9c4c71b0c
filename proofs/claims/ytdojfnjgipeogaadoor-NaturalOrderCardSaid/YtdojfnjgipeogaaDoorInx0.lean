-- PRINTED by print.py (a twelfth state) out of the translation. Not trusted: Lean checks it.
import Derived.Test.YtdojfnjgipeogaaDoorProg
import Derived.Below
import Derived.Deep.Draws
import Derived.Deep.AppendLies
import Derived.Maps.AppendAt
import Derived.OwnWalk
import Derived.Laws.BytesArg
import Derived.Laws.MakeOwn
import Derived.Laws.OwnMore
import Derived.Deep.OwnRows
import Derived.Tactics
import Derived.Lib.ConvBytes
import Derived.Laws.Slices
import Derived.WalkKit
import Derived.KernelRfl
import Derived.RowKit3
import Derived.Deep.LoopGhost
import Derived.Deep.QuietTactic
import Derived.BigQuiet
import Derived.WideLaws
import Derived.Deep.DeepCutAuto
import Derived.Deep.CutBlock
import Derived.Deep.RegionHeld3
import Derived.Laws.Rows
import Derived.Lib.AppendStr
import Derived.ArgAppend
import Derived.Laws.IdiomCopy
import Derived.OrdersHeld
import Derived.Laws.BitsLemmas
import Derived.RowKit
import Derived.Test.YtdojfnjgipeogaaDoorNatL
import Derived.Test.YtdojfnjgipeogaaDoorWWords
import Derived.Test.YtdojfnjgipeogaaDoorWLast
import Derived.Test.YtdojfnjgipeogaaDoorWTab
import Derived.Test.YtdojfnjgipeogaaDoorWFour
import Derived.Test.YtdojfnjgipeogaaDoorWQPut
import Derived.Test.YtdojfnjgipeogaaDoorWApart
import Derived.Test.YtdojfnjgipeogaaDoorWArr
import Derived.Test.YtdojfnjgipeogaaDoorWZeros
import Derived.Test.YtdojfnjgipeogaaDoorWFoot
import Derived.Test.YtdojfnjgipeogaaDoorWKept
import Derived.Test.YtdojfnjgipeogaaDoorWShare
import Derived.Test.YtdojfnjgipeogaaDoorWN
import Derived.Test.YtdojfnjgipeogaaDoorWFootNe
import Derived.Test.YtdojfnjgipeogaaDoorWAt
import Derived.Test.YtdojfnjgipeogaaDoorWEqStruct
import Derived.Test.YtdojfnjgipeogaaDoorWRepsOne
import Derived.Test.YtdojfnjgipeogaaDoorWInv
import Derived.Test.YtdojfnjgipeogaaDoorWInvWords
import Derived.Test.YtdojfnjgipeogaaDoorWGuard
import Derived.Test.YtdojfnjgipeogaaDoorWNEv
import Derived.Test.YtdojfnjgipeogaaDoorWMore
namespace Go.Proofs.YtdojfnjgipeogaaDoor.In
open Go.RowKit Go.Proofs.YtdojfnjgipeogaaDoorW.PrintWords Go.Proofs.YtdojfnjgipeogaaDoorW.PrintLast Go.Proofs.YtdojfnjgipeogaaDoorW.PrintMore
attribute [local go_sem] max2_int min2_int max_two min_two max_three min_three max_four min_four   -- for this text's walks alone
set_option linter.unusedVariables false
set_option linter.unusedSimpArgs false



def errW : Option Int → Value
  | none => .nilIface
  | some c => .iface 0 (.int .i64 c)
theorem errW_none : errW none = .nilIface := rfl
theorem errW_some (c : Int) : errW (some c) = .iface 0 (.int .i64 c) := rfl

theorem info65 : (Tryd.prog.info? 65).map (fun i => (i.zero, i.size, i.bytes)) = some (some (.int .u64 0), 1, 8) := by kernel_rfl
-- the values' own types

end Go.Proofs.YtdojfnjgipeogaaDoor.In
