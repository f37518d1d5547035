import Derived.Test.YtmbmcnklgoadiaaDoorProg
import Derived.Below
import Derived.Deep.Draws
import Derived.Deep.AppendLies
import Derived.Maps.AppendAt
import Derived.OwnWalk
import Derived.Laws.BytesArg
import Derived.Laws.MakeOwn
import Derived.Laws.OwnMore
import Derived.Deep.OwnRows
import Derived.Tactics
import Derived.Lib.ConvBytes
import Derived.Laws.Slices
import Derived.WalkKit
import Derived.KernelRfl
import Derived.RowKit3
import Derived.Deep.LoopGhost
import Derived.Deep.QuietTactic
import Derived.BigQuiet
import Derived.WideLaws
import Derived.Deep.DeepCutAuto
import Derived.Deep.CutBlock
import Derived.Deep.RegionHeld3
import Derived.Laws.Rows
import Derived.Lib.AppendStr
import Derived.ArgAppend
import Derived.Laws.IdiomCopy
import Derived.OrdersHeld
import Derived.Laws.BitsLemmas
import Derived.RowKit
import Derived.Test.YtmbmcnklgoadiaaDoorWWords
import Derived.Test.YtmbmcnklgoadiaaDoorWLast
import Derived.Test.YtmbmcnklgoadiaaDoorWTab
import Derived.Test.YtmbmcnklgoadiaaDoorWFour
import Derived.Test.YtmbmcnklgoadiaaDoorWQPut
import Derived.Test.YtmbmcnklgoadiaaDoorWApart
import Derived.Test.YtmbmcnklgoadiaaDoorWArr
import Derived.Test.YtmbmcnklgoadiaaDoorWZeros
import Derived.Test.YtmbmcnklgoadiaaDoorWFoot
import Derived.Test.YtmbmcnklgoadiaaDoorWKept
import Derived.Test.YtmbmcnklgoadiaaDoorWShare
import Derived.Test.YtmbmcnklgoadiaaDoorWN
import Derived.Test.YtmbmcnklgoadiaaDoorWFootNe
import Derived.Test.YtmbmcnklgoadiaaDoorWAt
import Derived.Test.YtmbmcnklgoadiaaDoorWEqStruct
import Derived.Test.YtmbmcnklgoadiaaDoorWRepsOne
import Derived.Test.YtmbmcnklgoadiaaDoorWInv
import Derived.Test.YtmbmcnklgoadiaaDoorWInvWords
import Derived.Test.YtmbmcnklgoadiaaDoorWGuard
import Derived.Test.YtmbmcnklgoadiaaDoorWNEv
import Derived.Test.YtmbmcnklgoadiaaDoorWMore
namespace Go.Proofs.YtmbmcnklgoadiaaDoor.QParse
open Go.RowKit Go.Proofs.YtmbmcnklgoadiaaDoorW.PrintWords Go.Proofs.YtmbmcnklgoadiaaDoorW.PrintLast Go.Proofs.YtmbmcnklgoadiaaDoorW.PrintMore
attribute [local go_sem] max2_int min2_int max_two min_two max_three min_three max_four min_four   -- for this text's walks alone
set_option linter.unusedVariables false
set_option linter.unusedSimpArgs false



def errW : Option Int → Value
  | none => .nilIface
  | some c => .iface 0 (.int .i64 c)
theorem errW_none : errW none = .nilIface := rfl
theorem errW_some (c : Int) : errW (some c) = .iface 0 (.int .i64 c) := rfl

-- the values' own types

end Go.Proofs.YtmbmcnklgoadiaaDoor.QParse
