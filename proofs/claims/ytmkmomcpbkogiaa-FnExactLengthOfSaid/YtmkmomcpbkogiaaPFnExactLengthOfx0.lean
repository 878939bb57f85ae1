/- The machine's side of a law, function by function: a Lean function with the Go function's answers and the proof that the Go code comes to them. No condition. Written by this session's program over the kit's print, this session's own contracts set in. -/
import Derived.Test.YtmkmomcpbkogiaaProg
import Derived.Below
import Derived.Deep.Draws
import Derived.Deep.AppendLies
import Derived.Maps.AppendAt
import Derived.OwnWalk
import Derived.Laws.BytesArg
import Derived.Laws.MakeOwn
import Derived.Laws.OwnMore
import Derived.Deep.OwnRows
import Derived.Tactics
import Derived.Lib.ConvBytes
import Derived.Laws.Slices
import Derived.WalkKit
import Derived.KernelRfl
import Derived.RowKit3
import Derived.Deep.LoopGhost
import Derived.Deep.QuietTactic
import Derived.BigQuiet
import Derived.WideLaws
import Derived.Deep.DeepCutAuto
import Derived.Deep.CutBlock
import Derived.Deep.RegionHeld3
import Derived.Laws.Rows
import Derived.Lib.AppendStr
import Derived.ArgAppend
import Derived.Laws.IdiomCopy
import Derived.OrdersHeld
import Derived.Laws.BitsLemmas
import Derived.RowKit
import Derived.Test.YtmkmomcpbkogiaaMine
import Derived.Test.YtmkmomcpbkogiaaWWords
import Derived.Test.YtmkmomcpbkogiaaWLast
import Derived.Test.YtmkmomcpbkogiaaWTab
import Derived.Test.YtmkmomcpbkogiaaWFour
import Derived.Test.YtmkmomcpbkogiaaWQPut
import Derived.Test.YtmkmomcpbkogiaaWApart
import Derived.Test.YtmkmomcpbkogiaaWArr
import Derived.Test.YtmkmomcpbkogiaaWZeros
import Derived.Test.YtmkmomcpbkogiaaWFoot
import Derived.Test.YtmkmomcpbkogiaaWKept
import Derived.Test.YtmkmomcpbkogiaaWShare
import Derived.Test.YtmkmomcpbkogiaaWN
import Derived.Test.YtmkmomcpbkogiaaWFootNe
import Derived.Test.YtmkmomcpbkogiaaWAt
import Derived.Test.YtmkmomcpbkogiaaWEqStruct
import Derived.Test.YtmkmomcpbkogiaaWRepsOne
import Derived.Test.YtmkmomcpbkogiaaWInv
import Derived.Test.YtmkmomcpbkogiaaWInvWords
import Derived.Test.YtmkmomcpbkogiaaWGuard
import Derived.Test.YtmkmomcpbkogiaaWNEv
import Derived.Test.YtmkmomcpbkogiaaWMore
namespace Go.Proofs.Ytmkmomcpbkogiaa.PFnExactLengthOf
open Go.RowKit Go.Proofs.YtmkmomcpbkogiaaW.PrintWords Go.Proofs.YtmkmomcpbkogiaaW.PrintLast Go.Proofs.YtmkmomcpbkogiaaW.PrintMore
attribute [local go_sem] max2_int min2_int max_two min_two max_three min_three max_four min_four   -- for this text's walks alone
set_option linter.unusedVariables false
set_option linter.unusedSimpArgs false



def errW : Option Int → Value
  | none => .nilIface
  | some c => .iface 0 (.int .i64 c)
theorem errW_none : errW none = .nilIface := rfl
theorem errW_some (c : Int) : errW (some c) = .iface 0 (.int .i64 c) := rfl

-- the values' own types

end Go.Proofs.Ytmkmomcpbkogiaa.PFnExactLengthOf
