/- The machine's side of a law, function by function: a Lean function with the Go function's answers and the proof that the Go code comes to them. No condition. Written by this session's program over the kit's print, this session's own contracts set in. -/
import Derived.Test.YtmabgkhkokckgaaProg
import Derived.Below
import Derived.Deep.Draws
import Derived.Deep.AppendLies
import Derived.Maps.AppendAt
import Derived.OwnWalk
import Derived.Laws.BytesArg
import Derived.Laws.MakeOwn
import Derived.Laws.OwnMore
import Derived.Deep.OwnRows
import Derived.Tactics
import Derived.Lib.ConvBytes
import Derived.Laws.Slices
import Derived.WalkKit
import Derived.KernelRfl
import Derived.RowKit3
import Derived.Deep.LoopGhost
import Derived.Deep.QuietTactic
import Derived.BigQuiet
import Derived.WideLaws
import Derived.Deep.DeepCutAuto
import Derived.Deep.CutBlock
import Derived.Deep.RegionHeld3
import Derived.Laws.Rows
import Derived.Lib.AppendStr
import Derived.ArgAppend
import Derived.Laws.IdiomCopy
import Derived.OrdersHeld
import Derived.Laws.BitsLemmas
import Derived.RowKit
import Derived.Test.YtmabgkhkokckgaaMine
import Derived.Test.YtmabgkhkokckgaaWWords
import Derived.Test.YtmabgkhkokckgaaWLast
import Derived.Test.YtmabgkhkokckgaaWTab
import Derived.Test.YtmabgkhkokckgaaWFour
import Derived.Test.YtmabgkhkokckgaaWQPut
import Derived.Test.YtmabgkhkokckgaaWApart
import Derived.Test.YtmabgkhkokckgaaWArr
import Derived.Test.YtmabgkhkokckgaaWZeros
import Derived.Test.YtmabgkhkokckgaaWFoot
import Derived.Test.YtmabgkhkokckgaaWKept
import Derived.Test.YtmabgkhkokckgaaWShare
import Derived.Test.YtmabgkhkokckgaaWN
import Derived.Test.YtmabgkhkokckgaaWFootNe
import Derived.Test.YtmabgkhkokckgaaWAt
import Derived.Test.YtmabgkhkokckgaaWEqStruct
import Derived.Test.YtmabgkhkokckgaaWRepsOne
import Derived.Test.YtmabgkhkokckgaaWInv
import Derived.Test.YtmabgkhkokckgaaWInvWords
import Derived.Test.YtmabgkhkokckgaaWGuard
import Derived.Test.YtmabgkhkokckgaaWNEv
import Derived.Test.YtmabgkhkokckgaaWMore
namespace Go.Proofs.Ytmabgkhkokckgaa.PFnExactJoinSpots
open Go.RowKit Go.Proofs.YtmabgkhkokckgaaW.PrintWords Go.Proofs.YtmabgkhkokckgaaW.PrintLast Go.Proofs.YtmabgkhkokckgaaW.PrintMore
attribute [local go_sem] max2_int min2_int max_two min_two max_three min_three max_four min_four   -- for this text's walks alone
set_option linter.unusedVariables false
set_option linter.unusedSimpArgs false



def errW : Option Int → Value
  | none => .nilIface
  | some c => .iface 0 (.int .i64 c)
theorem errW_none : errW none = .nilIface := rfl
theorem errW_some (c : Int) : errW (some c) = .iface 0 (.int .i64 c) := rfl

-- the values' own types

end Go.Proofs.Ytmabgkhkokckgaa.PFnExactJoinSpots
