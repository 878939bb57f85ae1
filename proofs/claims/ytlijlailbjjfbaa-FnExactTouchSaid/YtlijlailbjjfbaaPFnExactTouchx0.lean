/- The machine's side of a law, function by function: a Lean function with the Go function's answers and the proof that the Go code comes to them. No condition. Written by this session's program over the kit's print, this session's own contracts set in. -/
import Derived.Test.YtlijlailbjjfbaaProg
import Derived.Below
import Derived.Deep.Draws
import Derived.Deep.AppendLies
import Derived.Maps.AppendAt
import Derived.OwnWalk
import Derived.Laws.BytesArg
import Derived.Laws.MakeOwn
import Derived.Laws.OwnMore
import Derived.Deep.OwnRows
import Derived.Tactics
import Derived.Lib.ConvBytes
import Derived.Laws.Slices
import Derived.WalkKit
import Derived.KernelRfl
import Derived.RowKit3
import Derived.Deep.LoopGhost
import Derived.Deep.QuietTactic
import Derived.BigQuiet
import Derived.WideLaws
import Derived.Deep.DeepCutAuto
import Derived.Deep.CutBlock
import Derived.Deep.RegionHeld3
import Derived.Laws.Rows
import Derived.Lib.AppendStr
import Derived.ArgAppend
import Derived.Laws.IdiomCopy
import Derived.OrdersHeld
import Derived.Laws.BitsLemmas
import Derived.RowKit
import Derived.Test.YtlijlailbjjfbaaMine
import Derived.Test.YtlijlailbjjfbaaWWords
import Derived.Test.YtlijlailbjjfbaaWLast
import Derived.Test.YtlijlailbjjfbaaWTab
import Derived.Test.YtlijlailbjjfbaaWFour
import Derived.Test.YtlijlailbjjfbaaWQPut
import Derived.Test.YtlijlailbjjfbaaWApart
import Derived.Test.YtlijlailbjjfbaaWArr
import Derived.Test.YtlijlailbjjfbaaWZeros
import Derived.Test.YtlijlailbjjfbaaWFoot
import Derived.Test.YtlijlailbjjfbaaWKept
import Derived.Test.YtlijlailbjjfbaaWShare
import Derived.Test.YtlijlailbjjfbaaWN
import Derived.Test.YtlijlailbjjfbaaWFootNe
import Derived.Test.YtlijlailbjjfbaaWAt
import Derived.Test.YtlijlailbjjfbaaWEqStruct
import Derived.Test.YtlijlailbjjfbaaWRepsOne
import Derived.Test.YtlijlailbjjfbaaWInv
import Derived.Test.YtlijlailbjjfbaaWInvWords
import Derived.Test.YtlijlailbjjfbaaWGuard
import Derived.Test.YtlijlailbjjfbaaWNEv
import Derived.Test.YtlijlailbjjfbaaWMore
namespace Go.Proofs.Ytlijlailbjjfbaa.PFnExactTouch
open Go.RowKit Go.Proofs.YtlijlailbjjfbaaW.PrintWords Go.Proofs.YtlijlailbjjfbaaW.PrintLast Go.Proofs.YtlijlailbjjfbaaW.PrintMore
attribute [local go_sem] max2_int min2_int max_two min_two max_three min_three max_four min_four   -- for this text's walks alone
set_option linter.unusedVariables false
set_option linter.unusedSimpArgs false



def errW : Option Int → Value
  | none => .nilIface
  | some c => .iface 0 (.int .i64 c)
theorem errW_none : errW none = .nilIface := rfl
theorem errW_some (c : Int) : errW (some c) = .iface 0 (.int .i64 c) := rfl

-- the values' own types

end Go.Proofs.Ytlijlailbjjfbaa.PFnExactTouch
