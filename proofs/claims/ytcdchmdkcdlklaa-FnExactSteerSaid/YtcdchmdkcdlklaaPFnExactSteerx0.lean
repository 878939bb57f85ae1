/- The machine's side of a law, function by function: a Lean function with the Go function's answers and the proof that the Go code comes to them. No condition. Written by this session's program over the kit's print, this session's own contracts set in. -/
import Derived.Test.YtcdchmdkcdlklaaProg
import Derived.Below
import Derived.Deep.Draws
import Derived.Deep.AppendLies
import Derived.Maps.AppendAt
import Derived.OwnWalk
import Derived.Laws.BytesArg
import Derived.Laws.MakeOwn
import Derived.Laws.OwnMore
import Derived.Deep.OwnRows
import Derived.Tactics
import Derived.Lib.ConvBytes
import Derived.Laws.Slices
import Derived.WalkKit
import Derived.KernelRfl
import Derived.RowKit3
import Derived.Deep.LoopGhost
import Derived.Deep.QuietTactic
import Derived.BigQuiet
import Derived.WideLaws
import Derived.Deep.DeepCutAuto
import Derived.Deep.CutBlock
import Derived.Deep.RegionHeld3
import Derived.Laws.Rows
import Derived.Lib.AppendStr
import Derived.ArgAppend
import Derived.Laws.IdiomCopy
import Derived.OrdersHeld
import Derived.Laws.BitsLemmas
import Derived.RowKit
import Derived.Test.YtcdchmdkcdlklaaMine
import Derived.Lib.SliceRun
import Derived.Laws.Cover1
import Derived.Laws.CopyOwn
import Derived.Deep.RegionHeld3
import Derived.Test.YtcdchmdkcdlklaaWWords
import Derived.Test.YtcdchmdkcdlklaaWLast
import Derived.Test.YtcdchmdkcdlklaaWTab
import Derived.Test.YtcdchmdkcdlklaaWFour
import Derived.Test.YtcdchmdkcdlklaaWQPut
import Derived.Test.YtcdchmdkcdlklaaWApart
import Derived.Test.YtcdchmdkcdlklaaWArr
import Derived.Test.YtcdchmdkcdlklaaWZeros
import Derived.Test.YtcdchmdkcdlklaaWFoot
import Derived.Test.YtcdchmdkcdlklaaWKept
import Derived.Test.YtcdchmdkcdlklaaWShare
import Derived.Test.YtcdchmdkcdlklaaWN
import Derived.Test.YtcdchmdkcdlklaaWFootNe
import Derived.Test.YtcdchmdkcdlklaaWAt
import Derived.Test.YtcdchmdkcdlklaaWEqStruct
import Derived.Test.YtcdchmdkcdlklaaWRepsOne
import Derived.Test.YtcdchmdkcdlklaaWInv
import Derived.Test.YtcdchmdkcdlklaaWInvWords
import Derived.Test.YtcdchmdkcdlklaaWGuard
import Derived.Test.YtcdchmdkcdlklaaWNEv
import Derived.Test.YtcdchmdkcdlklaaWMore
namespace Go.Proofs.Ytcdchmdkcdlklaa.PFnExactSteer
open Go.RowKit Go.Proofs.YtcdchmdkcdlklaaW.PrintWords Go.Proofs.YtcdchmdkcdlklaaW.PrintLast Go.Proofs.YtcdchmdkcdlklaaW.PrintMore
attribute [local go_sem] max2_int min2_int max_two min_two max_three min_three max_four min_four   -- for this text's walks alone
set_option linter.unusedVariables false
set_option linter.unusedSimpArgs false



def errW : Option Int → Value
  | none => .nilIface
  | some c => .iface 0 (.int .i64 c)
theorem errW_none : errW none = .nilIface := rfl
theorem errW_some (c : Int) : errW (some c) = .iface 0 (.int .i64 c) := rfl

theorem info3 : (Try.prog.info? 3).map (fun i => (i.zero, i.size, i.bytes)) = some (some (.int .i64 0), 1, 8) := by kernel_rfl
-- the values' own types

end Go.Proofs.Ytcdchmdkcdlklaa.PFnExactSteer
