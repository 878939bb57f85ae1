/- The machine's side of a law, function by function: a Lean function with the Go function's answers and the proof that the Go code comes to them. No condition. Written by this session's program over the kit's print, this session's own contracts set in. -/
import Derived.Test.YtijmnkfmkpejmaaProg
import Derived.Below
import Derived.Deep.Draws
import Derived.Deep.AppendLies
import Derived.Maps.AppendAt
import Derived.OwnWalk
import Derived.Laws.BytesArg
import Derived.Laws.MakeOwn
import Derived.Laws.OwnMore
import Derived.Deep.OwnRows
import Derived.Tactics
import Derived.Lib.ConvBytes
import Derived.Laws.Slices
import Derived.WalkKit
import Derived.KernelRfl
import Derived.RowKit3
import Derived.Deep.LoopGhost
import Derived.Deep.QuietTactic
import Derived.BigQuiet
import Derived.WideLaws
import Derived.Deep.DeepCutAuto
import Derived.Deep.CutBlock
import Derived.Deep.RegionHeld3
import Derived.Laws.Rows
import Derived.Lib.AppendStr
import Derived.ArgAppend
import Derived.Laws.IdiomCopy
import Derived.OrdersHeld
import Derived.Laws.BitsLemmas
import Derived.RowKit
import Derived.Test.YtijmnkfmkpejmaaMine
import Derived.Laws.Cover2
import Derived.Laws.FloatArith
import Derived.Laws.Externs
import Derived.Test.YtijmnkfmkpejmaaWWords
import Derived.Test.YtijmnkfmkpejmaaWLast
import Derived.Test.YtijmnkfmkpejmaaWTab
import Derived.Test.YtijmnkfmkpejmaaWFour
import Derived.Test.YtijmnkfmkpejmaaWQPut
import Derived.Test.YtijmnkfmkpejmaaWApart
import Derived.Test.YtijmnkfmkpejmaaWArr
import Derived.Test.YtijmnkfmkpejmaaWZeros
import Derived.Test.YtijmnkfmkpejmaaWFoot
import Derived.Test.YtijmnkfmkpejmaaWKept
import Derived.Test.YtijmnkfmkpejmaaWShare
import Derived.Test.YtijmnkfmkpejmaaWN
import Derived.Test.YtijmnkfmkpejmaaWFootNe
import Derived.Test.YtijmnkfmkpejmaaWAt
import Derived.Test.YtijmnkfmkpejmaaWEqStruct
import Derived.Test.YtijmnkfmkpejmaaWRepsOne
import Derived.Test.YtijmnkfmkpejmaaWInv
import Derived.Test.YtijmnkfmkpejmaaWInvWords
import Derived.Test.YtijmnkfmkpejmaaWGuard
import Derived.Test.YtijmnkfmkpejmaaWNEv
import Derived.Test.YtijmnkfmkpejmaaWMore
namespace Go.Proofs.Ytijmnkfmkpejmaa.PFnExactBlend
open Go.RowKit Go.Proofs.YtijmnkfmkpejmaaW.PrintWords Go.Proofs.YtijmnkfmkpejmaaW.PrintLast Go.Proofs.YtijmnkfmkpejmaaW.PrintMore
attribute [local go_sem] max2_int min2_int max_two min_two max_three min_three max_four min_four   -- for this text's walks alone
set_option linter.unusedVariables false
set_option linter.unusedSimpArgs false



def errW : Option Int → Value
  | none => .nilIface
  | some c => .iface 0 (.int .i64 c)
theorem errW_none : errW none = .nilIface := rfl
theorem errW_some (c : Int) : errW (some c) = .iface 0 (.int .i64 c) := rfl

-- the values' own types

end Go.Proofs.Ytijmnkfmkpejmaa.PFnExactBlend
