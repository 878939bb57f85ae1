/- The machine's side of a law, function by function: a Lean function with the Go function's answers and the proof that the Go code comes to them. No condition. Written by this session's program over the kit's print, this session's own contracts set in. -/
import Derived.Test.YtijmnkfmkpejmaaProg
import Derived.Below
import Derived.Deep.Draws
import Derived.Deep.AppendLies
import Derived.Maps.AppendAt
import Derived.OwnWalk
import Derived.Laws.BytesArg
import Derived.Laws.MakeOwn
import Derived.Laws.OwnMore
import Derived.Deep.OwnRows
import Derived.Tactics
import Derived.Lib.ConvBytes
import Derived.Laws.Slices
import Derived.WalkKit
import Derived.KernelRfl
import Derived.RowKit3
import Derived.Deep.LoopGhost
import Derived.Deep.QuietTactic
import Derived.BigQuiet
import Derived.WideLaws
import Derived.Deep.DeepCutAuto
import Derived.Deep.CutBlock
import Derived.Deep.RegionHeld3
import Derived.Laws.Rows
import Derived.Lib.AppendStr
import Derived.ArgAppend
import Derived.Laws.IdiomCopy
import Derived.OrdersHeld
import Derived.Laws.BitsLemmas
import Derived.RowKit
import Derived.Test.YtijmnkfmkpejmaaMine
import Derived.Lib.SliceRun
import Derived.Laws.Cover1
import Derived.Laws.Cover2
import Derived.Laws.FloatArith
import Derived.Deep.RegionHeld3
import Derived.Test.YtijmnkfmkpejmaaWWords
import Derived.Test.YtijmnkfmkpejmaaWLast
import Derived.Test.YtijmnkfmkpejmaaWTab
import Derived.Test.YtijmnkfmkpejmaaWFour
import Derived.Test.YtijmnkfmkpejmaaWQPut
import Derived.Test.YtijmnkfmkpejmaaWApart
import Derived.Test.YtijmnkfmkpejmaaWArr
import Derived.Test.YtijmnkfmkpejmaaWZeros
import Derived.Test.YtijmnkfmkpejmaaWFoot
import Derived.Test.YtijmnkfmkpejmaaWKept
import Derived.Test.YtijmnkfmkpejmaaWShare
import Derived.Test.YtijmnkfmkpejmaaWN
import Derived.Test.YtijmnkfmkpejmaaWFootNe
import Derived.Test.YtijmnkfmkpejmaaWAt
import Derived.Test.YtijmnkfmkpejmaaWEqStruct
import Derived.Test.YtijmnkfmkpejmaaWRepsOne
import Derived.Test.YtijmnkfmkpejmaaWInv
import Derived.Test.YtijmnkfmkpejmaaWInvWords
import Derived.Test.YtijmnkfmkpejmaaWGuard
import Derived.Test.YtijmnkfmkpejmaaWNEv
import Derived.Test.YtijmnkfmkpejmaaWMore
namespace Go.Proofs.Ytijmnkfmkpejmaa.PFnExactSumInOrder
open Go.RowKit Go.Proofs.YtijmnkfmkpejmaaW.PrintWords Go.Proofs.YtijmnkfmkpejmaaW.PrintLast Go.Proofs.YtijmnkfmkpejmaaW.PrintMore
attribute [local go_sem] max2_int min2_int max_two min_two max_three min_three max_four min_four   -- for this text's walks alone
set_option linter.unusedVariables false
set_option linter.unusedSimpArgs false



def errW : Option Int → Value
  | none => .nilIface
  | some c => .iface 0 (.int .i64 c)
theorem errW_none : errW none = .nilIface := rfl
theorem errW_some (c : Int) : errW (some c) = .iface 0 (.int .i64 c) := rfl

theorem info22 : (Try.prog.info? 22).map (fun i => (i.zero, i.size, i.bytes)) = some (some (.float .f64 0), 1, 8) := by kernel_rfl
-- the values' own types
def rd_L2 (xs : List (List Nat)) (i : Int) : (List Nat) := xs.getD i.toNat ([] : List Nat)
theorem at_L2 {w : World} {A : Option Addr} {n : Nat} {xs : List (List Nat)} (h : Kd.C (Kd.slice 22 (Kd.scalar (Value.float .f64) (fun _ => rfl))) w A n xs) (i : Int) (h0 : 0 ≤ i) (h1 : i < n) : ∃ ad A0 c0, A = some ad ∧ w.cell? (ad.add i.toNat) = some (.slice A0 (rd_L2 xs i).length c0) ∧ (rd_L2 xs i).length ≤ c0 ∧ (Kd.scalar (Value.float .f64) (fun _ => rfl)).C w A0 (rd_L2 xs i).length (rd_L2 xs i) := by
  obtain ⟨ad, c, e, _, hK, hc0⟩ := Kd.C_get h ([] : List Nat) i h0 h1
  have hc : ∀ j u, c[j]? = some u → w.cell? (ad.add (i.toNat * 1 + j)) = some u := hc0
  obtain ⟨A0, c0, rfl, l0, g0⟩ := hK
  exact ⟨ad, A0, c0, e, by have hq := hc 0 _ rfl; rwa [Nat.mul_one, Nat.add_zero] at hq, l0, g0⟩

end Go.Proofs.Ytijmnkfmkpejmaa.PFnExactSumInOrder
