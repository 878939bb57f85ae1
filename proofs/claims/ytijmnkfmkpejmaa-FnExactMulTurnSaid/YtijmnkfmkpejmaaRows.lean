/-
  No cell of these rows narrows 'for every input' (looked for: loops, veiled, ifaces, maps, wideKeys, modest, calm, conditions, laid).
  DERIVED. THE GIVEN ROWS OF THIS SEAT. 9 by the template 'for every input the law returns true; each argument reads behind the call as it read before'; 0 by the template 'total and deterministic' (their statements: YtijmnkfmkpejmaaTotals.lean).
  GIVEN WITH THE SEED: the statements are not yours to turn. If you find one false, say at which input.
  Laid BY PROGRAM, IN A SANDBOX (cutbox-rows.mjs): the forced cells as the released guide's own fill.sh prints them over the translation 3b1bad646b608ef1… (all of the seat's roots in one cut). By AI agents, Wed Nov 11 2026. No macro, syntax, notation, axiom, sorry.
-/
import Derived.Test.YtijmnkfmkpejmaaChecked
import GoSem.Claim
import GoSem.ClaimJoined
import GoSem.ClaimMapViews
import Derived.JoinedTies
import Derived.KernelRfl
namespace Go.Proofs.Ytijmnkfmkpejmaa
/- THE CELL 'sum', in the pinned program and in every row, IS THE sha256 OF THE DUMP (.gsa) THAT YtijmnkfmkpejmaaProg.lean LOADS. Nothing in Lean hashes anything: it is a label: what it is worth is what the hold of that sum in a sandbox is worth. -/
noncomputable def Try.pinned : Pinned := { name := "ytijmnkfmkpejmaa", sum := "3b1bad646b608ef19cb137b3cc68c7675aee6a8cf39ae46bdbd30b537b3a0250", checked := Try.checked }
namespace Rows
def none {H : Type} : Left H := { results := [], args := [] }

/-- 'laws.FnExactRealOrder': WHATEVER THE INPUT: true; the input reads as it did. -/
def fnExactRealOrderSpec : ChangeSpec := { name := "fnExactRealOrder", fn := fun _ => fun
  | [d1, d2] => { results := [.lit (.bool true)], args := [d1, d2] }
  | _ => none }
def fnExactRealOrderRow : OpenClaim := { program := "ytijmnkfmkpejmaa", sum := "3b1bad646b608ef19cb137b3cc68c7675aee6a8cf39ae46bdbd30b537b3a0250", func := "loop.example/g00064/laws.FnExactRealOrder", spec := "fnExactRealOrder", apart := false }
def FnExactRealOrderSaid : Prop := fnExactRealOrderRow.holds Try.pinned (OpenSpec.ofChange fnExactRealOrderSpec)

/-- ITS FALSE NEIGHBOUR: 'it returns false'. Refute it at one input. -/
def fnExactRealOrderWrong : ChangeSpec := { name := "fnExactRealOrder", fn := fun _ => fun
  | [d1, d2] => { results := [.lit (.bool false)], args := [d1, d2] }
  | _ => none }
def FnExactRealOrderWrongFalsely : Prop := fnExactRealOrderRow.holds Try.pinned (OpenSpec.ofChange fnExactRealOrderWrong)

/-- 'laws.FnExactGoodReal': WHATEVER THE INPUT: true; the input reads as it did. -/
def fnExactGoodRealSpec : ChangeSpec := { name := "fnExactGoodReal", fn := fun _ => fun
  | [d] => { results := [.lit (.bool true)], args := [d] }
  | _ => none }
def fnExactGoodRealRow : OpenClaim := { program := "ytijmnkfmkpejmaa", sum := "3b1bad646b608ef19cb137b3cc68c7675aee6a8cf39ae46bdbd30b537b3a0250", func := "loop.example/g00064/laws.FnExactGoodReal", spec := "fnExactGoodReal", inPlace := ["math.Float64bits", "math.Float64frombits"], unfollowed := true, recurses := true, apart := false }
def FnExactGoodRealSaid : Prop := fnExactGoodRealRow.holds Try.pinned (OpenSpec.ofChange fnExactGoodRealSpec)

/-- ITS FALSE NEIGHBOUR: 'it returns false'. Refute it at one input. -/
def fnExactGoodRealWrong : ChangeSpec := { name := "fnExactGoodReal", fn := fun _ => fun
  | [d] => { results := [.lit (.bool false)], args := [d] }
  | _ => none }
def FnExactGoodRealWrongFalsely : Prop := fnExactGoodRealRow.holds Try.pinned (OpenSpec.ofChange fnExactGoodRealWrong)

/-- 'laws.FnExactToShort': WHATEVER THE INPUT: true; the input reads as it did. -/
def fnExactToShortSpec : ChangeSpec := { name := "fnExactToShort", fn := fun _ => fun
  | [d] => { results := [.lit (.bool true)], args := [d] }
  | _ => none }
def fnExactToShortRow : OpenClaim := { program := "ytijmnkfmkpejmaa", sum := "3b1bad646b608ef19cb137b3cc68c7675aee6a8cf39ae46bdbd30b537b3a0250", func := "loop.example/g00064/laws.FnExactToShort", spec := "fnExactToShort", inPlace := ["math.Float64bits", "math.Float64frombits", "math.Float32bits"], unfollowed := true, recurses := true, apart := false }
def FnExactToShortSaid : Prop := fnExactToShortRow.holds Try.pinned (OpenSpec.ofChange fnExactToShortSpec)

/-- ITS FALSE NEIGHBOUR: 'it returns false'. Refute it at one input. -/
def fnExactToShortWrong : ChangeSpec := { name := "fnExactToShort", fn := fun _ => fun
  | [d] => { results := [.lit (.bool false)], args := [d] }
  | _ => none }
def FnExactToShortWrongFalsely : Prop := fnExactToShortRow.holds Try.pinned (OpenSpec.ofChange fnExactToShortWrong)

/-- 'laws.FnExactOfShort': WHATEVER THE INPUT: true; the input reads as it did. -/
def fnExactOfShortSpec : ChangeSpec := { name := "fnExactOfShort", fn := fun _ => fun
  | [d] => { results := [.lit (.bool true)], args := [d] }
  | _ => none }
def fnExactOfShortRow : OpenClaim := { program := "ytijmnkfmkpejmaa", sum := "3b1bad646b608ef19cb137b3cc68c7675aee6a8cf39ae46bdbd30b537b3a0250", func := "loop.example/g00064/laws.FnExactOfShort", spec := "fnExactOfShort", inPlace := ["math.Float32frombits", "math.Float64bits", "math.Float64frombits"], unfollowed := true, recurses := true, apart := false }
def FnExactOfShortSaid : Prop := fnExactOfShortRow.holds Try.pinned (OpenSpec.ofChange fnExactOfShortSpec)

/-- ITS FALSE NEIGHBOUR: 'it returns false'. Refute it at one input. -/
def fnExactOfShortWrong : ChangeSpec := { name := "fnExactOfShort", fn := fun _ => fun
  | [d] => { results := [.lit (.bool false)], args := [d] }
  | _ => none }
def FnExactOfShortWrongFalsely : Prop := fnExactOfShortRow.holds Try.pinned (OpenSpec.ofChange fnExactOfShortWrong)

/-- 'laws.FnExactBlend': WHATEVER THE INPUT: true; the input reads as it did. -/
def fnExactBlendSpec : ChangeSpec := { name := "fnExactBlend", fn := fun _ => fun
  | [d1, d2, d3] => { results := [.lit (.bool true)], args := [d1, d2, d3] }
  | _ => none }
def fnExactBlendRow : OpenClaim := { program := "ytijmnkfmkpejmaa", sum := "3b1bad646b608ef19cb137b3cc68c7675aee6a8cf39ae46bdbd30b537b3a0250", func := "loop.example/g00064/laws.FnExactBlend", spec := "fnExactBlend", inPlace := ["math.Float64bits", "math.Float64frombits"], unfollowed := true, recurses := true, apart := false }
def FnExactBlendSaid : Prop := fnExactBlendRow.holds Try.pinned (OpenSpec.ofChange fnExactBlendSpec)

/-- ITS FALSE NEIGHBOUR: 'it returns false'. Refute it at one input. -/
def fnExactBlendWrong : ChangeSpec := { name := "fnExactBlend", fn := fun _ => fun
  | [d1, d2, d3] => { results := [.lit (.bool false)], args := [d1, d2, d3] }
  | _ => none }
def FnExactBlendWrongFalsely : Prop := fnExactBlendRow.holds Try.pinned (OpenSpec.ofChange fnExactBlendWrong)

/-- 'laws.FnExactMulTurn': WHATEVER THE INPUT: true; the input reads as it did. -/
def fnExactMulTurnSpec : ChangeSpec := { name := "fnExactMulTurn", fn := fun _ => fun
  | [d1, d2] => { results := [.lit (.bool true)], args := [d1, d2] }
  | _ => none }
def fnExactMulTurnRow : OpenClaim := { program := "ytijmnkfmkpejmaa", sum := "3b1bad646b608ef19cb137b3cc68c7675aee6a8cf39ae46bdbd30b537b3a0250", func := "loop.example/g00064/laws.FnExactMulTurn", spec := "fnExactMulTurn", inPlace := ["math.Float64bits", "math.Float64frombits"], unfollowed := true, recurses := true, apart := false }
def FnExactMulTurnSaid : Prop := fnExactMulTurnRow.holds Try.pinned (OpenSpec.ofChange fnExactMulTurnSpec)

/-- ITS FALSE NEIGHBOUR: 'it returns false'. Refute it at one input. -/
def fnExactMulTurnWrong : ChangeSpec := { name := "fnExactMulTurn", fn := fun _ => fun
  | [d1, d2] => { results := [.lit (.bool false)], args := [d1, d2] }
  | _ => none }
def FnExactMulTurnWrongFalsely : Prop := fnExactMulTurnRow.holds Try.pinned (OpenSpec.ofChange fnExactMulTurnWrong)

/-- 'laws.FnExactDivTurn': WHATEVER THE INPUT: true; the input reads as it did. -/
def fnExactDivTurnSpec : ChangeSpec := { name := "fnExactDivTurn", fn := fun _ => fun
  | [d1, d2] => { results := [.lit (.bool true)], args := [d1, d2] }
  | _ => none }
def fnExactDivTurnRow : OpenClaim := { program := "ytijmnkfmkpejmaa", sum := "3b1bad646b608ef19cb137b3cc68c7675aee6a8cf39ae46bdbd30b537b3a0250", func := "loop.example/g00064/laws.FnExactDivTurn", spec := "fnExactDivTurn", inPlace := ["math.Float64bits", "math.Float64frombits"], unfollowed := true, recurses := true, apart := false }
def FnExactDivTurnSaid : Prop := fnExactDivTurnRow.holds Try.pinned (OpenSpec.ofChange fnExactDivTurnSpec)

/-- ITS FALSE NEIGHBOUR: 'it returns false'. Refute it at one input. -/
def fnExactDivTurnWrong : ChangeSpec := { name := "fnExactDivTurn", fn := fun _ => fun
  | [d1, d2] => { results := [.lit (.bool false)], args := [d1, d2] }
  | _ => none }
def FnExactDivTurnWrongFalsely : Prop := fnExactDivTurnRow.holds Try.pinned (OpenSpec.ofChange fnExactDivTurnWrong)

/-- 'laws.FnExactSumInOrder': WHATEVER THE INPUT: true; the input reads as it did. -/
def fnExactSumInOrderSpec : ChangeSpec := { name := "fnExactSumInOrder", fn := fun _ => fun
  | [d] => { results := [.lit (.bool true)], args := [d] }
  | _ => none }
def fnExactSumInOrderRow : OpenClaim := { program := "ytijmnkfmkpejmaa", sum := "3b1bad646b608ef19cb137b3cc68c7675aee6a8cf39ae46bdbd30b537b3a0250", func := "loop.example/g00064/laws.FnExactSumInOrder", spec := "fnExactSumInOrder", inPlace := ["math.Float64bits", "math.Float64frombits"], unfollowed := true, recurses := true, apart := false }
def FnExactSumInOrderSaid : Prop := fnExactSumInOrderRow.holds Try.pinned (OpenSpec.ofChange fnExactSumInOrderSpec)

/-- ITS FALSE NEIGHBOUR: 'it returns false'. Refute it at one input. -/
def fnExactSumInOrderWrong : ChangeSpec := { name := "fnExactSumInOrder", fn := fun _ => fun
  | [d] => { results := [.lit (.bool false)], args := [d] }
  | _ => none }
def FnExactSumInOrderWrongFalsely : Prop := fnExactSumInOrderRow.holds Try.pinned (OpenSpec.ofChange fnExactSumInOrderWrong)

/-- 'laws.FnExactMeanOfPresent': WHATEVER THE INPUT: true; the input reads as it did. -/
def fnExactMeanOfPresentSpec : ChangeSpec := { name := "fnExactMeanOfPresent", fn := fun _ => fun
  | [d] => { results := [.lit (.bool true)], args := [d] }
  | _ => none }
def fnExactMeanOfPresentRow : OpenClaim := { program := "ytijmnkfmkpejmaa", sum := "3b1bad646b608ef19cb137b3cc68c7675aee6a8cf39ae46bdbd30b537b3a0250", func := "loop.example/g00064/laws.FnExactMeanOfPresent", spec := "fnExactMeanOfPresent", inPlace := ["math.Float64bits", "math.Float64frombits"], unfollowed := true, recurses := true, apart := false }
def FnExactMeanOfPresentSaid : Prop := fnExactMeanOfPresentRow.holds Try.pinned (OpenSpec.ofChange fnExactMeanOfPresentSpec)

/-- ITS FALSE NEIGHBOUR: 'it returns false'. Refute it at one input. -/
def fnExactMeanOfPresentWrong : ChangeSpec := { name := "fnExactMeanOfPresent", fn := fun _ => fun
  | [d] => { results := [.lit (.bool false)], args := [d] }
  | _ => none }
def FnExactMeanOfPresentWrongFalsely : Prop := fnExactMeanOfPresentRow.holds Try.pinned (OpenSpec.ofChange fnExactMeanOfPresentWrong)

/- THE SECOND FORM. 'bulk': how many values and letters a reading holds, each counted each time it is reached (what is shared counts as often as it is met; a slice's spare places count too). A statement '..UptoSaid' is the law's where the arguments, and the package variables that the reading takes, are together of bulk at most 1048576: NARROWER than '..Said'. Prove '..Said' where nothing that the law and all that it calls make is longer than what came in: it says more and counts as full. Else prove '..UptoSaid'. A law counts once. -/
mutual
def uptoBulk {H : Type} : DataW H → Nat
  | .lit (.string bytes) => bytes.length + 1
  | .lit _ => 1
  | .nil => 1
  | .ptr d => uptoBulk d + 1
  | .slice elems spare => uptoBulkAll elems + uptoBulkAll spare + 1
  | .agg parts => uptoBulkAll parts + 1
  | .iface _ d => uptoBulk d + 1
  | .map entries => uptoBulkEntries entries + 1
  | .held _ => 1
def uptoBulkAll {H : Type} : List (DataW H) → Nat
  | [] => 0
  | d :: r => uptoBulk d + uptoBulkAll r
def uptoBulkEntries {H : Type} : List (Lit × DataW H) → Nat
  | [] => 0
  | x :: r => uptoBulkEntry x + uptoBulkEntries r
def uptoBulkEntry {H : Type} : Lit × DataW H → Nat
  | (.string bytes, d) => bytes.length + uptoBulk d + 1
  | (_, d) => uptoBulk d + 1
 end
def uptoSmall : (H : Type) → List (DataW H) → Bool := fun _ ds => decide (uptoBulkAll ds ≤ 1048576)
def OpenSpec.upto (s : _root_.Go.ChangeSpec) : _root_.Go.OpenSpec := { _root_.Go.OpenSpec.ofChange s with cond := some uptoSmall }

/-- 'laws.FnExactRealOrder', WHERE WHAT IT READS IS OF BULK AT MOST 1048576: true; the input reads as it did. -/
def fnExactRealOrderUptoRow : OpenClaim := { program := "ytijmnkfmkpejmaa", sum := "3b1bad646b608ef19cb137b3cc68c7675aee6a8cf39ae46bdbd30b537b3a0250", func := "loop.example/g00064/laws.FnExactRealOrder", spec := "fnExactRealOrder", apart := false, narrowed := true }
def FnExactRealOrderUptoSaid : Prop := fnExactRealOrderUptoRow.holds Try.pinned (OpenSpec.upto fnExactRealOrderSpec)

/-- 'laws.FnExactGoodReal', WHERE WHAT IT READS IS OF BULK AT MOST 1048576: true; the input reads as it did. -/
def fnExactGoodRealUptoRow : OpenClaim := { program := "ytijmnkfmkpejmaa", sum := "3b1bad646b608ef19cb137b3cc68c7675aee6a8cf39ae46bdbd30b537b3a0250", func := "loop.example/g00064/laws.FnExactGoodReal", spec := "fnExactGoodReal", inPlace := ["math.Float64bits", "math.Float64frombits"], unfollowed := true, recurses := true, apart := false, narrowed := true }
def FnExactGoodRealUptoSaid : Prop := fnExactGoodRealUptoRow.holds Try.pinned (OpenSpec.upto fnExactGoodRealSpec)

/-- 'laws.FnExactToShort', WHERE WHAT IT READS IS OF BULK AT MOST 1048576: true; the input reads as it did. -/
def fnExactToShortUptoRow : OpenClaim := { program := "ytijmnkfmkpejmaa", sum := "3b1bad646b608ef19cb137b3cc68c7675aee6a8cf39ae46bdbd30b537b3a0250", func := "loop.example/g00064/laws.FnExactToShort", spec := "fnExactToShort", inPlace := ["math.Float64bits", "math.Float64frombits", "math.Float32bits"], unfollowed := true, recurses := true, apart := false, narrowed := true }
def FnExactToShortUptoSaid : Prop := fnExactToShortUptoRow.holds Try.pinned (OpenSpec.upto fnExactToShortSpec)

/-- 'laws.FnExactOfShort', WHERE WHAT IT READS IS OF BULK AT MOST 1048576: true; the input reads as it did. -/
def fnExactOfShortUptoRow : OpenClaim := { program := "ytijmnkfmkpejmaa", sum := "3b1bad646b608ef19cb137b3cc68c7675aee6a8cf39ae46bdbd30b537b3a0250", func := "loop.example/g00064/laws.FnExactOfShort", spec := "fnExactOfShort", inPlace := ["math.Float32frombits", "math.Float64bits", "math.Float64frombits"], unfollowed := true, recurses := true, apart := false, narrowed := true }
def FnExactOfShortUptoSaid : Prop := fnExactOfShortUptoRow.holds Try.pinned (OpenSpec.upto fnExactOfShortSpec)

/-- 'laws.FnExactBlend', WHERE WHAT IT READS IS OF BULK AT MOST 1048576: true; the input reads as it did. -/
def fnExactBlendUptoRow : OpenClaim := { program := "ytijmnkfmkpejmaa", sum := "3b1bad646b608ef19cb137b3cc68c7675aee6a8cf39ae46bdbd30b537b3a0250", func := "loop.example/g00064/laws.FnExactBlend", spec := "fnExactBlend", inPlace := ["math.Float64bits", "math.Float64frombits"], unfollowed := true, recurses := true, apart := false, narrowed := true }
def FnExactBlendUptoSaid : Prop := fnExactBlendUptoRow.holds Try.pinned (OpenSpec.upto fnExactBlendSpec)

/-- 'laws.FnExactMulTurn', WHERE WHAT IT READS IS OF BULK AT MOST 1048576: true; the input reads as it did. -/
def fnExactMulTurnUptoRow : OpenClaim := { program := "ytijmnkfmkpejmaa", sum := "3b1bad646b608ef19cb137b3cc68c7675aee6a8cf39ae46bdbd30b537b3a0250", func := "loop.example/g00064/laws.FnExactMulTurn", spec := "fnExactMulTurn", inPlace := ["math.Float64bits", "math.Float64frombits"], unfollowed := true, recurses := true, apart := false, narrowed := true }
def FnExactMulTurnUptoSaid : Prop := fnExactMulTurnUptoRow.holds Try.pinned (OpenSpec.upto fnExactMulTurnSpec)

/-- 'laws.FnExactDivTurn', WHERE WHAT IT READS IS OF BULK AT MOST 1048576: true; the input reads as it did. -/
def fnExactDivTurnUptoRow : OpenClaim := { program := "ytijmnkfmkpejmaa", sum := "3b1bad646b608ef19cb137b3cc68c7675aee6a8cf39ae46bdbd30b537b3a0250", func := "loop.example/g00064/laws.FnExactDivTurn", spec := "fnExactDivTurn", inPlace := ["math.Float64bits", "math.Float64frombits"], unfollowed := true, recurses := true, apart := false, narrowed := true }
def FnExactDivTurnUptoSaid : Prop := fnExactDivTurnUptoRow.holds Try.pinned (OpenSpec.upto fnExactDivTurnSpec)

/-- 'laws.FnExactSumInOrder', WHERE WHAT IT READS IS OF BULK AT MOST 1048576: true; the input reads as it did. -/
def fnExactSumInOrderUptoRow : OpenClaim := { program := "ytijmnkfmkpejmaa", sum := "3b1bad646b608ef19cb137b3cc68c7675aee6a8cf39ae46bdbd30b537b3a0250", func := "loop.example/g00064/laws.FnExactSumInOrder", spec := "fnExactSumInOrder", inPlace := ["math.Float64bits", "math.Float64frombits"], unfollowed := true, recurses := true, apart := false, narrowed := true }
def FnExactSumInOrderUptoSaid : Prop := fnExactSumInOrderUptoRow.holds Try.pinned (OpenSpec.upto fnExactSumInOrderSpec)

/-- 'laws.FnExactMeanOfPresent', WHERE WHAT IT READS IS OF BULK AT MOST 1048576: true; the input reads as it did. -/
def fnExactMeanOfPresentUptoRow : OpenClaim := { program := "ytijmnkfmkpejmaa", sum := "3b1bad646b608ef19cb137b3cc68c7675aee6a8cf39ae46bdbd30b537b3a0250", func := "loop.example/g00064/laws.FnExactMeanOfPresent", spec := "fnExactMeanOfPresent", inPlace := ["math.Float64bits", "math.Float64frombits"], unfollowed := true, recurses := true, apart := false, narrowed := true }
def FnExactMeanOfPresentUptoSaid : Prop := fnExactMeanOfPresentUptoRow.holds Try.pinned (OpenSpec.upto fnExactMeanOfPresentSpec)

end Rows
end Go.Proofs.Ytijmnkfmkpejmaa
