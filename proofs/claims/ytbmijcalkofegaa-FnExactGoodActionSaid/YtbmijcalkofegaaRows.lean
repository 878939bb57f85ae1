/-
  No cell of these rows narrows 'for every input' (looked for: loops, veiled, ifaces, maps, wideKeys, modest, calm, conditions, laid).
  DERIVED. THE GIVEN ROWS OF THIS SEAT. 12 by the template 'for every input the law returns true; each argument reads behind the call as it read before'; 0 by the template 'total and deterministic' (their statements: YtbmijcalkofegaaTotals.lean).
  GIVEN WITH THE SEED: the statements are not yours to turn. If you find one false, say at which input.
  Laid BY PROGRAM, IN A SANDBOX (cutbox-rows.mjs): the forced cells as the released guide's own fill.sh prints them over the translation 0ce45cc4ebd966dc… (all of the seat's roots in one cut). By AI agents, Wed Nov 11 2026. No macro, syntax, notation, axiom, sorry.
-/
import Derived.Test.YtbmijcalkofegaaChecked
import GoSem.Claim
import GoSem.ClaimJoined
import GoSem.ClaimMapViews
import Derived.JoinedTies
import Derived.KernelRfl
namespace Go.Proofs.Ytbmijcalkofegaa
/- THE CELL 'sum', in the pinned program and in every row, IS THE sha256 OF THE DUMP (.gsa) THAT YtbmijcalkofegaaProg.lean LOADS. Nothing in Lean hashes anything: it is a label: what it is worth is what the hold of that sum in a sandbox is worth. -/
noncomputable def Try.pinned : Pinned := { name := "ytbmijcalkofegaa", sum := "0ce45cc4ebd966dcddf9da18bd6f9d3d7a4b2036f443af8265a122c95825a93a", checked := Try.checked }
namespace Rows
def none {H : Type} : Left H := { results := [], args := [] }

/-- 'laws.FnExactConstants': WHATEVER THE INPUT: true; the input reads as it did. -/
def fnExactConstantsSpec : ChangeSpec := { name := "fnExactConstants", fn := fun _ => fun
  | [] => { results := [.lit (.bool true)], args := [] }
  | _ => none }
def fnExactConstantsRow : OpenClaim := { program := "ytbmijcalkofegaa", sum := "0ce45cc4ebd966dcddf9da18bd6f9d3d7a4b2036f443af8265a122c95825a93a", func := "loop.example/g00064/laws.FnExactConstants", spec := "fnExactConstants", apart := false }
def FnExactConstantsSaid : Prop := fnExactConstantsRow.holds Try.pinned (OpenSpec.ofChange fnExactConstantsSpec)

/-- ITS FALSE NEIGHBOUR: 'it returns false'. Refute it at one input. -/
def fnExactConstantsWrong : ChangeSpec := { name := "fnExactConstants", fn := fun _ => fun
  | [] => { results := [.lit (.bool false)], args := [] }
  | _ => none }
def FnExactConstantsWrongFalsely : Prop := fnExactConstantsRow.holds Try.pinned (OpenSpec.ofChange fnExactConstantsWrong)

/-- 'laws.FnExactGoodFixed': WHATEVER THE INPUT: true; the input reads as it did. -/
def fnExactGoodFixedSpec : ChangeSpec := { name := "fnExactGoodFixed", fn := fun _ => fun
  | [d] => { results := [.lit (.bool true)], args := [d] }
  | _ => none }
def fnExactGoodFixedRow : OpenClaim := { program := "ytbmijcalkofegaa", sum := "0ce45cc4ebd966dcddf9da18bd6f9d3d7a4b2036f443af8265a122c95825a93a", func := "loop.example/g00064/laws.FnExactGoodFixed", spec := "fnExactGoodFixed", apart := false }
def FnExactGoodFixedSaid : Prop := fnExactGoodFixedRow.holds Try.pinned (OpenSpec.ofChange fnExactGoodFixedSpec)

/-- ITS FALSE NEIGHBOUR: 'it returns false'. Refute it at one input. -/
def fnExactGoodFixedWrong : ChangeSpec := { name := "fnExactGoodFixed", fn := fun _ => fun
  | [d] => { results := [.lit (.bool false)], args := [d] }
  | _ => none }
def FnExactGoodFixedWrongFalsely : Prop := fnExactGoodFixedRow.holds Try.pinned (OpenSpec.ofChange fnExactGoodFixedWrong)

/-- 'laws.FnExactNextCoin': WHATEVER THE INPUT: true; the input reads as it did. -/
def fnExactNextCoinSpec : ChangeSpec := { name := "fnExactNextCoin", fn := fun _ => fun
  | [d] => { results := [.lit (.bool true)], args := [d] }
  | _ => none }
def fnExactNextCoinRow : OpenClaim := { program := "ytbmijcalkofegaa", sum := "0ce45cc4ebd966dcddf9da18bd6f9d3d7a4b2036f443af8265a122c95825a93a", func := "loop.example/g00064/laws.FnExactNextCoin", spec := "fnExactNextCoin", apart := false }
def FnExactNextCoinSaid : Prop := fnExactNextCoinRow.holds Try.pinned (OpenSpec.ofChange fnExactNextCoinSpec)

/-- ITS FALSE NEIGHBOUR: 'it returns false'. Refute it at one input. -/
def fnExactNextCoinWrong : ChangeSpec := { name := "fnExactNextCoin", fn := fun _ => fun
  | [d] => { results := [.lit (.bool false)], args := [d] }
  | _ => none }
def FnExactNextCoinWrongFalsely : Prop := fnExactNextCoinRow.holds Try.pinned (OpenSpec.ofChange fnExactNextCoinWrong)

/-- 'laws.FnExactGoodShape': WHATEVER THE INPUT: true; the input reads as it did. -/
def fnExactGoodShapeSpec : ChangeSpec := { name := "fnExactGoodShape", fn := fun _ => fun
  | [d] => { results := [.lit (.bool true)], args := [d] }
  | _ => none }
def fnExactGoodShapeRow : OpenClaim := { program := "ytbmijcalkofegaa", sum := "0ce45cc4ebd966dcddf9da18bd6f9d3d7a4b2036f443af8265a122c95825a93a", func := "loop.example/g00064/laws.FnExactGoodShape", spec := "fnExactGoodShape", apart := false }
def FnExactGoodShapeSaid : Prop := fnExactGoodShapeRow.holds Try.pinned (OpenSpec.ofChange fnExactGoodShapeSpec)

/-- ITS FALSE NEIGHBOUR: 'it returns false'. Refute it at one input. -/
def fnExactGoodShapeWrong : ChangeSpec := { name := "fnExactGoodShape", fn := fun _ => fun
  | [d] => { results := [.lit (.bool false)], args := [d] }
  | _ => none }
def FnExactGoodShapeWrongFalsely : Prop := fnExactGoodShapeRow.holds Try.pinned (OpenSpec.ofChange fnExactGoodShapeWrong)

/-- 'laws.FnExactGoodName': WHATEVER THE INPUT: true; the input reads as it did. -/
def fnExactGoodNameSpec : ChangeSpec := { name := "fnExactGoodName", fn := fun _ => fun
  | [d] => { results := [.lit (.bool true)], args := [d] }
  | _ => none }
def fnExactGoodNameRow : OpenClaim := { program := "ytbmijcalkofegaa", sum := "0ce45cc4ebd966dcddf9da18bd6f9d3d7a4b2036f443af8265a122c95825a93a", func := "loop.example/g00064/laws.FnExactGoodName", spec := "fnExactGoodName", apart := false }
def FnExactGoodNameSaid : Prop := fnExactGoodNameRow.holds Try.pinned (OpenSpec.ofChange fnExactGoodNameSpec)

/-- ITS FALSE NEIGHBOUR: 'it returns false'. Refute it at one input. -/
def fnExactGoodNameWrong : ChangeSpec := { name := "fnExactGoodName", fn := fun _ => fun
  | [d] => { results := [.lit (.bool false)], args := [d] }
  | _ => none }
def FnExactGoodNameWrongFalsely : Prop := fnExactGoodNameRow.holds Try.pinned (OpenSpec.ofChange fnExactGoodNameWrong)

/-- 'laws.FnExactSinOf': WHATEVER THE INPUT: true; the input reads as it did. -/
def fnExactSinOfSpec : ChangeSpec := { name := "fnExactSinOf", fn := fun _ => fun
  | [d] => { results := [.lit (.bool true)], args := [d] }
  | _ => none }
def fnExactSinOfRow : OpenClaim := { program := "ytbmijcalkofegaa", sum := "0ce45cc4ebd966dcddf9da18bd6f9d3d7a4b2036f443af8265a122c95825a93a", func := "loop.example/g00064/laws.FnExactSinOf", spec := "fnExactSinOf", recurses := true, apart := false }
def FnExactSinOfSaid : Prop := fnExactSinOfRow.holds Try.pinned (OpenSpec.ofChange fnExactSinOfSpec)

/-- ITS FALSE NEIGHBOUR: 'it returns false'. Refute it at one input. -/
def fnExactSinOfWrong : ChangeSpec := { name := "fnExactSinOf", fn := fun _ => fun
  | [d] => { results := [.lit (.bool false)], args := [d] }
  | _ => none }
def FnExactSinOfWrongFalsely : Prop := fnExactSinOfRow.holds Try.pinned (OpenSpec.ofChange fnExactSinOfWrong)

/-- 'laws.FnExactCosOf': WHATEVER THE INPUT: true; the input reads as it did. -/
def fnExactCosOfSpec : ChangeSpec := { name := "fnExactCosOf", fn := fun _ => fun
  | [d] => { results := [.lit (.bool true)], args := [d] }
  | _ => none }
def fnExactCosOfRow : OpenClaim := { program := "ytbmijcalkofegaa", sum := "0ce45cc4ebd966dcddf9da18bd6f9d3d7a4b2036f443af8265a122c95825a93a", func := "loop.example/g00064/laws.FnExactCosOf", spec := "fnExactCosOf", recurses := true, apart := false }
def FnExactCosOfSaid : Prop := fnExactCosOfRow.holds Try.pinned (OpenSpec.ofChange fnExactCosOfSpec)

/-- ITS FALSE NEIGHBOUR: 'it returns false'. Refute it at one input. -/
def fnExactCosOfWrong : ChangeSpec := { name := "fnExactCosOf", fn := fun _ => fun
  | [d] => { results := [.lit (.bool false)], args := [d] }
  | _ => none }
def FnExactCosOfWrongFalsely : Prop := fnExactCosOfRow.holds Try.pinned (OpenSpec.ofChange fnExactCosOfWrong)

/-- 'laws.FnExactBounds': WHATEVER THE INPUT: true; the input reads as it did. -/
def fnExactBoundsSpec : ChangeSpec := { name := "fnExactBounds", fn := fun _ => fun
  | [d] => { results := [.lit (.bool true)], args := [d] }
  | _ => none }
def fnExactBoundsRow : OpenClaim := { program := "ytbmijcalkofegaa", sum := "0ce45cc4ebd966dcddf9da18bd6f9d3d7a4b2036f443af8265a122c95825a93a", func := "loop.example/g00064/laws.FnExactBounds", spec := "fnExactBounds", apart := false }
def FnExactBoundsSaid : Prop := fnExactBoundsRow.holds Try.pinned (OpenSpec.ofChange fnExactBoundsSpec)

/-- ITS FALSE NEIGHBOUR: 'it returns false'. Refute it at one input. -/
def fnExactBoundsWrong : ChangeSpec := { name := "fnExactBounds", fn := fun _ => fun
  | [d] => { results := [.lit (.bool false)], args := [d] }
  | _ => none }
def FnExactBoundsWrongFalsely : Prop := fnExactBoundsRow.holds Try.pinned (OpenSpec.ofChange fnExactBoundsWrong)

/-- 'laws.FnExactFixRoot': WHATEVER THE INPUT: true; the input reads as it did. -/
def fnExactFixRootSpec : ChangeSpec := { name := "fnExactFixRoot", fn := fun _ => fun
  | [d] => { results := [.lit (.bool true)], args := [d] }
  | _ => none }
def fnExactFixRootRow : OpenClaim := { program := "ytbmijcalkofegaa", sum := "0ce45cc4ebd966dcddf9da18bd6f9d3d7a4b2036f443af8265a122c95825a93a", func := "loop.example/g00064/laws.FnExactFixRoot", spec := "fnExactFixRoot", unfollowed := true, recurses := true, apart := false }
def FnExactFixRootSaid : Prop := fnExactFixRootRow.holds Try.pinned (OpenSpec.ofChange fnExactFixRootSpec)

/-- ITS FALSE NEIGHBOUR: 'it returns false'. Refute it at one input. -/
def fnExactFixRootWrong : ChangeSpec := { name := "fnExactFixRoot", fn := fun _ => fun
  | [d] => { results := [.lit (.bool false)], args := [d] }
  | _ => none }
def FnExactFixRootWrongFalsely : Prop := fnExactFixRootRow.holds Try.pinned (OpenSpec.ofChange fnExactFixRootWrong)

/-- 'laws.FnExactHasPlace': WHATEVER THE INPUT: true; the input reads as it did. -/
def fnExactHasPlaceSpec : ChangeSpec := { name := "fnExactHasPlace", fn := fun _ => fun
  | [d1, d2, d3] => { results := [.lit (.bool true)], args := [d1, d2, d3] }
  | _ => none }
def fnExactHasPlaceRow : OpenClaim := { program := "ytbmijcalkofegaa", sum := "0ce45cc4ebd966dcddf9da18bd6f9d3d7a4b2036f443af8265a122c95825a93a", func := "loop.example/g00064/laws.FnExactHasPlace", spec := "fnExactHasPlace", apart := false }
def FnExactHasPlaceSaid : Prop := fnExactHasPlaceRow.holds Try.pinned (OpenSpec.ofChange fnExactHasPlaceSpec)

/-- ITS FALSE NEIGHBOUR: 'it returns false'. Refute it at one input. -/
def fnExactHasPlaceWrong : ChangeSpec := { name := "fnExactHasPlace", fn := fun _ => fun
  | [d1, d2, d3] => { results := [.lit (.bool false)], args := [d1, d2, d3] }
  | _ => none }
def FnExactHasPlaceWrongFalsely : Prop := fnExactHasPlaceRow.holds Try.pinned (OpenSpec.ofChange fnExactHasPlaceWrong)

/-- 'laws.FnExactGoodAction': WHATEVER THE INPUT: true; the input reads as it did. -/
def fnExactGoodActionSpec : ChangeSpec := { name := "fnExactGoodAction", fn := fun _ => fun
  | [d] => { results := [.lit (.bool true)], args := [d] }
  | _ => none }
def fnExactGoodActionRow : OpenClaim := { program := "ytbmijcalkofegaa", sum := "0ce45cc4ebd966dcddf9da18bd6f9d3d7a4b2036f443af8265a122c95825a93a", func := "loop.example/g00064/laws.FnExactGoodAction", spec := "fnExactGoodAction", unfollowed := true, recurses := true, apart := false }
def FnExactGoodActionSaid : Prop := fnExactGoodActionRow.holds Try.pinned (OpenSpec.ofChange fnExactGoodActionSpec)

/-- ITS FALSE NEIGHBOUR: 'it returns false'. Refute it at one input. -/
def fnExactGoodActionWrong : ChangeSpec := { name := "fnExactGoodAction", fn := fun _ => fun
  | [d] => { results := [.lit (.bool false)], args := [d] }
  | _ => none }
def FnExactGoodActionWrongFalsely : Prop := fnExactGoodActionRow.holds Try.pinned (OpenSpec.ofChange fnExactGoodActionWrong)

/-- 'laws.FnExactBackSpot': WHATEVER THE INPUT: true; the input reads as it did. -/
def fnExactBackSpotSpec : ChangeSpec := { name := "fnExactBackSpot", fn := fun _ => fun
  | [d] => { results := [.lit (.bool true)], args := [d] }
  | _ => none }
def fnExactBackSpotRow : OpenClaim := { program := "ytbmijcalkofegaa", sum := "0ce45cc4ebd966dcddf9da18bd6f9d3d7a4b2036f443af8265a122c95825a93a", func := "loop.example/g00064/laws.FnExactBackSpot", spec := "fnExactBackSpot", apart := false }
def FnExactBackSpotSaid : Prop := fnExactBackSpotRow.holds Try.pinned (OpenSpec.ofChange fnExactBackSpotSpec)

/-- ITS FALSE NEIGHBOUR: 'it returns false'. Refute it at one input. -/
def fnExactBackSpotWrong : ChangeSpec := { name := "fnExactBackSpot", fn := fun _ => fun
  | [d] => { results := [.lit (.bool false)], args := [d] }
  | _ => none }
def FnExactBackSpotWrongFalsely : Prop := fnExactBackSpotRow.holds Try.pinned (OpenSpec.ofChange fnExactBackSpotWrong)

/- THE SECOND FORM. 'bulk': how many values and letters a reading holds, each counted each time it is reached (what is shared counts as often as it is met; a slice's spare places count too). A statement '..UptoSaid' is the law's where the arguments, and the package variables that the reading takes, are together of bulk at most 1048576: NARROWER than '..Said'. Prove '..Said' where nothing that the law and all that it calls make is longer than what came in: it says more and counts as full. Else prove '..UptoSaid'. A law counts once. -/
mutual
def uptoBulk {H : Type} : DataW H → Nat
  | .lit (.string bytes) => bytes.length + 1
  | .lit _ => 1
  | .nil => 1
  | .ptr d => uptoBulk d + 1
  | .slice elems spare => uptoBulkAll elems + uptoBulkAll spare + 1
  | .agg parts => uptoBulkAll parts + 1
  | .iface _ d => uptoBulk d + 1
  | .map entries => uptoBulkEntries entries + 1
  | .held _ => 1
def uptoBulkAll {H : Type} : List (DataW H) → Nat
  | [] => 0
  | d :: r => uptoBulk d + uptoBulkAll r
def uptoBulkEntries {H : Type} : List (Lit × DataW H) → Nat
  | [] => 0
  | x :: r => uptoBulkEntry x + uptoBulkEntries r
def uptoBulkEntry {H : Type} : Lit × DataW H → Nat
  | (.string bytes, d) => bytes.length + uptoBulk d + 1
  | (_, d) => uptoBulk d + 1
 end
def uptoSmall : (H : Type) → List (DataW H) → Bool := fun _ ds => decide (uptoBulkAll ds ≤ 1048576)
def OpenSpec.upto (s : _root_.Go.ChangeSpec) : _root_.Go.OpenSpec := { _root_.Go.OpenSpec.ofChange s with cond := some uptoSmall }

/-- 'laws.FnExactConstants', WHERE WHAT IT READS IS OF BULK AT MOST 1048576: true; the input reads as it did. -/
def fnExactConstantsUptoRow : OpenClaim := { program := "ytbmijcalkofegaa", sum := "0ce45cc4ebd966dcddf9da18bd6f9d3d7a4b2036f443af8265a122c95825a93a", func := "loop.example/g00064/laws.FnExactConstants", spec := "fnExactConstants", apart := false, narrowed := true }
def FnExactConstantsUptoSaid : Prop := fnExactConstantsUptoRow.holds Try.pinned (OpenSpec.upto fnExactConstantsSpec)

/-- 'laws.FnExactGoodFixed', WHERE WHAT IT READS IS OF BULK AT MOST 1048576: true; the input reads as it did. -/
def fnExactGoodFixedUptoRow : OpenClaim := { program := "ytbmijcalkofegaa", sum := "0ce45cc4ebd966dcddf9da18bd6f9d3d7a4b2036f443af8265a122c95825a93a", func := "loop.example/g00064/laws.FnExactGoodFixed", spec := "fnExactGoodFixed", apart := false, narrowed := true }
def FnExactGoodFixedUptoSaid : Prop := fnExactGoodFixedUptoRow.holds Try.pinned (OpenSpec.upto fnExactGoodFixedSpec)

/-- 'laws.FnExactNextCoin', WHERE WHAT IT READS IS OF BULK AT MOST 1048576: true; the input reads as it did. -/
def fnExactNextCoinUptoRow : OpenClaim := { program := "ytbmijcalkofegaa", sum := "0ce45cc4ebd966dcddf9da18bd6f9d3d7a4b2036f443af8265a122c95825a93a", func := "loop.example/g00064/laws.FnExactNextCoin", spec := "fnExactNextCoin", apart := false, narrowed := true }
def FnExactNextCoinUptoSaid : Prop := fnExactNextCoinUptoRow.holds Try.pinned (OpenSpec.upto fnExactNextCoinSpec)

/-- 'laws.FnExactGoodShape', WHERE WHAT IT READS IS OF BULK AT MOST 1048576: true; the input reads as it did. -/
def fnExactGoodShapeUptoRow : OpenClaim := { program := "ytbmijcalkofegaa", sum := "0ce45cc4ebd966dcddf9da18bd6f9d3d7a4b2036f443af8265a122c95825a93a", func := "loop.example/g00064/laws.FnExactGoodShape", spec := "fnExactGoodShape", apart := false, narrowed := true }
def FnExactGoodShapeUptoSaid : Prop := fnExactGoodShapeUptoRow.holds Try.pinned (OpenSpec.upto fnExactGoodShapeSpec)

/-- 'laws.FnExactGoodName', WHERE WHAT IT READS IS OF BULK AT MOST 1048576: true; the input reads as it did. -/
def fnExactGoodNameUptoRow : OpenClaim := { program := "ytbmijcalkofegaa", sum := "0ce45cc4ebd966dcddf9da18bd6f9d3d7a4b2036f443af8265a122c95825a93a", func := "loop.example/g00064/laws.FnExactGoodName", spec := "fnExactGoodName", apart := false, narrowed := true }
def FnExactGoodNameUptoSaid : Prop := fnExactGoodNameUptoRow.holds Try.pinned (OpenSpec.upto fnExactGoodNameSpec)

/-- 'laws.FnExactSinOf', WHERE WHAT IT READS IS OF BULK AT MOST 1048576: true; the input reads as it did. -/
def fnExactSinOfUptoRow : OpenClaim := { program := "ytbmijcalkofegaa", sum := "0ce45cc4ebd966dcddf9da18bd6f9d3d7a4b2036f443af8265a122c95825a93a", func := "loop.example/g00064/laws.FnExactSinOf", spec := "fnExactSinOf", recurses := true, apart := false, narrowed := true }
def FnExactSinOfUptoSaid : Prop := fnExactSinOfUptoRow.holds Try.pinned (OpenSpec.upto fnExactSinOfSpec)

/-- 'laws.FnExactCosOf', WHERE WHAT IT READS IS OF BULK AT MOST 1048576: true; the input reads as it did. -/
def fnExactCosOfUptoRow : OpenClaim := { program := "ytbmijcalkofegaa", sum := "0ce45cc4ebd966dcddf9da18bd6f9d3d7a4b2036f443af8265a122c95825a93a", func := "loop.example/g00064/laws.FnExactCosOf", spec := "fnExactCosOf", recurses := true, apart := false, narrowed := true }
def FnExactCosOfUptoSaid : Prop := fnExactCosOfUptoRow.holds Try.pinned (OpenSpec.upto fnExactCosOfSpec)

/-- 'laws.FnExactBounds', WHERE WHAT IT READS IS OF BULK AT MOST 1048576: true; the input reads as it did. -/
def fnExactBoundsUptoRow : OpenClaim := { program := "ytbmijcalkofegaa", sum := "0ce45cc4ebd966dcddf9da18bd6f9d3d7a4b2036f443af8265a122c95825a93a", func := "loop.example/g00064/laws.FnExactBounds", spec := "fnExactBounds", apart := false, narrowed := true }
def FnExactBoundsUptoSaid : Prop := fnExactBoundsUptoRow.holds Try.pinned (OpenSpec.upto fnExactBoundsSpec)

/-- 'laws.FnExactFixRoot', WHERE WHAT IT READS IS OF BULK AT MOST 1048576: true; the input reads as it did. -/
def fnExactFixRootUptoRow : OpenClaim := { program := "ytbmijcalkofegaa", sum := "0ce45cc4ebd966dcddf9da18bd6f9d3d7a4b2036f443af8265a122c95825a93a", func := "loop.example/g00064/laws.FnExactFixRoot", spec := "fnExactFixRoot", unfollowed := true, recurses := true, apart := false, narrowed := true }
def FnExactFixRootUptoSaid : Prop := fnExactFixRootUptoRow.holds Try.pinned (OpenSpec.upto fnExactFixRootSpec)

/-- 'laws.FnExactHasPlace', WHERE WHAT IT READS IS OF BULK AT MOST 1048576: true; the input reads as it did. -/
def fnExactHasPlaceUptoRow : OpenClaim := { program := "ytbmijcalkofegaa", sum := "0ce45cc4ebd966dcddf9da18bd6f9d3d7a4b2036f443af8265a122c95825a93a", func := "loop.example/g00064/laws.FnExactHasPlace", spec := "fnExactHasPlace", apart := false, narrowed := true }
def FnExactHasPlaceUptoSaid : Prop := fnExactHasPlaceUptoRow.holds Try.pinned (OpenSpec.upto fnExactHasPlaceSpec)

/-- 'laws.FnExactGoodAction', WHERE WHAT IT READS IS OF BULK AT MOST 1048576: true; the input reads as it did. -/
def fnExactGoodActionUptoRow : OpenClaim := { program := "ytbmijcalkofegaa", sum := "0ce45cc4ebd966dcddf9da18bd6f9d3d7a4b2036f443af8265a122c95825a93a", func := "loop.example/g00064/laws.FnExactGoodAction", spec := "fnExactGoodAction", unfollowed := true, recurses := true, apart := false, narrowed := true }
def FnExactGoodActionUptoSaid : Prop := fnExactGoodActionUptoRow.holds Try.pinned (OpenSpec.upto fnExactGoodActionSpec)

/-- 'laws.FnExactBackSpot', WHERE WHAT IT READS IS OF BULK AT MOST 1048576: true; the input reads as it did. -/
def fnExactBackSpotUptoRow : OpenClaim := { program := "ytbmijcalkofegaa", sum := "0ce45cc4ebd966dcddf9da18bd6f9d3d7a4b2036f443af8265a122c95825a93a", func := "loop.example/g00064/laws.FnExactBackSpot", spec := "fnExactBackSpot", apart := false, narrowed := true }
def FnExactBackSpotUptoSaid : Prop := fnExactBackSpotUptoRow.holds Try.pinned (OpenSpec.upto fnExactBackSpotSpec)

end Rows
end Go.Proofs.Ytbmijcalkofegaa
