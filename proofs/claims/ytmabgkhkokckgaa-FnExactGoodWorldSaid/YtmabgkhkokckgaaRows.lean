/-
  No cell of these rows narrows 'for every input' (looked for: loops, veiled, ifaces, maps, wideKeys, modest, calm, conditions, laid).
  DERIVED. THE GIVEN ROWS OF THIS SEAT. 10 by the template 'for every input the law returns true; each argument reads behind the call as it read before'; 0 by the template 'total and deterministic' (their statements: YtmabgkhkokckgaaTotals.lean).
  GIVEN WITH THE SEED: the statements are not yours to turn. If you find one false, say at which input.
  Laid BY PROGRAM, IN A SANDBOX (cutbox-rows.mjs): the forced cells as the released guide's own fill.sh prints them over the translation db57202aff3ec327… (all of the seat's roots in one cut). By AI agents, Wed Nov 11 2026. No macro, syntax, notation, axiom, sorry.
-/
import Derived.Test.YtmabgkhkokckgaaChecked
import GoSem.Claim
import GoSem.ClaimJoined
import GoSem.ClaimMapViews
import Derived.JoinedTies
import Derived.KernelRfl
namespace Go.Proofs.Ytmabgkhkokckgaa
/- THE CELL 'sum', in the pinned program and in every row, IS THE sha256 OF THE DUMP (.gsa) THAT YtmabgkhkokckgaaProg.lean LOADS. Nothing in Lean hashes anything: it is a label: what it is worth is what the hold of that sum in a sandbox is worth. -/
noncomputable def Try.pinned : Pinned := { name := "ytmabgkhkokckgaa", sum := "db57202aff3ec327c7ca0bb1fe1c147d723482d33acc5ddb7677ef9285795e14", checked := Try.checked }
namespace Rows
def none {H : Type} : Left H := { results := [], args := [] }

/-- 'laws.FnExactJoinSpots': WHATEVER THE INPUT: true; the input reads as it did. -/
def fnExactJoinSpotsSpec : ChangeSpec := { name := "fnExactJoinSpots", fn := fun _ => fun
  | [d1, d2] => { results := [.lit (.bool true)], args := [d1, d2] }
  | _ => none }
def fnExactJoinSpotsRow : OpenClaim := { program := "ytmabgkhkokckgaa", sum := "db57202aff3ec327c7ca0bb1fe1c147d723482d33acc5ddb7677ef9285795e14", func := "loop.example/g00064/laws.FnExactJoinSpots", spec := "fnExactJoinSpots", apart := false }
def FnExactJoinSpotsSaid : Prop := fnExactJoinSpotsRow.holds Try.pinned (OpenSpec.ofChange fnExactJoinSpotsSpec)

/-- ITS FALSE NEIGHBOUR: 'it returns false'. Refute it at one input. -/
def fnExactJoinSpotsWrong : ChangeSpec := { name := "fnExactJoinSpots", fn := fun _ => fun
  | [d1, d2] => { results := [.lit (.bool false)], args := [d1, d2] }
  | _ => none }
def FnExactJoinSpotsWrongFalsely : Prop := fnExactJoinSpotsRow.holds Try.pinned (OpenSpec.ofChange fnExactJoinSpotsWrong)

/-- 'laws.FnExactGoodScene': WHATEVER THE INPUT: true; the input reads as it did. -/
def fnExactGoodSceneSpec : ChangeSpec := { name := "fnExactGoodScene", fn := fun _ => fun
  | [d] => { results := [.lit (.bool true)], args := [d] }
  | _ => none }
def fnExactGoodSceneRow : OpenClaim := { program := "ytmabgkhkokckgaa", sum := "db57202aff3ec327c7ca0bb1fe1c147d723482d33acc5ddb7677ef9285795e14", func := "loop.example/g00064/laws.FnExactGoodScene", spec := "fnExactGoodScene", unfollowed := true, recurses := true, apart := false }
def FnExactGoodSceneSaid : Prop := fnExactGoodSceneRow.holds Try.pinned (OpenSpec.ofChange fnExactGoodSceneSpec)

/-- ITS FALSE NEIGHBOUR: 'it returns false'. Refute it at one input. -/
def fnExactGoodSceneWrong : ChangeSpec := { name := "fnExactGoodScene", fn := fun _ => fun
  | [d] => { results := [.lit (.bool false)], args := [d] }
  | _ => none }
def FnExactGoodSceneWrongFalsely : Prop := fnExactGoodSceneRow.holds Try.pinned (OpenSpec.ofChange fnExactGoodSceneWrong)

/-- 'laws.FnExactPathOf': WHATEVER THE INPUT: true; the input reads as it did. -/
def fnExactPathOfSpec : ChangeSpec := { name := "fnExactPathOf", fn := fun _ => fun
  | [d1, d2] => { results := [.lit (.bool true)], args := [d1, d2] }
  | _ => none }
def fnExactPathOfRow : OpenClaim := { program := "ytmabgkhkokckgaa", sum := "db57202aff3ec327c7ca0bb1fe1c147d723482d33acc5ddb7677ef9285795e14", func := "loop.example/g00064/laws.FnExactPathOf", spec := "fnExactPathOf", unfollowed := true, recurses := true, apart := false }
def FnExactPathOfSaid : Prop := fnExactPathOfRow.holds Try.pinned (OpenSpec.ofChange fnExactPathOfSpec)

/-- ITS FALSE NEIGHBOUR: 'it returns false'. Refute it at one input. -/
def fnExactPathOfWrong : ChangeSpec := { name := "fnExactPathOf", fn := fun _ => fun
  | [d1, d2] => { results := [.lit (.bool false)], args := [d1, d2] }
  | _ => none }
def FnExactPathOfWrongFalsely : Prop := fnExactPathOfRow.holds Try.pinned (OpenSpec.ofChange fnExactPathOfWrong)

/-- 'laws.FnExactFindNode': WHATEVER THE INPUT: true; the input reads as it did. -/
def fnExactFindNodeSpec : ChangeSpec := { name := "fnExactFindNode", fn := fun _ => fun
  | [d1, d2] => { results := [.lit (.bool true)], args := [d1, d2] }
  | _ => none }
def fnExactFindNodeRow : OpenClaim := { program := "ytmabgkhkokckgaa", sum := "db57202aff3ec327c7ca0bb1fe1c147d723482d33acc5ddb7677ef9285795e14", func := "loop.example/g00064/laws.FnExactFindNode", spec := "fnExactFindNode", unfollowed := true, recurses := true, apart := false }
def FnExactFindNodeSaid : Prop := fnExactFindNodeRow.holds Try.pinned (OpenSpec.ofChange fnExactFindNodeSpec)

/-- ITS FALSE NEIGHBOUR: 'it returns false'. Refute it at one input. -/
def fnExactFindNodeWrong : ChangeSpec := { name := "fnExactFindNode", fn := fun _ => fun
  | [d1, d2] => { results := [.lit (.bool false)], args := [d1, d2] }
  | _ => none }
def FnExactFindNodeWrongFalsely : Prop := fnExactFindNodeRow.holds Try.pinned (OpenSpec.ofChange fnExactFindNodeWrong)

/-- 'laws.FnExactCutNode': WHATEVER THE INPUT: true; the input reads as it did. -/
def fnExactCutNodeSpec : ChangeSpec := { name := "fnExactCutNode", fn := fun _ => fun
  | [d1, d2] => { results := [.lit (.bool true)], args := [d1, d2] }
  | _ => none }
def fnExactCutNodeRow : OpenClaim := { program := "ytmabgkhkokckgaa", sum := "db57202aff3ec327c7ca0bb1fe1c147d723482d33acc5ddb7677ef9285795e14", func := "loop.example/g00064/laws.FnExactCutNode", spec := "fnExactCutNode", unfollowed := true, recurses := true, apart := false }
def FnExactCutNodeSaid : Prop := fnExactCutNodeRow.holds Try.pinned (OpenSpec.ofChange fnExactCutNodeSpec)

/-- ITS FALSE NEIGHBOUR: 'it returns false'. Refute it at one input. -/
def fnExactCutNodeWrong : ChangeSpec := { name := "fnExactCutNode", fn := fun _ => fun
  | [d1, d2] => { results := [.lit (.bool false)], args := [d1, d2] }
  | _ => none }
def FnExactCutNodeWrongFalsely : Prop := fnExactCutNodeRow.holds Try.pinned (OpenSpec.ofChange fnExactCutNodeWrong)

/-- 'laws.FnExactSpotOf': WHATEVER THE INPUT: true; the input reads as it did. -/
def fnExactSpotOfSpec : ChangeSpec := { name := "fnExactSpotOf", fn := fun _ => fun
  | [d1, d2] => { results := [.lit (.bool true)], args := [d1, d2] }
  | _ => none }
def fnExactSpotOfRow : OpenClaim := { program := "ytmabgkhkokckgaa", sum := "db57202aff3ec327c7ca0bb1fe1c147d723482d33acc5ddb7677ef9285795e14", func := "loop.example/g00064/laws.FnExactSpotOf", spec := "fnExactSpotOf", unfollowed := true, recurses := true, apart := false }
def FnExactSpotOfSaid : Prop := fnExactSpotOfRow.holds Try.pinned (OpenSpec.ofChange fnExactSpotOfSpec)

/-- ITS FALSE NEIGHBOUR: 'it returns false'. Refute it at one input. -/
def fnExactSpotOfWrong : ChangeSpec := { name := "fnExactSpotOf", fn := fun _ => fun
  | [d1, d2] => { results := [.lit (.bool false)], args := [d1, d2] }
  | _ => none }
def FnExactSpotOfWrongFalsely : Prop := fnExactSpotOfRow.holds Try.pinned (OpenSpec.ofChange fnExactSpotOfWrong)

/-- 'laws.FnExactHang': WHATEVER THE INPUT: true; the input reads as it did. -/
def fnExactHangSpec : ChangeSpec := { name := "fnExactHang", fn := fun _ => fun
  | [d1, d2, d3] => { results := [.lit (.bool true)], args := [d1, d2, d3] }
  | _ => none }
def fnExactHangRow : OpenClaim := { program := "ytmabgkhkokckgaa", sum := "db57202aff3ec327c7ca0bb1fe1c147d723482d33acc5ddb7677ef9285795e14", func := "loop.example/g00064/laws.FnExactHang", spec := "fnExactHang", unfollowed := true, recurses := true, apart := false }
def FnExactHangSaid : Prop := fnExactHangRow.holds Try.pinned (OpenSpec.ofChange fnExactHangSpec)

/-- ITS FALSE NEIGHBOUR: 'it returns false'. Refute it at one input. -/
def fnExactHangWrong : ChangeSpec := { name := "fnExactHang", fn := fun _ => fun
  | [d1, d2, d3] => { results := [.lit (.bool false)], args := [d1, d2, d3] }
  | _ => none }
def FnExactHangWrongFalsely : Prop := fnExactHangRow.holds Try.pinned (OpenSpec.ofChange fnExactHangWrong)

/-- 'laws.FnExactNewWorld': WHATEVER THE INPUT: true; the input reads as it did. -/
def fnExactNewWorldSpec : ChangeSpec := { name := "fnExactNewWorld", fn := fun _ => fun
  | [] => { results := [.lit (.bool true)], args := [] }
  | _ => none }
def fnExactNewWorldRow : OpenClaim := { program := "ytmabgkhkokckgaa", sum := "db57202aff3ec327c7ca0bb1fe1c147d723482d33acc5ddb7677ef9285795e14", func := "loop.example/g00064/laws.FnExactNewWorld", spec := "fnExactNewWorld", apart := false }
def FnExactNewWorldSaid : Prop := fnExactNewWorldRow.holds Try.pinned (OpenSpec.ofChange fnExactNewWorldSpec)

/-- ITS FALSE NEIGHBOUR: 'it returns false'. Refute it at one input. -/
def fnExactNewWorldWrong : ChangeSpec := { name := "fnExactNewWorld", fn := fun _ => fun
  | [] => { results := [.lit (.bool false)], args := [] }
  | _ => none }
def FnExactNewWorldWrongFalsely : Prop := fnExactNewWorldRow.holds Try.pinned (OpenSpec.ofChange fnExactNewWorldWrong)

/-- 'laws.FnExactGoodWorld': WHATEVER THE INPUT: true; the input reads as it did. -/
def fnExactGoodWorldSpec : ChangeSpec := { name := "fnExactGoodWorld", fn := fun _ => fun
  | [d] => { results := [.lit (.bool true)], args := [d] }
  | _ => none }
def fnExactGoodWorldRow : OpenClaim := { program := "ytmabgkhkokckgaa", sum := "db57202aff3ec327c7ca0bb1fe1c147d723482d33acc5ddb7677ef9285795e14", func := "loop.example/g00064/laws.FnExactGoodWorld", spec := "fnExactGoodWorld", apart := false }
def FnExactGoodWorldSaid : Prop := fnExactGoodWorldRow.holds Try.pinned (OpenSpec.ofChange fnExactGoodWorldSpec)

/-- ITS FALSE NEIGHBOUR: 'it returns false'. Refute it at one input. -/
def fnExactGoodWorldWrong : ChangeSpec := { name := "fnExactGoodWorld", fn := fun _ => fun
  | [d] => { results := [.lit (.bool false)], args := [d] }
  | _ => none }
def FnExactGoodWorldWrongFalsely : Prop := fnExactGoodWorldRow.holds Try.pinned (OpenSpec.ofChange fnExactGoodWorldWrong)

/-- 'laws.FnExactKindsOf': WHATEVER THE INPUT: true; the input reads as it did. -/
def fnExactKindsOfSpec : ChangeSpec := { name := "fnExactKindsOf", fn := fun _ => fun
  | [d] => { results := [.lit (.bool true)], args := [d] }
  | _ => none }
def fnExactKindsOfRow : OpenClaim := { program := "ytmabgkhkokckgaa", sum := "db57202aff3ec327c7ca0bb1fe1c147d723482d33acc5ddb7677ef9285795e14", func := "loop.example/g00064/laws.FnExactKindsOf", spec := "fnExactKindsOf", unfollowed := true, recurses := true, apart := false }
def FnExactKindsOfSaid : Prop := fnExactKindsOfRow.holds Try.pinned (OpenSpec.ofChange fnExactKindsOfSpec)

/-- ITS FALSE NEIGHBOUR: 'it returns false'. Refute it at one input. -/
def fnExactKindsOfWrong : ChangeSpec := { name := "fnExactKindsOf", fn := fun _ => fun
  | [d] => { results := [.lit (.bool false)], args := [d] }
  | _ => none }
def FnExactKindsOfWrongFalsely : Prop := fnExactKindsOfRow.holds Try.pinned (OpenSpec.ofChange fnExactKindsOfWrong)

/- THE SECOND FORM. 'bulk': how many values and letters a reading holds, each counted each time it is reached (what is shared counts as often as it is met; a slice's spare places count too). A statement '..UptoSaid' is the law's where the arguments, and the package variables that the reading takes, are together of bulk at most 1048576: NARROWER than '..Said'. Prove '..Said' where nothing that the law and all that it calls make is longer than what came in: it says more and counts as full. Else prove '..UptoSaid'. A law counts once. -/
mutual
def uptoBulk {H : Type} : DataW H → Nat
  | .lit (.string bytes) => bytes.length + 1
  | .lit _ => 1
  | .nil => 1
  | .ptr d => uptoBulk d + 1
  | .slice elems spare => uptoBulkAll elems + uptoBulkAll spare + 1
  | .agg parts => uptoBulkAll parts + 1
  | .iface _ d => uptoBulk d + 1
  | .map entries => uptoBulkEntries entries + 1
  | .held _ => 1
def uptoBulkAll {H : Type} : List (DataW H) → Nat
  | [] => 0
  | d :: r => uptoBulk d + uptoBulkAll r
def uptoBulkEntries {H : Type} : List (Lit × DataW H) → Nat
  | [] => 0
  | x :: r => uptoBulkEntry x + uptoBulkEntries r
def uptoBulkEntry {H : Type} : Lit × DataW H → Nat
  | (.string bytes, d) => bytes.length + uptoBulk d + 1
  | (_, d) => uptoBulk d + 1
 end
def uptoSmall : (H : Type) → List (DataW H) → Bool := fun _ ds => decide (uptoBulkAll ds ≤ 1048576)
def OpenSpec.upto (s : _root_.Go.ChangeSpec) : _root_.Go.OpenSpec := { _root_.Go.OpenSpec.ofChange s with cond := some uptoSmall }

/-- 'laws.FnExactJoinSpots', WHERE WHAT IT READS IS OF BULK AT MOST 1048576: true; the input reads as it did. -/
def fnExactJoinSpotsUptoRow : OpenClaim := { program := "ytmabgkhkokckgaa", sum := "db57202aff3ec327c7ca0bb1fe1c147d723482d33acc5ddb7677ef9285795e14", func := "loop.example/g00064/laws.FnExactJoinSpots", spec := "fnExactJoinSpots", apart := false, narrowed := true }
def FnExactJoinSpotsUptoSaid : Prop := fnExactJoinSpotsUptoRow.holds Try.pinned (OpenSpec.upto fnExactJoinSpotsSpec)

/-- 'laws.FnExactGoodScene', WHERE WHAT IT READS IS OF BULK AT MOST 1048576: true; the input reads as it did. -/
def fnExactGoodSceneUptoRow : OpenClaim := { program := "ytmabgkhkokckgaa", sum := "db57202aff3ec327c7ca0bb1fe1c147d723482d33acc5ddb7677ef9285795e14", func := "loop.example/g00064/laws.FnExactGoodScene", spec := "fnExactGoodScene", unfollowed := true, recurses := true, apart := false, narrowed := true }
def FnExactGoodSceneUptoSaid : Prop := fnExactGoodSceneUptoRow.holds Try.pinned (OpenSpec.upto fnExactGoodSceneSpec)

/-- 'laws.FnExactPathOf', WHERE WHAT IT READS IS OF BULK AT MOST 1048576: true; the input reads as it did. -/
def fnExactPathOfUptoRow : OpenClaim := { program := "ytmabgkhkokckgaa", sum := "db57202aff3ec327c7ca0bb1fe1c147d723482d33acc5ddb7677ef9285795e14", func := "loop.example/g00064/laws.FnExactPathOf", spec := "fnExactPathOf", unfollowed := true, recurses := true, apart := false, narrowed := true }
def FnExactPathOfUptoSaid : Prop := fnExactPathOfUptoRow.holds Try.pinned (OpenSpec.upto fnExactPathOfSpec)

/-- 'laws.FnExactFindNode', WHERE WHAT IT READS IS OF BULK AT MOST 1048576: true; the input reads as it did. -/
def fnExactFindNodeUptoRow : OpenClaim := { program := "ytmabgkhkokckgaa", sum := "db57202aff3ec327c7ca0bb1fe1c147d723482d33acc5ddb7677ef9285795e14", func := "loop.example/g00064/laws.FnExactFindNode", spec := "fnExactFindNode", unfollowed := true, recurses := true, apart := false, narrowed := true }
def FnExactFindNodeUptoSaid : Prop := fnExactFindNodeUptoRow.holds Try.pinned (OpenSpec.upto fnExactFindNodeSpec)

/-- 'laws.FnExactCutNode', WHERE WHAT IT READS IS OF BULK AT MOST 1048576: true; the input reads as it did. -/
def fnExactCutNodeUptoRow : OpenClaim := { program := "ytmabgkhkokckgaa", sum := "db57202aff3ec327c7ca0bb1fe1c147d723482d33acc5ddb7677ef9285795e14", func := "loop.example/g00064/laws.FnExactCutNode", spec := "fnExactCutNode", unfollowed := true, recurses := true, apart := false, narrowed := true }
def FnExactCutNodeUptoSaid : Prop := fnExactCutNodeUptoRow.holds Try.pinned (OpenSpec.upto fnExactCutNodeSpec)

/-- 'laws.FnExactSpotOf', WHERE WHAT IT READS IS OF BULK AT MOST 1048576: true; the input reads as it did. -/
def fnExactSpotOfUptoRow : OpenClaim := { program := "ytmabgkhkokckgaa", sum := "db57202aff3ec327c7ca0bb1fe1c147d723482d33acc5ddb7677ef9285795e14", func := "loop.example/g00064/laws.FnExactSpotOf", spec := "fnExactSpotOf", unfollowed := true, recurses := true, apart := false, narrowed := true }
def FnExactSpotOfUptoSaid : Prop := fnExactSpotOfUptoRow.holds Try.pinned (OpenSpec.upto fnExactSpotOfSpec)

/-- 'laws.FnExactHang', WHERE WHAT IT READS IS OF BULK AT MOST 1048576: true; the input reads as it did. -/
def fnExactHangUptoRow : OpenClaim := { program := "ytmabgkhkokckgaa", sum := "db57202aff3ec327c7ca0bb1fe1c147d723482d33acc5ddb7677ef9285795e14", func := "loop.example/g00064/laws.FnExactHang", spec := "fnExactHang", unfollowed := true, recurses := true, apart := false, narrowed := true }
def FnExactHangUptoSaid : Prop := fnExactHangUptoRow.holds Try.pinned (OpenSpec.upto fnExactHangSpec)

/-- 'laws.FnExactNewWorld', WHERE WHAT IT READS IS OF BULK AT MOST 1048576: true; the input reads as it did. -/
def fnExactNewWorldUptoRow : OpenClaim := { program := "ytmabgkhkokckgaa", sum := "db57202aff3ec327c7ca0bb1fe1c147d723482d33acc5ddb7677ef9285795e14", func := "loop.example/g00064/laws.FnExactNewWorld", spec := "fnExactNewWorld", apart := false, narrowed := true }
def FnExactNewWorldUptoSaid : Prop := fnExactNewWorldUptoRow.holds Try.pinned (OpenSpec.upto fnExactNewWorldSpec)

/-- 'laws.FnExactGoodWorld', WHERE WHAT IT READS IS OF BULK AT MOST 1048576: true; the input reads as it did. -/
def fnExactGoodWorldUptoRow : OpenClaim := { program := "ytmabgkhkokckgaa", sum := "db57202aff3ec327c7ca0bb1fe1c147d723482d33acc5ddb7677ef9285795e14", func := "loop.example/g00064/laws.FnExactGoodWorld", spec := "fnExactGoodWorld", apart := false, narrowed := true }
def FnExactGoodWorldUptoSaid : Prop := fnExactGoodWorldUptoRow.holds Try.pinned (OpenSpec.upto fnExactGoodWorldSpec)

/-- 'laws.FnExactKindsOf', WHERE WHAT IT READS IS OF BULK AT MOST 1048576: true; the input reads as it did. -/
def fnExactKindsOfUptoRow : OpenClaim := { program := "ytmabgkhkokckgaa", sum := "db57202aff3ec327c7ca0bb1fe1c147d723482d33acc5ddb7677ef9285795e14", func := "loop.example/g00064/laws.FnExactKindsOf", spec := "fnExactKindsOf", unfollowed := true, recurses := true, apart := false, narrowed := true }
def FnExactKindsOfUptoSaid : Prop := fnExactKindsOfUptoRow.holds Try.pinned (OpenSpec.upto fnExactKindsOfSpec)

end Rows
end Go.Proofs.Ytmabgkhkokckgaa
