/-
  No cell of these rows narrows 'for every input' (looked for: loops, veiled, ifaces, maps, wideKeys, modest, calm, conditions, laid).
  DERIVED. THE GIVEN ROWS OF THIS SEAT. 6 by the template 'for every input the law returns true; each argument reads behind the call as it read before'; 0 by the template 'total and deterministic' (their statements: YtnfcpbajngccoaaTotals.lean).
  GIVEN WITH THE SEED: the statements are not yours to turn. If you find one false, say at which input.
  Laid BY PROGRAM, IN A SANDBOX (cutbox-rows.mjs): the forced cells as the released guide's own fill.sh prints them over the translation 1be32199eb4679cc… (all of the seat's roots in one cut). By AI agents, Wed Nov 11 2026. No macro, syntax, notation, axiom, sorry.
-/
import Derived.Test.YtnfcpbajngccoaaChecked
import GoSem.Claim
import GoSem.ClaimJoined
import GoSem.ClaimMapViews
import Derived.JoinedTies
import Derived.KernelRfl
namespace Go.Proofs.Ytnfcpbajngccoaa
/- THE CELL 'sum', in the pinned program and in every row, IS THE sha256 OF THE DUMP (.gsa) THAT YtnfcpbajngccoaaProg.lean LOADS. Nothing in Lean hashes anything: it is a label: what it is worth is what the hold of that sum in a sandbox is worth. -/
noncomputable def Try.pinned : Pinned := { name := "ytnfcpbajngccoaa", sum := "1be32199eb4679ccdac3e1d3270346226a71b54e3dc66b172e68b60e47d613c4", checked := Try.checked }
namespace Rows
def none {H : Type} : Left H := { results := [], args := [] }

/-- 'laws.FnExactGoodGround': WHATEVER THE INPUT: true; the input reads as it did. -/
def fnExactGoodGroundSpec : ChangeSpec := { name := "fnExactGoodGround", fn := fun _ => fun
  | [d] => { results := [.lit (.bool true)], args := [d] }
  | _ => none }
def fnExactGoodGroundRow : OpenClaim := { program := "ytnfcpbajngccoaa", sum := "1be32199eb4679ccdac3e1d3270346226a71b54e3dc66b172e68b60e47d613c4", func := "loop.example/g00064/laws.FnExactGoodGround", spec := "fnExactGoodGround", unfollowed := true, recurses := true, apart := false }
def FnExactGoodGroundSaid : Prop := fnExactGoodGroundRow.holds Try.pinned (OpenSpec.ofChange fnExactGoodGroundSpec)

/-- ITS FALSE NEIGHBOUR: 'it returns false'. Refute it at one input. -/
def fnExactGoodGroundWrong : ChangeSpec := { name := "fnExactGoodGround", fn := fun _ => fun
  | [d] => { results := [.lit (.bool false)], args := [d] }
  | _ => none }
def FnExactGoodGroundWrongFalsely : Prop := fnExactGoodGroundRow.holds Try.pinned (OpenSpec.ofChange fnExactGoodGroundWrong)

/-- 'laws.FnExactFaceAt': WHATEVER THE INPUT: true; the input reads as it did. -/
def fnExactFaceAtSpec : ChangeSpec := { name := "fnExactFaceAt", fn := fun _ => fun
  | [d1, d2, d3] => { results := [.lit (.bool true)], args := [d1, d2, d3] }
  | _ => none }
def fnExactFaceAtRow : OpenClaim := { program := "ytnfcpbajngccoaa", sum := "1be32199eb4679ccdac3e1d3270346226a71b54e3dc66b172e68b60e47d613c4", func := "loop.example/g00064/laws.FnExactFaceAt", spec := "fnExactFaceAt", unfollowed := true, recurses := true, apart := false }
def FnExactFaceAtSaid : Prop := fnExactFaceAtRow.holds Try.pinned (OpenSpec.ofChange fnExactFaceAtSpec)

/-- ITS FALSE NEIGHBOUR: 'it returns false'. Refute it at one input. -/
def fnExactFaceAtWrong : ChangeSpec := { name := "fnExactFaceAt", fn := fun _ => fun
  | [d1, d2, d3] => { results := [.lit (.bool false)], args := [d1, d2, d3] }
  | _ => none }
def FnExactFaceAtWrongFalsely : Prop := fnExactFaceAtRow.holds Try.pinned (OpenSpec.ofChange fnExactFaceAtWrong)

/-- 'laws.FnExactBeside': WHATEVER THE INPUT: true; the input reads as it did. -/
def fnExactBesideSpec : ChangeSpec := { name := "fnExactBeside", fn := fun _ => fun
  | [d1, d2] => { results := [.lit (.bool true)], args := [d1, d2] }
  | _ => none }
def fnExactBesideRow : OpenClaim := { program := "ytnfcpbajngccoaa", sum := "1be32199eb4679ccdac3e1d3270346226a71b54e3dc66b172e68b60e47d613c4", func := "loop.example/g00064/laws.FnExactBeside", spec := "fnExactBeside", unfollowed := true, recurses := true, apart := false }
def FnExactBesideSaid : Prop := fnExactBesideRow.holds Try.pinned (OpenSpec.ofChange fnExactBesideSpec)

/-- ITS FALSE NEIGHBOUR: 'it returns false'. Refute it at one input. -/
def fnExactBesideWrong : ChangeSpec := { name := "fnExactBeside", fn := fun _ => fun
  | [d1, d2] => { results := [.lit (.bool false)], args := [d1, d2] }
  | _ => none }
def FnExactBesideWrongFalsely : Prop := fnExactBesideRow.holds Try.pinned (OpenSpec.ofChange fnExactBesideWrong)

/-- 'laws.FnExactDoorsOf': WHATEVER THE INPUT: true; the input reads as it did. -/
def fnExactDoorsOfSpec : ChangeSpec := { name := "fnExactDoorsOf", fn := fun _ => fun
  | [d1, d2] => { results := [.lit (.bool true)], args := [d1, d2] }
  | _ => none }
def fnExactDoorsOfRow : OpenClaim := { program := "ytnfcpbajngccoaa", sum := "1be32199eb4679ccdac3e1d3270346226a71b54e3dc66b172e68b60e47d613c4", func := "loop.example/g00064/laws.FnExactDoorsOf", spec := "fnExactDoorsOf", unfollowed := true, recurses := true, apart := false }
def FnExactDoorsOfSaid : Prop := fnExactDoorsOfRow.holds Try.pinned (OpenSpec.ofChange fnExactDoorsOfSpec)

/-- ITS FALSE NEIGHBOUR: 'it returns false'. Refute it at one input. -/
def fnExactDoorsOfWrong : ChangeSpec := { name := "fnExactDoorsOf", fn := fun _ => fun
  | [d1, d2] => { results := [.lit (.bool false)], args := [d1, d2] }
  | _ => none }
def FnExactDoorsOfWrongFalsely : Prop := fnExactDoorsOfRow.holds Try.pinned (OpenSpec.ofChange fnExactDoorsOfWrong)

/-- 'laws.FnExactFewestFaces': WHATEVER THE INPUT: true; the input reads as it did. -/
def fnExactFewestFacesSpec : ChangeSpec := { name := "fnExactFewestFaces", fn := fun _ => fun
  | [d1, d2, d3] => { results := [.lit (.bool true)], args := [d1, d2, d3] }
  | _ => none }
def fnExactFewestFacesRow : OpenClaim := { program := "ytnfcpbajngccoaa", sum := "1be32199eb4679ccdac3e1d3270346226a71b54e3dc66b172e68b60e47d613c4", func := "loop.example/g00064/laws.FnExactFewestFaces", spec := "fnExactFewestFaces", unfollowed := true, recurses := true, apart := false }
def FnExactFewestFacesSaid : Prop := fnExactFewestFacesRow.holds Try.pinned (OpenSpec.ofChange fnExactFewestFacesSpec)

/-- ITS FALSE NEIGHBOUR: 'it returns false'. Refute it at one input. -/
def fnExactFewestFacesWrong : ChangeSpec := { name := "fnExactFewestFaces", fn := fun _ => fun
  | [d1, d2, d3] => { results := [.lit (.bool false)], args := [d1, d2, d3] }
  | _ => none }
def FnExactFewestFacesWrongFalsely : Prop := fnExactFewestFacesRow.holds Try.pinned (OpenSpec.ofChange fnExactFewestFacesWrong)

/-- 'laws.FnExactPullTight': WHATEVER THE INPUT: true; the input reads as it did. -/
def fnExactPullTightSpec : ChangeSpec := { name := "fnExactPullTight", fn := fun _ => fun
  | [d1, d2, d3, d4] => { results := [.lit (.bool true)], args := [d1, d2, d3, d4] }
  | _ => none }
def fnExactPullTightRow : OpenClaim := { program := "ytnfcpbajngccoaa", sum := "1be32199eb4679ccdac3e1d3270346226a71b54e3dc66b172e68b60e47d613c4", func := "loop.example/g00064/laws.FnExactPullTight", spec := "fnExactPullTight", inPlace := ["math.sqrt"], unfollowed := true, recurses := true, apart := false }
def FnExactPullTightSaid : Prop := fnExactPullTightRow.holds Try.pinned (OpenSpec.ofChange fnExactPullTightSpec)

/-- ITS FALSE NEIGHBOUR: 'it returns false'. Refute it at one input. -/
def fnExactPullTightWrong : ChangeSpec := { name := "fnExactPullTight", fn := fun _ => fun
  | [d1, d2, d3, d4] => { results := [.lit (.bool false)], args := [d1, d2, d3, d4] }
  | _ => none }
def FnExactPullTightWrongFalsely : Prop := fnExactPullTightRow.holds Try.pinned (OpenSpec.ofChange fnExactPullTightWrong)

/- THE SECOND FORM. 'bulk': how many values and letters a reading holds, each counted each time it is reached (what is shared counts as often as it is met; a slice's spare places count too). A statement '..UptoSaid' is the law's where the arguments, and the package variables that the reading takes, are together of bulk at most 1048576: NARROWER than '..Said'. Prove '..Said' where nothing that the law and all that it calls make is longer than what came in: it says more and counts as full. Else prove '..UptoSaid'. A law counts once. -/
mutual
def uptoBulk {H : Type} : DataW H → Nat
  | .lit (.string bytes) => bytes.length + 1
  | .lit _ => 1
  | .nil => 1
  | .ptr d => uptoBulk d + 1
  | .slice elems spare => uptoBulkAll elems + uptoBulkAll spare + 1
  | .agg parts => uptoBulkAll parts + 1
  | .iface _ d => uptoBulk d + 1
  | .map entries => uptoBulkEntries entries + 1
  | .held _ => 1
def uptoBulkAll {H : Type} : List (DataW H) → Nat
  | [] => 0
  | d :: r => uptoBulk d + uptoBulkAll r
def uptoBulkEntries {H : Type} : List (Lit × DataW H) → Nat
  | [] => 0
  | x :: r => uptoBulkEntry x + uptoBulkEntries r
def uptoBulkEntry {H : Type} : Lit × DataW H → Nat
  | (.string bytes, d) => bytes.length + uptoBulk d + 1
  | (_, d) => uptoBulk d + 1
 end
def uptoSmall : (H : Type) → List (DataW H) → Bool := fun _ ds => decide (uptoBulkAll ds ≤ 1048576)
def OpenSpec.upto (s : _root_.Go.ChangeSpec) : _root_.Go.OpenSpec := { _root_.Go.OpenSpec.ofChange s with cond := some uptoSmall }

/-- 'laws.FnExactGoodGround', WHERE WHAT IT READS IS OF BULK AT MOST 1048576: true; the input reads as it did. -/
def fnExactGoodGroundUptoRow : OpenClaim := { program := "ytnfcpbajngccoaa", sum := "1be32199eb4679ccdac3e1d3270346226a71b54e3dc66b172e68b60e47d613c4", func := "loop.example/g00064/laws.FnExactGoodGround", spec := "fnExactGoodGround", unfollowed := true, recurses := true, apart := false, narrowed := true }
def FnExactGoodGroundUptoSaid : Prop := fnExactGoodGroundUptoRow.holds Try.pinned (OpenSpec.upto fnExactGoodGroundSpec)

/-- 'laws.FnExactFaceAt', WHERE WHAT IT READS IS OF BULK AT MOST 1048576: true; the input reads as it did. -/
def fnExactFaceAtUptoRow : OpenClaim := { program := "ytnfcpbajngccoaa", sum := "1be32199eb4679ccdac3e1d3270346226a71b54e3dc66b172e68b60e47d613c4", func := "loop.example/g00064/laws.FnExactFaceAt", spec := "fnExactFaceAt", unfollowed := true, recurses := true, apart := false, narrowed := true }
def FnExactFaceAtUptoSaid : Prop := fnExactFaceAtUptoRow.holds Try.pinned (OpenSpec.upto fnExactFaceAtSpec)

/-- 'laws.FnExactBeside', WHERE WHAT IT READS IS OF BULK AT MOST 1048576: true; the input reads as it did. -/
def fnExactBesideUptoRow : OpenClaim := { program := "ytnfcpbajngccoaa", sum := "1be32199eb4679ccdac3e1d3270346226a71b54e3dc66b172e68b60e47d613c4", func := "loop.example/g00064/laws.FnExactBeside", spec := "fnExactBeside", unfollowed := true, recurses := true, apart := false, narrowed := true }
def FnExactBesideUptoSaid : Prop := fnExactBesideUptoRow.holds Try.pinned (OpenSpec.upto fnExactBesideSpec)

/-- 'laws.FnExactDoorsOf', WHERE WHAT IT READS IS OF BULK AT MOST 1048576: true; the input reads as it did. -/
def fnExactDoorsOfUptoRow : OpenClaim := { program := "ytnfcpbajngccoaa", sum := "1be32199eb4679ccdac3e1d3270346226a71b54e3dc66b172e68b60e47d613c4", func := "loop.example/g00064/laws.FnExactDoorsOf", spec := "fnExactDoorsOf", unfollowed := true, recurses := true, apart := false, narrowed := true }
def FnExactDoorsOfUptoSaid : Prop := fnExactDoorsOfUptoRow.holds Try.pinned (OpenSpec.upto fnExactDoorsOfSpec)

/-- 'laws.FnExactFewestFaces', WHERE WHAT IT READS IS OF BULK AT MOST 1048576: true; the input reads as it did. -/
def fnExactFewestFacesUptoRow : OpenClaim := { program := "ytnfcpbajngccoaa", sum := "1be32199eb4679ccdac3e1d3270346226a71b54e3dc66b172e68b60e47d613c4", func := "loop.example/g00064/laws.FnExactFewestFaces", spec := "fnExactFewestFaces", unfollowed := true, recurses := true, apart := false, narrowed := true }
def FnExactFewestFacesUptoSaid : Prop := fnExactFewestFacesUptoRow.holds Try.pinned (OpenSpec.upto fnExactFewestFacesSpec)

/-- 'laws.FnExactPullTight', WHERE WHAT IT READS IS OF BULK AT MOST 1048576: true; the input reads as it did. -/
def fnExactPullTightUptoRow : OpenClaim := { program := "ytnfcpbajngccoaa", sum := "1be32199eb4679ccdac3e1d3270346226a71b54e3dc66b172e68b60e47d613c4", func := "loop.example/g00064/laws.FnExactPullTight", spec := "fnExactPullTight", inPlace := ["math.sqrt"], unfollowed := true, recurses := true, apart := false, narrowed := true }
def FnExactPullTightUptoSaid : Prop := fnExactPullTightUptoRow.holds Try.pinned (OpenSpec.upto fnExactPullTightSpec)

end Rows
end Go.Proofs.Ytnfcpbajngccoaa
