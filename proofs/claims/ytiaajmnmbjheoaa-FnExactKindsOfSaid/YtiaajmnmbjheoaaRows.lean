/-
  No cell of these rows narrows 'for every input' (looked for: loops, veiled, ifaces, maps, wideKeys, modest, calm, conditions, laid).
  DERIVED. THE GIVEN ROWS OF THIS SEAT. 4 by the template 'for every input the law returns true; each argument reads behind the call as it read before'; 0 by the template 'total and deterministic' (their statements: YtiaajmnmbjheoaaTotals.lean).
  GIVEN WITH THE SEED: the statements are not yours to turn. If you find one false, say at which input.
  Laid BY PROGRAM, IN A SANDBOX (cutbox-rows.mjs): the forced cells as the released guide's own fill.sh prints them over the translation 4903ef6103fe344e… (all of the seat's roots in one cut). By AI agents, Wed Nov 11 2026. No macro, syntax, notation, axiom, sorry.
-/
import Derived.Test.YtiaajmnmbjheoaaChecked
import GoSem.Claim
import GoSem.ClaimJoined
import GoSem.ClaimMapViews
import Derived.JoinedTies
import Derived.KernelRfl
namespace Go.Proofs.Ytiaajmnmbjheoaa
/- THE CELL 'sum', in the pinned program and in every row, IS THE sha256 OF THE DUMP (.gsa) THAT YtiaajmnmbjheoaaProg.lean LOADS. Nothing in Lean hashes anything: it is a label: what it is worth is what the hold of that sum in a sandbox is worth. -/
noncomputable def Try.pinned : Pinned := { name := "ytiaajmnmbjheoaa", sum := "4903ef6103fe344e84d86386abb789e6e6b57d2d942694099e5b4433daefdc3e", checked := Try.checked }
namespace Rows
def none {H : Type} : Left H := { results := [], args := [] }

/-- 'laws.FnExactKindsOf': WHATEVER THE INPUT: true; the input reads as it did. -/
def fnExactKindsOfSpec : ChangeSpec := { name := "fnExactKindsOf", fn := fun _ => fun
  | [d] => { results := [.lit (.bool true)], args := [d] }
  | _ => none }
def fnExactKindsOfRow : OpenClaim := { program := "ytiaajmnmbjheoaa", sum := "4903ef6103fe344e84d86386abb789e6e6b57d2d942694099e5b4433daefdc3e", func := "loop.example/g00064/laws.FnExactKindsOf", spec := "fnExactKindsOf", unfollowed := true, recurses := true, apart := false }
def FnExactKindsOfSaid : Prop := fnExactKindsOfRow.holds Try.pinned (OpenSpec.ofChange fnExactKindsOfSpec)

/-- ITS FALSE NEIGHBOUR: 'it returns false'. Refute it at one input. -/
def fnExactKindsOfWrong : ChangeSpec := { name := "fnExactKindsOf", fn := fun _ => fun
  | [d] => { results := [.lit (.bool false)], args := [d] }
  | _ => none }
def FnExactKindsOfWrongFalsely : Prop := fnExactKindsOfRow.holds Try.pinned (OpenSpec.ofChange fnExactKindsOfWrong)

/-- 'laws.FnExactIslandsOf': WHATEVER THE INPUT: true; the input reads as it did. -/
def fnExactIslandsOfSpec : ChangeSpec := { name := "fnExactIslandsOf", fn := fun _ => fun
  | [d1, d2] => { results := [.lit (.bool true)], args := [d1, d2] }
  | _ => none }
def fnExactIslandsOfRow : OpenClaim := { program := "ytiaajmnmbjheoaa", sum := "4903ef6103fe344e84d86386abb789e6e6b57d2d942694099e5b4433daefdc3e", func := "loop.example/g00064/laws.FnExactIslandsOf", spec := "fnExactIslandsOf", unfollowed := true, recurses := true, apart := false }
def FnExactIslandsOfSaid : Prop := fnExactIslandsOfRow.holds Try.pinned (OpenSpec.ofChange fnExactIslandsOfSpec)

/-- ITS FALSE NEIGHBOUR: 'it returns false'. Refute it at one input. -/
def fnExactIslandsOfWrong : ChangeSpec := { name := "fnExactIslandsOf", fn := fun _ => fun
  | [d1, d2] => { results := [.lit (.bool false)], args := [d1, d2] }
  | _ => none }
def FnExactIslandsOfWrongFalsely : Prop := fnExactIslandsOfRow.holds Try.pinned (OpenSpec.ofChange fnExactIslandsOfWrong)

/-- 'laws.FnExactRayMeets': WHATEVER THE INPUT: true; the input reads as it did. -/
def fnExactRayMeetsSpec : ChangeSpec := { name := "fnExactRayMeets", fn := fun _ => fun
  | [d1, d2, d3, d4, d5] => { results := [.lit (.bool true)], args := [d1, d2, d3, d4, d5] }
  | _ => none }
def fnExactRayMeetsRow : OpenClaim := { program := "ytiaajmnmbjheoaa", sum := "4903ef6103fe344e84d86386abb789e6e6b57d2d942694099e5b4433daefdc3e", func := "loop.example/g00064/laws.FnExactRayMeets", spec := "fnExactRayMeets", unfollowed := true, recurses := true, apart := false }
def FnExactRayMeetsSaid : Prop := fnExactRayMeetsRow.holds Try.pinned (OpenSpec.ofChange fnExactRayMeetsSpec)

/-- ITS FALSE NEIGHBOUR: 'it returns false'. Refute it at one input. -/
def fnExactRayMeetsWrong : ChangeSpec := { name := "fnExactRayMeets", fn := fun _ => fun
  | [d1, d2, d3, d4, d5] => { results := [.lit (.bool false)], args := [d1, d2, d3, d4, d5] }
  | _ => none }
def FnExactRayMeetsWrongFalsely : Prop := fnExactRayMeetsRow.holds Try.pinned (OpenSpec.ofChange fnExactRayMeetsWrong)

/-- 'laws.FnExactSweepPairs': WHATEVER THE INPUT: true; the input reads as it did. -/
def fnExactSweepPairsSpec : ChangeSpec := { name := "fnExactSweepPairs", fn := fun _ => fun
  | [d] => { results := [.lit (.bool true)], args := [d] }
  | _ => none }
def fnExactSweepPairsRow : OpenClaim := { program := "ytiaajmnmbjheoaa", sum := "4903ef6103fe344e84d86386abb789e6e6b57d2d942694099e5b4433daefdc3e", func := "loop.example/g00064/laws.FnExactSweepPairs", spec := "fnExactSweepPairs", unfollowed := true, recurses := true, apart := false }
def FnExactSweepPairsSaid : Prop := fnExactSweepPairsRow.holds Try.pinned (OpenSpec.ofChange fnExactSweepPairsSpec)

/-- ITS FALSE NEIGHBOUR: 'it returns false'. Refute it at one input. -/
def fnExactSweepPairsWrong : ChangeSpec := { name := "fnExactSweepPairs", fn := fun _ => fun
  | [d] => { results := [.lit (.bool false)], args := [d] }
  | _ => none }
def FnExactSweepPairsWrongFalsely : Prop := fnExactSweepPairsRow.holds Try.pinned (OpenSpec.ofChange fnExactSweepPairsWrong)

/- THE SECOND FORM. 'bulk': how many values and letters a reading holds, each counted each time it is reached (what is shared counts as often as it is met; a slice's spare places count too). A statement '..UptoSaid' is the law's where the arguments, and the package variables that the reading takes, are together of bulk at most 1048576: NARROWER than '..Said'. Prove '..Said' where nothing that the law and all that it calls make is longer than what came in: it says more and counts as full. Else prove '..UptoSaid'. A law counts once. -/
mutual
def uptoBulk {H : Type} : DataW H → Nat
  | .lit (.string bytes) => bytes.length + 1
  | .lit _ => 1
  | .nil => 1
  | .ptr d => uptoBulk d + 1
  | .slice elems spare => uptoBulkAll elems + uptoBulkAll spare + 1
  | .agg parts => uptoBulkAll parts + 1
  | .iface _ d => uptoBulk d + 1
  | .map entries => uptoBulkEntries entries + 1
  | .held _ => 1
def uptoBulkAll {H : Type} : List (DataW H) → Nat
  | [] => 0
  | d :: r => uptoBulk d + uptoBulkAll r
def uptoBulkEntries {H : Type} : List (Lit × DataW H) → Nat
  | [] => 0
  | x :: r => uptoBulkEntry x + uptoBulkEntries r
def uptoBulkEntry {H : Type} : Lit × DataW H → Nat
  | (.string bytes, d) => bytes.length + uptoBulk d + 1
  | (_, d) => uptoBulk d + 1
 end
def uptoSmall : (H : Type) → List (DataW H) → Bool := fun _ ds => decide (uptoBulkAll ds ≤ 1048576)
def OpenSpec.upto (s : _root_.Go.ChangeSpec) : _root_.Go.OpenSpec := { _root_.Go.OpenSpec.ofChange s with cond := some uptoSmall }

/-- 'laws.FnExactKindsOf', WHERE WHAT IT READS IS OF BULK AT MOST 1048576: true; the input reads as it did. -/
def fnExactKindsOfUptoRow : OpenClaim := { program := "ytiaajmnmbjheoaa", sum := "4903ef6103fe344e84d86386abb789e6e6b57d2d942694099e5b4433daefdc3e", func := "loop.example/g00064/laws.FnExactKindsOf", spec := "fnExactKindsOf", unfollowed := true, recurses := true, apart := false, narrowed := true }
def FnExactKindsOfUptoSaid : Prop := fnExactKindsOfUptoRow.holds Try.pinned (OpenSpec.upto fnExactKindsOfSpec)

/-- 'laws.FnExactIslandsOf', WHERE WHAT IT READS IS OF BULK AT MOST 1048576: true; the input reads as it did. -/
def fnExactIslandsOfUptoRow : OpenClaim := { program := "ytiaajmnmbjheoaa", sum := "4903ef6103fe344e84d86386abb789e6e6b57d2d942694099e5b4433daefdc3e", func := "loop.example/g00064/laws.FnExactIslandsOf", spec := "fnExactIslandsOf", unfollowed := true, recurses := true, apart := false, narrowed := true }
def FnExactIslandsOfUptoSaid : Prop := fnExactIslandsOfUptoRow.holds Try.pinned (OpenSpec.upto fnExactIslandsOfSpec)

/-- 'laws.FnExactRayMeets', WHERE WHAT IT READS IS OF BULK AT MOST 1048576: true; the input reads as it did. -/
def fnExactRayMeetsUptoRow : OpenClaim := { program := "ytiaajmnmbjheoaa", sum := "4903ef6103fe344e84d86386abb789e6e6b57d2d942694099e5b4433daefdc3e", func := "loop.example/g00064/laws.FnExactRayMeets", spec := "fnExactRayMeets", unfollowed := true, recurses := true, apart := false, narrowed := true }
def FnExactRayMeetsUptoSaid : Prop := fnExactRayMeetsUptoRow.holds Try.pinned (OpenSpec.upto fnExactRayMeetsSpec)

/-- 'laws.FnExactSweepPairs', WHERE WHAT IT READS IS OF BULK AT MOST 1048576: true; the input reads as it did. -/
def fnExactSweepPairsUptoRow : OpenClaim := { program := "ytiaajmnmbjheoaa", sum := "4903ef6103fe344e84d86386abb789e6e6b57d2d942694099e5b4433daefdc3e", func := "loop.example/g00064/laws.FnExactSweepPairs", spec := "fnExactSweepPairs", unfollowed := true, recurses := true, apart := false, narrowed := true }
def FnExactSweepPairsUptoSaid : Prop := fnExactSweepPairsUptoRow.holds Try.pinned (OpenSpec.upto fnExactSweepPairsSpec)

end Rows
end Go.Proofs.Ytiaajmnmbjheoaa
