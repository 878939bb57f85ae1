/-
  No cell of these rows narrows 'for every input' (looked for: loops, veiled, ifaces, maps, wideKeys, modest, calm, conditions, laid).
  DERIVED. THE GIVEN ROWS OF THIS SEAT. 11 by the template 'for every input the law returns true; each argument reads behind the call as it read before'; 0 by the template 'total and deterministic' (their statements: YtmkmomcpbkogiaaTotals.lean).
  GIVEN WITH THE SEED: the statements are not yours to turn. If you find one false, say at which input.
  Laid BY PROGRAM, IN A SANDBOX (cutbox-rows.mjs): the forced cells as the released guide's own fill.sh prints them over the translation 32e6094763f7bf9f… (all of the seat's roots in one cut). By AI agents, Wed Nov 11 2026. No macro, syntax, notation, axiom, sorry.
-/
import Derived.Test.YtmkmomcpbkogiaaChecked
import GoSem.Claim
import GoSem.ClaimJoined
import GoSem.ClaimMapViews
import Derived.JoinedTies
import Derived.KernelRfl
namespace Go.Proofs.Ytmkmomcpbkogiaa
/- THE CELL 'sum', in the pinned program and in every row, IS THE sha256 OF THE DUMP (.gsa) THAT YtmkmomcpbkogiaaProg.lean LOADS. Nothing in Lean hashes anything: it is a label: what it is worth is what the hold of that sum in a sandbox is worth. -/
noncomputable def Try.pinned : Pinned := { name := "ytmkmomcpbkogiaa", sum := "32e6094763f7bf9f1a244f1cc2a6f3f6e113a29a0681510ed3624fe7ecb59fe0", checked := Try.checked }
namespace Rows
def none {H : Type} : Left H := { results := [], args := [] }

/-- 'laws.FnExactAngleOf': WHATEVER THE INPUT: true; the input reads as it did. -/
def fnExactAngleOfSpec : ChangeSpec := { name := "fnExactAngleOf", fn := fun _ => fun
  | [d1, d2] => { results := [.lit (.bool true)], args := [d1, d2] }
  | _ => none }
def fnExactAngleOfRow : OpenClaim := { program := "ytmkmomcpbkogiaa", sum := "32e6094763f7bf9f1a244f1cc2a6f3f6e113a29a0681510ed3624fe7ecb59fe0", func := "loop.example/g00064/laws.FnExactAngleOf", spec := "fnExactAngleOf", recurses := true, apart := false }
def FnExactAngleOfSaid : Prop := fnExactAngleOfRow.holds Try.pinned (OpenSpec.ofChange fnExactAngleOfSpec)

/-- ITS FALSE NEIGHBOUR: 'it returns false'. Refute it at one input. -/
def fnExactAngleOfWrong : ChangeSpec := { name := "fnExactAngleOf", fn := fun _ => fun
  | [d1, d2] => { results := [.lit (.bool false)], args := [d1, d2] }
  | _ => none }
def FnExactAngleOfWrongFalsely : Prop := fnExactAngleOfRow.holds Try.pinned (OpenSpec.ofChange fnExactAngleOfWrong)

/-- 'laws.FnExactFixDiv': WHATEVER THE INPUT: true; the input reads as it did. -/
def fnExactFixDivSpec : ChangeSpec := { name := "fnExactFixDiv", fn := fun _ => fun
  | [d1, d2] => { results := [.lit (.bool true)], args := [d1, d2] }
  | _ => none }
def fnExactFixDivRow : OpenClaim := { program := "ytmkmomcpbkogiaa", sum := "32e6094763f7bf9f1a244f1cc2a6f3f6e113a29a0681510ed3624fe7ecb59fe0", func := "loop.example/g00064/laws.FnExactFixDiv", spec := "fnExactFixDiv", apart := false }
def FnExactFixDivSaid : Prop := fnExactFixDivRow.holds Try.pinned (OpenSpec.ofChange fnExactFixDivSpec)

/-- ITS FALSE NEIGHBOUR: 'it returns false'. Refute it at one input. -/
def fnExactFixDivWrong : ChangeSpec := { name := "fnExactFixDiv", fn := fun _ => fun
  | [d1, d2] => { results := [.lit (.bool false)], args := [d1, d2] }
  | _ => none }
def FnExactFixDivWrongFalsely : Prop := fnExactFixDivRow.holds Try.pinned (OpenSpec.ofChange fnExactFixDivWrong)

/-- 'laws.FnExactFixMul': WHATEVER THE INPUT: true; the input reads as it did. -/
def fnExactFixMulSpec : ChangeSpec := { name := "fnExactFixMul", fn := fun _ => fun
  | [d1, d2] => { results := [.lit (.bool true)], args := [d1, d2] }
  | _ => none }
def fnExactFixMulRow : OpenClaim := { program := "ytmkmomcpbkogiaa", sum := "32e6094763f7bf9f1a244f1cc2a6f3f6e113a29a0681510ed3624fe7ecb59fe0", func := "loop.example/g00064/laws.FnExactFixMul", spec := "fnExactFixMul", inPlace := ["math/bits.Add64"], apart := false }
def FnExactFixMulSaid : Prop := fnExactFixMulRow.holds Try.pinned (OpenSpec.ofChange fnExactFixMulSpec)

/-- ITS FALSE NEIGHBOUR: 'it returns false'. Refute it at one input. -/
def fnExactFixMulWrong : ChangeSpec := { name := "fnExactFixMul", fn := fun _ => fun
  | [d1, d2] => { results := [.lit (.bool false)], args := [d1, d2] }
  | _ => none }
def FnExactFixMulWrongFalsely : Prop := fnExactFixMulRow.holds Try.pinned (OpenSpec.ofChange fnExactFixMulWrong)

/-- 'laws.FnExactLengthOf': WHATEVER THE INPUT: true; the input reads as it did. -/
def fnExactLengthOfSpec : ChangeSpec := { name := "fnExactLengthOf", fn := fun _ => fun
  | [d1, d2] => { results := [.lit (.bool true)], args := [d1, d2] }
  | _ => none }
def fnExactLengthOfRow : OpenClaim := { program := "ytmkmomcpbkogiaa", sum := "32e6094763f7bf9f1a244f1cc2a6f3f6e113a29a0681510ed3624fe7ecb59fe0", func := "loop.example/g00064/laws.FnExactLengthOf", spec := "fnExactLengthOf", inPlace := ["math/bits.Add64"], unfollowed := true, recurses := true, apart := false }
def FnExactLengthOfSaid : Prop := fnExactLengthOfRow.holds Try.pinned (OpenSpec.ofChange fnExactLengthOfSpec)

/-- ITS FALSE NEIGHBOUR: 'it returns false'. Refute it at one input. -/
def fnExactLengthOfWrong : ChangeSpec := { name := "fnExactLengthOf", fn := fun _ => fun
  | [d1, d2] => { results := [.lit (.bool false)], args := [d1, d2] }
  | _ => none }
def FnExactLengthOfWrongFalsely : Prop := fnExactLengthOfRow.holds Try.pinned (OpenSpec.ofChange fnExactLengthOfWrong)

/-- 'laws.FnExactEaseAt': WHATEVER THE INPUT: true; the input reads as it did. -/
def fnExactEaseAtSpec : ChangeSpec := { name := "fnExactEaseAt", fn := fun _ => fun
  | [d1, d2] => { results := [.lit (.bool true)], args := [d1, d2] }
  | _ => none }
def fnExactEaseAtRow : OpenClaim := { program := "ytmkmomcpbkogiaa", sum := "32e6094763f7bf9f1a244f1cc2a6f3f6e113a29a0681510ed3624fe7ecb59fe0", func := "loop.example/g00064/laws.FnExactEaseAt", spec := "fnExactEaseAt", inPlace := ["math/bits.Add64"], apart := false }
def FnExactEaseAtSaid : Prop := fnExactEaseAtRow.holds Try.pinned (OpenSpec.ofChange fnExactEaseAtSpec)

/-- ITS FALSE NEIGHBOUR: 'it returns false'. Refute it at one input. -/
def fnExactEaseAtWrong : ChangeSpec := { name := "fnExactEaseAt", fn := fun _ => fun
  | [d1, d2] => { results := [.lit (.bool false)], args := [d1, d2] }
  | _ => none }
def FnExactEaseAtWrongFalsely : Prop := fnExactEaseAtRow.holds Try.pinned (OpenSpec.ofChange fnExactEaseAtWrong)

/-- 'laws.FnExactTweenAt': WHATEVER THE INPUT: true; the input reads as it did. -/
def fnExactTweenAtSpec : ChangeSpec := { name := "fnExactTweenAt", fn := fun _ => fun
  | [d1, d2, d3, d4, d5, d6] => { results := [.lit (.bool true)], args := [d1, d2, d3, d4, d5, d6] }
  | _ => none }
def fnExactTweenAtRow : OpenClaim := { program := "ytmkmomcpbkogiaa", sum := "32e6094763f7bf9f1a244f1cc2a6f3f6e113a29a0681510ed3624fe7ecb59fe0", func := "loop.example/g00064/laws.FnExactTweenAt", spec := "fnExactTweenAt", inPlace := ["math/bits.Add64"], apart := false }
def FnExactTweenAtSaid : Prop := fnExactTweenAtRow.holds Try.pinned (OpenSpec.ofChange fnExactTweenAtSpec)

/-- ITS FALSE NEIGHBOUR: 'it returns false'. Refute it at one input. -/
def fnExactTweenAtWrong : ChangeSpec := { name := "fnExactTweenAt", fn := fun _ => fun
  | [d1, d2, d3, d4, d5, d6] => { results := [.lit (.bool false)], args := [d1, d2, d3, d4, d5, d6] }
  | _ => none }
def FnExactTweenAtWrongFalsely : Prop := fnExactTweenAtRow.holds Try.pinned (OpenSpec.ofChange fnExactTweenAtWrong)

/-- 'laws.FnExactGoodClock': WHATEVER THE INPUT: true; the input reads as it did. -/
def fnExactGoodClockSpec : ChangeSpec := { name := "fnExactGoodClock", fn := fun _ => fun
  | [d] => { results := [.lit (.bool true)], args := [d] }
  | _ => none }
def fnExactGoodClockRow : OpenClaim := { program := "ytmkmomcpbkogiaa", sum := "32e6094763f7bf9f1a244f1cc2a6f3f6e113a29a0681510ed3624fe7ecb59fe0", func := "loop.example/g00064/laws.FnExactGoodClock", spec := "fnExactGoodClock", apart := false }
def FnExactGoodClockSaid : Prop := fnExactGoodClockRow.holds Try.pinned (OpenSpec.ofChange fnExactGoodClockSpec)

/-- ITS FALSE NEIGHBOUR: 'it returns false'. Refute it at one input. -/
def fnExactGoodClockWrong : ChangeSpec := { name := "fnExactGoodClock", fn := fun _ => fun
  | [d] => { results := [.lit (.bool false)], args := [d] }
  | _ => none }
def FnExactGoodClockWrongFalsely : Prop := fnExactGoodClockRow.holds Try.pinned (OpenSpec.ofChange fnExactGoodClockWrong)

/-- 'laws.FnExactRunClock': WHATEVER THE INPUT: true; the input reads as it did. -/
def fnExactRunClockSpec : ChangeSpec := { name := "fnExactRunClock", fn := fun _ => fun
  | [d1, d2] => { results := [.lit (.bool true)], args := [d1, d2] }
  | _ => none }
def fnExactRunClockRow : OpenClaim := { program := "ytmkmomcpbkogiaa", sum := "32e6094763f7bf9f1a244f1cc2a6f3f6e113a29a0681510ed3624fe7ecb59fe0", func := "loop.example/g00064/laws.FnExactRunClock", spec := "fnExactRunClock", apart := false }
def FnExactRunClockSaid : Prop := fnExactRunClockRow.holds Try.pinned (OpenSpec.ofChange fnExactRunClockSpec)

/-- ITS FALSE NEIGHBOUR: 'it returns false'. Refute it at one input. -/
def fnExactRunClockWrong : ChangeSpec := { name := "fnExactRunClock", fn := fun _ => fun
  | [d1, d2] => { results := [.lit (.bool false)], args := [d1, d2] }
  | _ => none }
def FnExactRunClockWrongFalsely : Prop := fnExactRunClockRow.holds Try.pinned (OpenSpec.ofChange fnExactRunClockWrong)

/-- 'laws.FnExactBestChoice': WHATEVER THE INPUT: true; the input reads as it did. -/
def fnExactBestChoiceSpec : ChangeSpec := { name := "fnExactBestChoice", fn := fun _ => fun
  | [d] => { results := [.lit (.bool true)], args := [d] }
  | _ => none }
def fnExactBestChoiceRow : OpenClaim := { program := "ytmkmomcpbkogiaa", sum := "32e6094763f7bf9f1a244f1cc2a6f3f6e113a29a0681510ed3624fe7ecb59fe0", func := "loop.example/g00064/laws.FnExactBestChoice", spec := "fnExactBestChoice", inPlace := ["math/bits.Add64"], unfollowed := true, recurses := true, apart := false }
def FnExactBestChoiceSaid : Prop := fnExactBestChoiceRow.holds Try.pinned (OpenSpec.ofChange fnExactBestChoiceSpec)

/-- ITS FALSE NEIGHBOUR: 'it returns false'. Refute it at one input. -/
def fnExactBestChoiceWrong : ChangeSpec := { name := "fnExactBestChoice", fn := fun _ => fun
  | [d] => { results := [.lit (.bool false)], args := [d] }
  | _ => none }
def FnExactBestChoiceWrongFalsely : Prop := fnExactBestChoiceRow.holds Try.pinned (OpenSpec.ofChange fnExactBestChoiceWrong)

/-- 'laws.FnExactSteer': WHATEVER THE INPUT: true; the input reads as it did. -/
def fnExactSteerSpec : ChangeSpec := { name := "fnExactSteer", fn := fun _ => fun
  | [d1, d2, d3, d4, d5] => { results := [.lit (.bool true)], args := [d1, d2, d3, d4, d5] }
  | _ => none }
def fnExactSteerRow : OpenClaim := { program := "ytmkmomcpbkogiaa", sum := "32e6094763f7bf9f1a244f1cc2a6f3f6e113a29a0681510ed3624fe7ecb59fe0", func := "loop.example/g00064/laws.FnExactSteer", spec := "fnExactSteer", inPlace := ["math/bits.Add64"], unfollowed := true, recurses := true, named := ["math/bits.divideError", "math/bits.overflowError"], apart := false }
def FnExactSteerSaid : Prop := fnExactSteerRow.holds Try.pinned (OpenSpec.ofChange fnExactSteerSpec)

/-- ITS FALSE NEIGHBOUR: 'it returns false'. Refute it at one input. -/
def fnExactSteerWrong : ChangeSpec := { name := "fnExactSteer", fn := fun _ => fun
  | [d1, d2, d3, d4, d5] => { results := [.lit (.bool false)], args := [d1, d2, d3, d4, d5] }
  | _ => none }
def FnExactSteerWrongFalsely : Prop := fnExactSteerRow.holds Try.pinned (OpenSpec.ofChange fnExactSteerWrong)

/-- 'laws.FnExactValueAt': WHATEVER THE INPUT: true; the input reads as it did. -/
def fnExactValueAtSpec : ChangeSpec := { name := "fnExactValueAt", fn := fun _ => fun
  | [d1, d2] => { results := [.lit (.bool true)], args := [d1, d2] }
  | _ => none }
def fnExactValueAtRow : OpenClaim := { program := "ytmkmomcpbkogiaa", sum := "32e6094763f7bf9f1a244f1cc2a6f3f6e113a29a0681510ed3624fe7ecb59fe0", func := "loop.example/g00064/laws.FnExactValueAt", spec := "fnExactValueAt", apart := false }
def FnExactValueAtSaid : Prop := fnExactValueAtRow.holds Try.pinned (OpenSpec.ofChange fnExactValueAtSpec)

/-- ITS FALSE NEIGHBOUR: 'it returns false'. Refute it at one input. -/
def fnExactValueAtWrong : ChangeSpec := { name := "fnExactValueAt", fn := fun _ => fun
  | [d1, d2] => { results := [.lit (.bool false)], args := [d1, d2] }
  | _ => none }
def FnExactValueAtWrongFalsely : Prop := fnExactValueAtRow.holds Try.pinned (OpenSpec.ofChange fnExactValueAtWrong)

/- THE SECOND FORM. 'bulk': how many values and letters a reading holds, each counted each time it is reached (what is shared counts as often as it is met; a slice's spare places count too). A statement '..UptoSaid' is the law's where the arguments, and the package variables that the reading takes, are together of bulk at most 1048576: NARROWER than '..Said'. Prove '..Said' where nothing that the law and all that it calls make is longer than what came in: it says more and counts as full. Else prove '..UptoSaid'. A law counts once. -/
mutual
def uptoBulk {H : Type} : DataW H → Nat
  | .lit (.string bytes) => bytes.length + 1
  | .lit _ => 1
  | .nil => 1
  | .ptr d => uptoBulk d + 1
  | .slice elems spare => uptoBulkAll elems + uptoBulkAll spare + 1
  | .agg parts => uptoBulkAll parts + 1
  | .iface _ d => uptoBulk d + 1
  | .map entries => uptoBulkEntries entries + 1
  | .held _ => 1
def uptoBulkAll {H : Type} : List (DataW H) → Nat
  | [] => 0
  | d :: r => uptoBulk d + uptoBulkAll r
def uptoBulkEntries {H : Type} : List (Lit × DataW H) → Nat
  | [] => 0
  | x :: r => uptoBulkEntry x + uptoBulkEntries r
def uptoBulkEntry {H : Type} : Lit × DataW H → Nat
  | (.string bytes, d) => bytes.length + uptoBulk d + 1
  | (_, d) => uptoBulk d + 1
 end
def uptoSmall : (H : Type) → List (DataW H) → Bool := fun _ ds => decide (uptoBulkAll ds ≤ 1048576)
def OpenSpec.upto (s : _root_.Go.ChangeSpec) : _root_.Go.OpenSpec := { _root_.Go.OpenSpec.ofChange s with cond := some uptoSmall }

/-- 'laws.FnExactAngleOf', WHERE WHAT IT READS IS OF BULK AT MOST 1048576: true; the input reads as it did. -/
def fnExactAngleOfUptoRow : OpenClaim := { program := "ytmkmomcpbkogiaa", sum := "32e6094763f7bf9f1a244f1cc2a6f3f6e113a29a0681510ed3624fe7ecb59fe0", func := "loop.example/g00064/laws.FnExactAngleOf", spec := "fnExactAngleOf", recurses := true, apart := false, narrowed := true }
def FnExactAngleOfUptoSaid : Prop := fnExactAngleOfUptoRow.holds Try.pinned (OpenSpec.upto fnExactAngleOfSpec)

/-- 'laws.FnExactFixDiv', WHERE WHAT IT READS IS OF BULK AT MOST 1048576: true; the input reads as it did. -/
def fnExactFixDivUptoRow : OpenClaim := { program := "ytmkmomcpbkogiaa", sum := "32e6094763f7bf9f1a244f1cc2a6f3f6e113a29a0681510ed3624fe7ecb59fe0", func := "loop.example/g00064/laws.FnExactFixDiv", spec := "fnExactFixDiv", apart := false, narrowed := true }
def FnExactFixDivUptoSaid : Prop := fnExactFixDivUptoRow.holds Try.pinned (OpenSpec.upto fnExactFixDivSpec)

/-- 'laws.FnExactFixMul', WHERE WHAT IT READS IS OF BULK AT MOST 1048576: true; the input reads as it did. -/
def fnExactFixMulUptoRow : OpenClaim := { program := "ytmkmomcpbkogiaa", sum := "32e6094763f7bf9f1a244f1cc2a6f3f6e113a29a0681510ed3624fe7ecb59fe0", func := "loop.example/g00064/laws.FnExactFixMul", spec := "fnExactFixMul", inPlace := ["math/bits.Add64"], apart := false, narrowed := true }
def FnExactFixMulUptoSaid : Prop := fnExactFixMulUptoRow.holds Try.pinned (OpenSpec.upto fnExactFixMulSpec)

/-- 'laws.FnExactLengthOf', WHERE WHAT IT READS IS OF BULK AT MOST 1048576: true; the input reads as it did. -/
def fnExactLengthOfUptoRow : OpenClaim := { program := "ytmkmomcpbkogiaa", sum := "32e6094763f7bf9f1a244f1cc2a6f3f6e113a29a0681510ed3624fe7ecb59fe0", func := "loop.example/g00064/laws.FnExactLengthOf", spec := "fnExactLengthOf", inPlace := ["math/bits.Add64"], unfollowed := true, recurses := true, apart := false, narrowed := true }
def FnExactLengthOfUptoSaid : Prop := fnExactLengthOfUptoRow.holds Try.pinned (OpenSpec.upto fnExactLengthOfSpec)

/-- 'laws.FnExactEaseAt', WHERE WHAT IT READS IS OF BULK AT MOST 1048576: true; the input reads as it did. -/
def fnExactEaseAtUptoRow : OpenClaim := { program := "ytmkmomcpbkogiaa", sum := "32e6094763f7bf9f1a244f1cc2a6f3f6e113a29a0681510ed3624fe7ecb59fe0", func := "loop.example/g00064/laws.FnExactEaseAt", spec := "fnExactEaseAt", inPlace := ["math/bits.Add64"], apart := false, narrowed := true }
def FnExactEaseAtUptoSaid : Prop := fnExactEaseAtUptoRow.holds Try.pinned (OpenSpec.upto fnExactEaseAtSpec)

/-- 'laws.FnExactTweenAt', WHERE WHAT IT READS IS OF BULK AT MOST 1048576: true; the input reads as it did. -/
def fnExactTweenAtUptoRow : OpenClaim := { program := "ytmkmomcpbkogiaa", sum := "32e6094763f7bf9f1a244f1cc2a6f3f6e113a29a0681510ed3624fe7ecb59fe0", func := "loop.example/g00064/laws.FnExactTweenAt", spec := "fnExactTweenAt", inPlace := ["math/bits.Add64"], apart := false, narrowed := true }
def FnExactTweenAtUptoSaid : Prop := fnExactTweenAtUptoRow.holds Try.pinned (OpenSpec.upto fnExactTweenAtSpec)

/-- 'laws.FnExactGoodClock', WHERE WHAT IT READS IS OF BULK AT MOST 1048576: true; the input reads as it did. -/
def fnExactGoodClockUptoRow : OpenClaim := { program := "ytmkmomcpbkogiaa", sum := "32e6094763f7bf9f1a244f1cc2a6f3f6e113a29a0681510ed3624fe7ecb59fe0", func := "loop.example/g00064/laws.FnExactGoodClock", spec := "fnExactGoodClock", apart := false, narrowed := true }
def FnExactGoodClockUptoSaid : Prop := fnExactGoodClockUptoRow.holds Try.pinned (OpenSpec.upto fnExactGoodClockSpec)

/-- 'laws.FnExactRunClock', WHERE WHAT IT READS IS OF BULK AT MOST 1048576: true; the input reads as it did. -/
def fnExactRunClockUptoRow : OpenClaim := { program := "ytmkmomcpbkogiaa", sum := "32e6094763f7bf9f1a244f1cc2a6f3f6e113a29a0681510ed3624fe7ecb59fe0", func := "loop.example/g00064/laws.FnExactRunClock", spec := "fnExactRunClock", apart := false, narrowed := true }
def FnExactRunClockUptoSaid : Prop := fnExactRunClockUptoRow.holds Try.pinned (OpenSpec.upto fnExactRunClockSpec)

/-- 'laws.FnExactBestChoice', WHERE WHAT IT READS IS OF BULK AT MOST 1048576: true; the input reads as it did. -/
def fnExactBestChoiceUptoRow : OpenClaim := { program := "ytmkmomcpbkogiaa", sum := "32e6094763f7bf9f1a244f1cc2a6f3f6e113a29a0681510ed3624fe7ecb59fe0", func := "loop.example/g00064/laws.FnExactBestChoice", spec := "fnExactBestChoice", inPlace := ["math/bits.Add64"], unfollowed := true, recurses := true, apart := false, narrowed := true }
def FnExactBestChoiceUptoSaid : Prop := fnExactBestChoiceUptoRow.holds Try.pinned (OpenSpec.upto fnExactBestChoiceSpec)

/-- 'laws.FnExactSteer', WHERE WHAT IT READS IS OF BULK AT MOST 1048576: true; the input reads as it did. -/
def fnExactSteerUptoRow : OpenClaim := { program := "ytmkmomcpbkogiaa", sum := "32e6094763f7bf9f1a244f1cc2a6f3f6e113a29a0681510ed3624fe7ecb59fe0", func := "loop.example/g00064/laws.FnExactSteer", spec := "fnExactSteer", inPlace := ["math/bits.Add64"], unfollowed := true, recurses := true, named := ["math/bits.divideError", "math/bits.overflowError"], apart := false, narrowed := true }
def FnExactSteerUptoSaid : Prop := fnExactSteerUptoRow.holds Try.pinned (OpenSpec.upto fnExactSteerSpec)

/-- 'laws.FnExactValueAt', WHERE WHAT IT READS IS OF BULK AT MOST 1048576: true; the input reads as it did. -/
def fnExactValueAtUptoRow : OpenClaim := { program := "ytmkmomcpbkogiaa", sum := "32e6094763f7bf9f1a244f1cc2a6f3f6e113a29a0681510ed3624fe7ecb59fe0", func := "loop.example/g00064/laws.FnExactValueAt", spec := "fnExactValueAt", apart := false, narrowed := true }
def FnExactValueAtUptoSaid : Prop := fnExactValueAtUptoRow.holds Try.pinned (OpenSpec.upto fnExactValueAtSpec)

end Rows
end Go.Proofs.Ytmkmomcpbkogiaa
