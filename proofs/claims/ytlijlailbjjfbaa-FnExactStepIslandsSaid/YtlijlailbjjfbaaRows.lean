/-
  No cell of these rows narrows 'for every input' (looked for: loops, veiled, ifaces, maps, wideKeys, modest, calm, conditions, laid).
  DERIVED. THE GIVEN ROWS OF THIS SEAT. 12 by the template 'for every input the law returns true; each argument reads behind the call as it read before'; 0 by the template 'total and deterministic' (their statements: YtlijlailbjjfbaaTotals.lean).
  GIVEN WITH THE SEED: the statements are not yours to turn. If you find one false, say at which input.
  Laid BY PROGRAM, IN A SANDBOX (cutbox-rows.mjs): the forced cells as the released guide's own fill.sh prints them over the translation 66fcbefd9139e214… (all of the seat's roots in one cut). By AI agents, Wed Nov 11 2026. No macro, syntax, notation, axiom, sorry.
-/
import Derived.Test.YtlijlailbjjfbaaChecked
import GoSem.Claim
import GoSem.ClaimJoined
import GoSem.ClaimMapViews
import Derived.JoinedTies
import Derived.KernelRfl
namespace Go.Proofs.Ytlijlailbjjfbaa
/- THE CELL 'sum', in the pinned program and in every row, IS THE sha256 OF THE DUMP (.gsa) THAT YtlijlailbjjfbaaProg.lean LOADS. Nothing in Lean hashes anything: it is a label: what it is worth is what the hold of that sum in a sandbox is worth. -/
noncomputable def Try.pinned : Pinned := { name := "ytlijlailbjjfbaa", sum := "66fcbefd9139e214780db797a91341bee967be08dc6ec6f8d1dd6151c3b3cd91", checked := Try.checked }
namespace Rows
def none {H : Type} : Left H := { results := [], args := [] }

/-- 'laws.FnExactGoodLine': WHATEVER THE INPUT: true; the input reads as it did. -/
def fnExactGoodLineSpec : ChangeSpec := { name := "fnExactGoodLine", fn := fun _ => fun
  | [d] => { results := [.lit (.bool true)], args := [d] }
  | _ => none }
def fnExactGoodLineRow : OpenClaim := { program := "ytlijlailbjjfbaa", sum := "66fcbefd9139e214780db797a91341bee967be08dc6ec6f8d1dd6151c3b3cd91", func := "loop.example/g00064/laws.FnExactGoodLine", spec := "fnExactGoodLine", unfollowed := true, recurses := true, apart := false }
def FnExactGoodLineSaid : Prop := fnExactGoodLineRow.holds Try.pinned (OpenSpec.ofChange fnExactGoodLineSpec)

/-- ITS FALSE NEIGHBOUR: 'it returns false'. Refute it at one input. -/
def fnExactGoodLineWrong : ChangeSpec := { name := "fnExactGoodLine", fn := fun _ => fun
  | [d] => { results := [.lit (.bool false)], args := [d] }
  | _ => none }
def FnExactGoodLineWrongFalsely : Prop := fnExactGoodLineRow.holds Try.pinned (OpenSpec.ofChange fnExactGoodLineWrong)

/-- 'laws.FnExactPushPair': WHATEVER THE INPUT: true; the input reads as it did. -/
def fnExactPushPairSpec : ChangeSpec := { name := "fnExactPushPair", fn := fun _ => fun
  | [d1, d2, d3] => { results := [.lit (.bool true)], args := [d1, d2, d3] }
  | _ => none }
def fnExactPushPairRow : OpenClaim := { program := "ytlijlailbjjfbaa", sum := "66fcbefd9139e214780db797a91341bee967be08dc6ec6f8d1dd6151c3b3cd91", func := "loop.example/g00064/laws.FnExactPushPair", spec := "fnExactPushPair", unfollowed := true, recurses := true, apart := false }
def FnExactPushPairSaid : Prop := fnExactPushPairRow.holds Try.pinned (OpenSpec.ofChange fnExactPushPairSpec)

/-- ITS FALSE NEIGHBOUR: 'it returns false'. Refute it at one input. -/
def fnExactPushPairWrong : ChangeSpec := { name := "fnExactPushPair", fn := fun _ => fun
  | [d1, d2, d3] => { results := [.lit (.bool false)], args := [d1, d2, d3] }
  | _ => none }
def FnExactPushPairWrongFalsely : Prop := fnExactPushPairRow.holds Try.pinned (OpenSpec.ofChange fnExactPushPairWrong)

/-- 'laws.FnExactBookOf': WHATEVER THE INPUT: true; the input reads as it did. -/
def fnExactBookOfSpec : ChangeSpec := { name := "fnExactBookOf", fn := fun _ => fun
  | [d] => { results := [.lit (.bool true)], args := [d] }
  | _ => none }
def fnExactBookOfRow : OpenClaim := { program := "ytlijlailbjjfbaa", sum := "66fcbefd9139e214780db797a91341bee967be08dc6ec6f8d1dd6151c3b3cd91", func := "loop.example/g00064/laws.FnExactBookOf", spec := "fnExactBookOf", unfollowed := true, recurses := true, apart := false }
def FnExactBookOfSaid : Prop := fnExactBookOfRow.holds Try.pinned (OpenSpec.ofChange fnExactBookOfSpec)

/-- ITS FALSE NEIGHBOUR: 'it returns false'. Refute it at one input. -/
def fnExactBookOfWrong : ChangeSpec := { name := "fnExactBookOf", fn := fun _ => fun
  | [d] => { results := [.lit (.bool false)], args := [d] }
  | _ => none }
def FnExactBookOfWrongFalsely : Prop := fnExactBookOfRow.holds Try.pinned (OpenSpec.ofChange fnExactBookOfWrong)

/-- 'laws.FnExactIslandsOf': WHATEVER THE INPUT: true; the input reads as it did. -/
def fnExactIslandsOfSpec : ChangeSpec := { name := "fnExactIslandsOf", fn := fun _ => fun
  | [d1, d2] => { results := [.lit (.bool true)], args := [d1, d2] }
  | _ => none }
def fnExactIslandsOfRow : OpenClaim := { program := "ytlijlailbjjfbaa", sum := "66fcbefd9139e214780db797a91341bee967be08dc6ec6f8d1dd6151c3b3cd91", func := "loop.example/g00064/laws.FnExactIslandsOf", spec := "fnExactIslandsOf", unfollowed := true, recurses := true, apart := false }
def FnExactIslandsOfSaid : Prop := fnExactIslandsOfRow.holds Try.pinned (OpenSpec.ofChange fnExactIslandsOfSpec)

/-- ITS FALSE NEIGHBOUR: 'it returns false'. Refute it at one input. -/
def fnExactIslandsOfWrong : ChangeSpec := { name := "fnExactIslandsOf", fn := fun _ => fun
  | [d1, d2] => { results := [.lit (.bool false)], args := [d1, d2] }
  | _ => none }
def FnExactIslandsOfWrongFalsely : Prop := fnExactIslandsOfRow.holds Try.pinned (OpenSpec.ofChange fnExactIslandsOfWrong)

/-- 'laws.FnExactMoveLine': WHATEVER THE INPUT: true; the input reads as it did. -/
def fnExactMoveLineSpec : ChangeSpec := { name := "fnExactMoveLine", fn := fun _ => fun
  | [d1, d2] => { results := [.lit (.bool true)], args := [d1, d2] }
  | _ => none }
def fnExactMoveLineRow : OpenClaim := { program := "ytlijlailbjjfbaa", sum := "66fcbefd9139e214780db797a91341bee967be08dc6ec6f8d1dd6151c3b3cd91", func := "loop.example/g00064/laws.FnExactMoveLine", spec := "fnExactMoveLine", unfollowed := true, recurses := true, apart := false }
def FnExactMoveLineSaid : Prop := fnExactMoveLineRow.holds Try.pinned (OpenSpec.ofChange fnExactMoveLineSpec)

/-- ITS FALSE NEIGHBOUR: 'it returns false'. Refute it at one input. -/
def fnExactMoveLineWrong : ChangeSpec := { name := "fnExactMoveLine", fn := fun _ => fun
  | [d1, d2] => { results := [.lit (.bool false)], args := [d1, d2] }
  | _ => none }
def FnExactMoveLineWrongFalsely : Prop := fnExactMoveLineRow.holds Try.pinned (OpenSpec.ofChange fnExactMoveLineWrong)

/-- 'laws.FnExactPushLine': WHATEVER THE INPUT: true; the input reads as it did. -/
def fnExactPushLineSpec : ChangeSpec := { name := "fnExactPushLine", fn := fun _ => fun
  | [d1, d2, d3] => { results := [.lit (.bool true)], args := [d1, d2, d3] }
  | _ => none }
def fnExactPushLineRow : OpenClaim := { program := "ytlijlailbjjfbaa", sum := "66fcbefd9139e214780db797a91341bee967be08dc6ec6f8d1dd6151c3b3cd91", func := "loop.example/g00064/laws.FnExactPushLine", spec := "fnExactPushLine", unfollowed := true, recurses := true, apart := false }
def FnExactPushLineSaid : Prop := fnExactPushLineRow.holds Try.pinned (OpenSpec.ofChange fnExactPushLineSpec)

/-- ITS FALSE NEIGHBOUR: 'it returns false'. Refute it at one input. -/
def fnExactPushLineWrong : ChangeSpec := { name := "fnExactPushLine", fn := fun _ => fun
  | [d1, d2, d3] => { results := [.lit (.bool false)], args := [d1, d2, d3] }
  | _ => none }
def FnExactPushLineWrongFalsely : Prop := fnExactPushLineRow.holds Try.pinned (OpenSpec.ofChange fnExactPushLineWrong)

/-- 'laws.FnExactStepLine': WHATEVER THE INPUT: true; the input reads as it did. -/
def fnExactStepLineSpec : ChangeSpec := { name := "fnExactStepLine", fn := fun _ => fun
  | [d1, d2, d3, d4] => { results := [.lit (.bool true)], args := [d1, d2, d3, d4] }
  | _ => none }
def fnExactStepLineRow : OpenClaim := { program := "ytlijlailbjjfbaa", sum := "66fcbefd9139e214780db797a91341bee967be08dc6ec6f8d1dd6151c3b3cd91", func := "loop.example/g00064/laws.FnExactStepLine", spec := "fnExactStepLine", unfollowed := true, recurses := true, apart := false }
def FnExactStepLineSaid : Prop := fnExactStepLineRow.holds Try.pinned (OpenSpec.ofChange fnExactStepLineSpec)

/-- ITS FALSE NEIGHBOUR: 'it returns false'. Refute it at one input. -/
def fnExactStepLineWrong : ChangeSpec := { name := "fnExactStepLine", fn := fun _ => fun
  | [d1, d2, d3, d4] => { results := [.lit (.bool false)], args := [d1, d2, d3, d4] }
  | _ => none }
def FnExactStepLineWrongFalsely : Prop := fnExactStepLineRow.holds Try.pinned (OpenSpec.ofChange fnExactStepLineWrong)

/-- 'laws.FnExactStepIslands': WHATEVER THE INPUT: true; the input reads as it did. -/
def fnExactStepIslandsSpec : ChangeSpec := { name := "fnExactStepIslands", fn := fun _ => fun
  | [d1, d2, d3, d4] => { results := [.lit (.bool true)], args := [d1, d2, d3, d4] }
  | _ => none }
def fnExactStepIslandsRow : OpenClaim := { program := "ytlijlailbjjfbaa", sum := "66fcbefd9139e214780db797a91341bee967be08dc6ec6f8d1dd6151c3b3cd91", func := "loop.example/g00064/laws.FnExactStepIslands", spec := "fnExactStepIslands", unfollowed := true, recurses := true, apart := false }
def FnExactStepIslandsSaid : Prop := fnExactStepIslandsRow.holds Try.pinned (OpenSpec.ofChange fnExactStepIslandsSpec)

/-- ITS FALSE NEIGHBOUR: 'it returns false'. Refute it at one input. -/
def fnExactStepIslandsWrong : ChangeSpec := { name := "fnExactStepIslands", fn := fun _ => fun
  | [d1, d2, d3, d4] => { results := [.lit (.bool false)], args := [d1, d2, d3, d4] }
  | _ => none }
def FnExactStepIslandsWrongFalsely : Prop := fnExactStepIslandsRow.holds Try.pinned (OpenSpec.ofChange fnExactStepIslandsWrong)

/-- 'laws.FnExactTouch': WHATEVER THE INPUT: true; the input reads as it did. -/
def fnExactTouchSpec : ChangeSpec := { name := "fnExactTouch", fn := fun _ => fun
  | [d1, d2] => { results := [.lit (.bool true)], args := [d1, d2] }
  | _ => none }
def fnExactTouchRow : OpenClaim := { program := "ytlijlailbjjfbaa", sum := "66fcbefd9139e214780db797a91341bee967be08dc6ec6f8d1dd6151c3b3cd91", func := "loop.example/g00064/laws.FnExactTouch", spec := "fnExactTouch", recurses := true, apart := false }
def FnExactTouchSaid : Prop := fnExactTouchRow.holds Try.pinned (OpenSpec.ofChange fnExactTouchSpec)

/-- ITS FALSE NEIGHBOUR: 'it returns false'. Refute it at one input. -/
def fnExactTouchWrong : ChangeSpec := { name := "fnExactTouch", fn := fun _ => fun
  | [d1, d2] => { results := [.lit (.bool false)], args := [d1, d2] }
  | _ => none }
def FnExactTouchWrongFalsely : Prop := fnExactTouchRow.holds Try.pinned (OpenSpec.ofChange fnExactTouchWrong)

/-- 'laws.FnExactAllPairs': WHATEVER THE INPUT: true; the input reads as it did. -/
def fnExactAllPairsSpec : ChangeSpec := { name := "fnExactAllPairs", fn := fun _ => fun
  | [d] => { results := [.lit (.bool true)], args := [d] }
  | _ => none }
def fnExactAllPairsRow : OpenClaim := { program := "ytlijlailbjjfbaa", sum := "66fcbefd9139e214780db797a91341bee967be08dc6ec6f8d1dd6151c3b3cd91", func := "loop.example/g00064/laws.FnExactAllPairs", spec := "fnExactAllPairs", unfollowed := true, recurses := true, apart := false }
def FnExactAllPairsSaid : Prop := fnExactAllPairsRow.holds Try.pinned (OpenSpec.ofChange fnExactAllPairsSpec)

/-- ITS FALSE NEIGHBOUR: 'it returns false'. Refute it at one input. -/
def fnExactAllPairsWrong : ChangeSpec := { name := "fnExactAllPairs", fn := fun _ => fun
  | [d] => { results := [.lit (.bool false)], args := [d] }
  | _ => none }
def FnExactAllPairsWrongFalsely : Prop := fnExactAllPairsRow.holds Try.pinned (OpenSpec.ofChange fnExactAllPairsWrong)

/-- 'laws.FnExactSweepPairs': WHATEVER THE INPUT: true; the input reads as it did. -/
def fnExactSweepPairsSpec : ChangeSpec := { name := "fnExactSweepPairs", fn := fun _ => fun
  | [d] => { results := [.lit (.bool true)], args := [d] }
  | _ => none }
def fnExactSweepPairsRow : OpenClaim := { program := "ytlijlailbjjfbaa", sum := "66fcbefd9139e214780db797a91341bee967be08dc6ec6f8d1dd6151c3b3cd91", func := "loop.example/g00064/laws.FnExactSweepPairs", spec := "fnExactSweepPairs", unfollowed := true, recurses := true, apart := false }
def FnExactSweepPairsSaid : Prop := fnExactSweepPairsRow.holds Try.pinned (OpenSpec.ofChange fnExactSweepPairsSpec)

/-- ITS FALSE NEIGHBOUR: 'it returns false'. Refute it at one input. -/
def fnExactSweepPairsWrong : ChangeSpec := { name := "fnExactSweepPairs", fn := fun _ => fun
  | [d] => { results := [.lit (.bool false)], args := [d] }
  | _ => none }
def FnExactSweepPairsWrongFalsely : Prop := fnExactSweepPairsRow.holds Try.pinned (OpenSpec.ofChange fnExactSweepPairsWrong)

/-- 'laws.FnExactRayMeets': WHATEVER THE INPUT: true; the input reads as it did. -/
def fnExactRayMeetsSpec : ChangeSpec := { name := "fnExactRayMeets", fn := fun _ => fun
  | [d1, d2, d3, d4, d5] => { results := [.lit (.bool true)], args := [d1, d2, d3, d4, d5] }
  | _ => none }
def fnExactRayMeetsRow : OpenClaim := { program := "ytlijlailbjjfbaa", sum := "66fcbefd9139e214780db797a91341bee967be08dc6ec6f8d1dd6151c3b3cd91", func := "loop.example/g00064/laws.FnExactRayMeets", spec := "fnExactRayMeets", unfollowed := true, recurses := true, apart := false }
def FnExactRayMeetsSaid : Prop := fnExactRayMeetsRow.holds Try.pinned (OpenSpec.ofChange fnExactRayMeetsSpec)

/-- ITS FALSE NEIGHBOUR: 'it returns false'. Refute it at one input. -/
def fnExactRayMeetsWrong : ChangeSpec := { name := "fnExactRayMeets", fn := fun _ => fun
  | [d1, d2, d3, d4, d5] => { results := [.lit (.bool false)], args := [d1, d2, d3, d4, d5] }
  | _ => none }
def FnExactRayMeetsWrongFalsely : Prop := fnExactRayMeetsRow.holds Try.pinned (OpenSpec.ofChange fnExactRayMeetsWrong)

/- THE SECOND FORM. 'bulk': how many values and letters a reading holds, each counted each time it is reached (what is shared counts as often as it is met; a slice's spare places count too). A statement '..UptoSaid' is the law's where the arguments, and the package variables that the reading takes, are together of bulk at most 1048576: NARROWER than '..Said'. Prove '..Said' where nothing that the law and all that it calls make is longer than what came in: it says more and counts as full. Else prove '..UptoSaid'. A law counts once. -/
mutual
def uptoBulk {H : Type} : DataW H → Nat
  | .lit (.string bytes) => bytes.length + 1
  | .lit _ => 1
  | .nil => 1
  | .ptr d => uptoBulk d + 1
  | .slice elems spare => uptoBulkAll elems + uptoBulkAll spare + 1
  | .agg parts => uptoBulkAll parts + 1
  | .iface _ d => uptoBulk d + 1
  | .map entries => uptoBulkEntries entries + 1
  | .held _ => 1
def uptoBulkAll {H : Type} : List (DataW H) → Nat
  | [] => 0
  | d :: r => uptoBulk d + uptoBulkAll r
def uptoBulkEntries {H : Type} : List (Lit × DataW H) → Nat
  | [] => 0
  | x :: r => uptoBulkEntry x + uptoBulkEntries r
def uptoBulkEntry {H : Type} : Lit × DataW H → Nat
  | (.string bytes, d) => bytes.length + uptoBulk d + 1
  | (_, d) => uptoBulk d + 1
 end
def uptoSmall : (H : Type) → List (DataW H) → Bool := fun _ ds => decide (uptoBulkAll ds ≤ 1048576)
def OpenSpec.upto (s : _root_.Go.ChangeSpec) : _root_.Go.OpenSpec := { _root_.Go.OpenSpec.ofChange s with cond := some uptoSmall }

/-- 'laws.FnExactGoodLine', WHERE WHAT IT READS IS OF BULK AT MOST 1048576: true; the input reads as it did. -/
def fnExactGoodLineUptoRow : OpenClaim := { program := "ytlijlailbjjfbaa", sum := "66fcbefd9139e214780db797a91341bee967be08dc6ec6f8d1dd6151c3b3cd91", func := "loop.example/g00064/laws.FnExactGoodLine", spec := "fnExactGoodLine", unfollowed := true, recurses := true, apart := false, narrowed := true }
def FnExactGoodLineUptoSaid : Prop := fnExactGoodLineUptoRow.holds Try.pinned (OpenSpec.upto fnExactGoodLineSpec)

/-- 'laws.FnExactPushPair', WHERE WHAT IT READS IS OF BULK AT MOST 1048576: true; the input reads as it did. -/
def fnExactPushPairUptoRow : OpenClaim := { program := "ytlijlailbjjfbaa", sum := "66fcbefd9139e214780db797a91341bee967be08dc6ec6f8d1dd6151c3b3cd91", func := "loop.example/g00064/laws.FnExactPushPair", spec := "fnExactPushPair", unfollowed := true, recurses := true, apart := false, narrowed := true }
def FnExactPushPairUptoSaid : Prop := fnExactPushPairUptoRow.holds Try.pinned (OpenSpec.upto fnExactPushPairSpec)

/-- 'laws.FnExactBookOf', WHERE WHAT IT READS IS OF BULK AT MOST 1048576: true; the input reads as it did. -/
def fnExactBookOfUptoRow : OpenClaim := { program := "ytlijlailbjjfbaa", sum := "66fcbefd9139e214780db797a91341bee967be08dc6ec6f8d1dd6151c3b3cd91", func := "loop.example/g00064/laws.FnExactBookOf", spec := "fnExactBookOf", unfollowed := true, recurses := true, apart := false, narrowed := true }
def FnExactBookOfUptoSaid : Prop := fnExactBookOfUptoRow.holds Try.pinned (OpenSpec.upto fnExactBookOfSpec)

/-- 'laws.FnExactIslandsOf', WHERE WHAT IT READS IS OF BULK AT MOST 1048576: true; the input reads as it did. -/
def fnExactIslandsOfUptoRow : OpenClaim := { program := "ytlijlailbjjfbaa", sum := "66fcbefd9139e214780db797a91341bee967be08dc6ec6f8d1dd6151c3b3cd91", func := "loop.example/g00064/laws.FnExactIslandsOf", spec := "fnExactIslandsOf", unfollowed := true, recurses := true, apart := false, narrowed := true }
def FnExactIslandsOfUptoSaid : Prop := fnExactIslandsOfUptoRow.holds Try.pinned (OpenSpec.upto fnExactIslandsOfSpec)

/-- 'laws.FnExactMoveLine', WHERE WHAT IT READS IS OF BULK AT MOST 1048576: true; the input reads as it did. -/
def fnExactMoveLineUptoRow : OpenClaim := { program := "ytlijlailbjjfbaa", sum := "66fcbefd9139e214780db797a91341bee967be08dc6ec6f8d1dd6151c3b3cd91", func := "loop.example/g00064/laws.FnExactMoveLine", spec := "fnExactMoveLine", unfollowed := true, recurses := true, apart := false, narrowed := true }
def FnExactMoveLineUptoSaid : Prop := fnExactMoveLineUptoRow.holds Try.pinned (OpenSpec.upto fnExactMoveLineSpec)

/-- 'laws.FnExactPushLine', WHERE WHAT IT READS IS OF BULK AT MOST 1048576: true; the input reads as it did. -/
def fnExactPushLineUptoRow : OpenClaim := { program := "ytlijlailbjjfbaa", sum := "66fcbefd9139e214780db797a91341bee967be08dc6ec6f8d1dd6151c3b3cd91", func := "loop.example/g00064/laws.FnExactPushLine", spec := "fnExactPushLine", unfollowed := true, recurses := true, apart := false, narrowed := true }
def FnExactPushLineUptoSaid : Prop := fnExactPushLineUptoRow.holds Try.pinned (OpenSpec.upto fnExactPushLineSpec)

/-- 'laws.FnExactStepLine', WHERE WHAT IT READS IS OF BULK AT MOST 1048576: true; the input reads as it did. -/
def fnExactStepLineUptoRow : OpenClaim := { program := "ytlijlailbjjfbaa", sum := "66fcbefd9139e214780db797a91341bee967be08dc6ec6f8d1dd6151c3b3cd91", func := "loop.example/g00064/laws.FnExactStepLine", spec := "fnExactStepLine", unfollowed := true, recurses := true, apart := false, narrowed := true }
def FnExactStepLineUptoSaid : Prop := fnExactStepLineUptoRow.holds Try.pinned (OpenSpec.upto fnExactStepLineSpec)

/-- 'laws.FnExactStepIslands', WHERE WHAT IT READS IS OF BULK AT MOST 1048576: true; the input reads as it did. -/
def fnExactStepIslandsUptoRow : OpenClaim := { program := "ytlijlailbjjfbaa", sum := "66fcbefd9139e214780db797a91341bee967be08dc6ec6f8d1dd6151c3b3cd91", func := "loop.example/g00064/laws.FnExactStepIslands", spec := "fnExactStepIslands", unfollowed := true, recurses := true, apart := false, narrowed := true }
def FnExactStepIslandsUptoSaid : Prop := fnExactStepIslandsUptoRow.holds Try.pinned (OpenSpec.upto fnExactStepIslandsSpec)

/-- 'laws.FnExactTouch', WHERE WHAT IT READS IS OF BULK AT MOST 1048576: true; the input reads as it did. -/
def fnExactTouchUptoRow : OpenClaim := { program := "ytlijlailbjjfbaa", sum := "66fcbefd9139e214780db797a91341bee967be08dc6ec6f8d1dd6151c3b3cd91", func := "loop.example/g00064/laws.FnExactTouch", spec := "fnExactTouch", recurses := true, apart := false, narrowed := true }
def FnExactTouchUptoSaid : Prop := fnExactTouchUptoRow.holds Try.pinned (OpenSpec.upto fnExactTouchSpec)

/-- 'laws.FnExactAllPairs', WHERE WHAT IT READS IS OF BULK AT MOST 1048576: true; the input reads as it did. -/
def fnExactAllPairsUptoRow : OpenClaim := { program := "ytlijlailbjjfbaa", sum := "66fcbefd9139e214780db797a91341bee967be08dc6ec6f8d1dd6151c3b3cd91", func := "loop.example/g00064/laws.FnExactAllPairs", spec := "fnExactAllPairs", unfollowed := true, recurses := true, apart := false, narrowed := true }
def FnExactAllPairsUptoSaid : Prop := fnExactAllPairsUptoRow.holds Try.pinned (OpenSpec.upto fnExactAllPairsSpec)

/-- 'laws.FnExactSweepPairs', WHERE WHAT IT READS IS OF BULK AT MOST 1048576: true; the input reads as it did. -/
def fnExactSweepPairsUptoRow : OpenClaim := { program := "ytlijlailbjjfbaa", sum := "66fcbefd9139e214780db797a91341bee967be08dc6ec6f8d1dd6151c3b3cd91", func := "loop.example/g00064/laws.FnExactSweepPairs", spec := "fnExactSweepPairs", unfollowed := true, recurses := true, apart := false, narrowed := true }
def FnExactSweepPairsUptoSaid : Prop := fnExactSweepPairsUptoRow.holds Try.pinned (OpenSpec.upto fnExactSweepPairsSpec)

/-- 'laws.FnExactRayMeets', WHERE WHAT IT READS IS OF BULK AT MOST 1048576: true; the input reads as it did. -/
def fnExactRayMeetsUptoRow : OpenClaim := { program := "ytlijlailbjjfbaa", sum := "66fcbefd9139e214780db797a91341bee967be08dc6ec6f8d1dd6151c3b3cd91", func := "loop.example/g00064/laws.FnExactRayMeets", spec := "fnExactRayMeets", unfollowed := true, recurses := true, apart := false, narrowed := true }
def FnExactRayMeetsUptoSaid : Prop := fnExactRayMeetsUptoRow.holds Try.pinned (OpenSpec.upto fnExactRayMeetsSpec)

end Rows
end Go.Proofs.Ytlijlailbjjfbaa
