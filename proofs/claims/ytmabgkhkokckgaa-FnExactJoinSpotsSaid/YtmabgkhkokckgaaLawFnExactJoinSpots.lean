/- The row of the law FnExactJoinSpots: for every input that can be read the Go function returns true and leaves its input as it was. No condition. Written by this session's program. -/
import Derived.Test.YtmabgkhkokckgaaRows
import Derived.Test.YtmabgkhkokckgaaPFnExactJoinSpotsx3
import Derived.Test.YtmabgkhkokckgaaPureFnExactJoinSpots
import Derived.Test.YtmabgkhkokckgaaOpens
import Derived.WalkKit
import Derived.ProofKit
import Derived.OpenShut
import Derived.ShutString
import Derived.ChangeOld
import Derived.Below
import Derived.SizedLaws
namespace Go.Proofs.Ytmabgkhkokckgaa.fnExactJoinSpots
open Go.ChangeShapes Go.WideShapes Go.ChangeAt Go.RowKit Go.Proofs.Ytmabgkhkokckgaa.Opens Go.Proofs.YtmabgkhkokckgaaW.PrintWords Go.Proofs.Ytmabgkhkokckgaa.PFnExactJoinSpots Go.Proofs.Ytmabgkhkokckgaa.Pure
open Go.ChangeMaps (open_string shut_string)
set_option linter.unusedVariables false
theorem own : ownKnob Try.prog.godebug = none := by kernel_rfl
theorem laidOut : laidOutB Try.prog = true := by kernel_rfl
set_option maxRecDepth 100000 in
theorem o3 : Opens Try.prog 3 (Kd.int .i64) (fun y => (Lit.int .i64 y).wf = true) := opens_int Try.underlying3
set_option maxRecDepth 100000 in
theorem o4 : Opens Try.prog 4 Kd.bool (fun y => True) := opens_bool Try.underlying4
set_option maxRecDepth 100000 in
theorem o23top : Opens Try.prog 23 (Kd.pair (Kd.int .i64) (Kd.pair (Kd.int .i64) (Kd.pair (Kd.int .i64) Kd.bool))) (fun y => ((Lit.int .i64 y.1).wf = true ∧ ((Lit.int .i64 y.2.1).wf = true ∧ ((Lit.int .i64 y.2.2.1).wf = true ∧ True)))) := opens_structL (n := 4) Try.underlying23 rfl (by kernel_rfl) (opensF_cons (start := 0) (mid := 1) (stop := 4) rfl (by kernel_rfl) (by decide) (by decide) o3 (opensF_cons (start := 1) (mid := 2) (stop := 4) rfl (by kernel_rfl) (by decide) (by decide) o3 (opensF_cons (start := 2) (mid := 3) (stop := 4) rfl (by kernel_rfl) (by decide) (by decide) o3 (opensF_one (start := 3) (stop := 4) rfl (by kernel_rfl) o4))))
set_option maxRecDepth 100000 in
theorem lifted (os : Os) (started : os.Started) (H : Type) (enc : TypeId × Value → H) :
    ReturnsInHanded {} Try.checked os 3 .any (Rows.fnExactJoinSpotsSpec.pre6 enc Try.prog Try.f3 Rows.fnExactJoinSpotsRow.domain false) (Rows.fnExactJoinSpotsSpec.post enc Try.prog Try.f3 false true false false) := by
  refine returnsInHanded_of_change_sized (C := Try.checked) own started (by kernel_rfl) Try.func3
    (ChangeSpec.witness6 (enc := enc) (C := Try.checked) false ⟨#[], #[.agg #[.int .i64 0, .int .i64 0, .int .i64 0, .bool false], .agg #[.int .i64 0, .int .i64 0, .int .i64 0, .bool false]], []⟩ 8 (by kernel_rfl) (by kernel_rfl) (by kernel_rfl) (by kernel_rfl)) ?_
  intro W base args ds gs before hval0 hW hcnd hsz0 _
  have hsz : (DataW.weightsEach Try.prog (Try.f3.params.toList ++ Rows.fnExactJoinSpotsSpec.plain.varTypes Try.prog) (ds ++ gs)).all (· ≤ reachBytes) = true := hsz0
  have hval : ∀ (j : Nat) t v, Try.f3.params[j]? = some t → args[j]? = some v → Value.okWide Try.prog W .any base t v := hval0
  have hW' := hW
  obtain ⟨p, q, hA0, hV, rfl, hfz, hnd⟩ := hW
  have hA : DataW.TrodAll enc Try.prog W 0 (fun _ => true) true Try.f3.params.toList args.toList ds p := hA0
  rw [Try.params3] at hA hval hsz
  obtain ⟨v0, vs0, d0, ds0, p0, q0, hargs, rfl, rfl, h0, r0⟩ := trodAll_cons hA
  obtain ⟨v1, vs1, d1, ds1, p1, q1, rfl, rfl, rfl, h1, r1⟩ := trodAll_cons r0
  obtain ⟨rfl, rfl, rfl⟩ := trodAll_nil r1
  obtain rfl : args = #[v0, v1] := by cases args; simp_all
  obtain ⟨rfl, rfl⟩ := trodVars_none hV
  have k0_ := h0
  have lt0 : ∀ x ∈ p0, x.block < W.heap.size := by obtain ⟨m, hm⟩ := k0_; exact DataW.trod_lt m _ _ _ hm
  obtain ⟨y0, K0, G0⟩ := opens_arg o23top h0 hsz (j := 0) rfl rfl
  obtain ⟨cs0, rfl, -⟩ := okWide_struct Try.underlying23 (hval 0 23 v0 rfl rfl)
  replace K0 : ((Kd.pair (Kd.int .i64) (Kd.pair (Kd.int .i64) (Kd.pair (Kd.int .i64) Kd.bool)))).K W y0 cs0.toList := K0
  obtain ⟨_, _, e0, rfl, ⟨_, _, rfl, rfl, ⟨_, _, rfl, rfl, rfl⟩⟩⟩ := K0
  obtain rfl : cs0 = #[.int .i64 y0.1, .int .i64 y0.2.1, .int .i64 y0.2.2.1, .bool y0.2.2.2] := Array.ext' (by rw [e0]; rfl)
  clear e0
  have k1_ := h1
  have lt1 : ∀ x ∈ p1, x.block < W.heap.size := by obtain ⟨m, hm⟩ := k1_; exact DataW.trod_lt m _ _ _ hm
  obtain ⟨y1, K1, G1⟩ := opens_arg o23top h1 hsz (j := 1) rfl rfl
  obtain ⟨cs1, rfl, -⟩ := okWide_struct Try.underlying23 (hval 1 23 v1 rfl rfl)
  replace K1 : ((Kd.pair (Kd.int .i64) (Kd.pair (Kd.int .i64) (Kd.pair (Kd.int .i64) Kd.bool)))).K W y1 cs1.toList := K1
  obtain ⟨_, _, e1, rfl, ⟨_, _, rfl, rfl, ⟨_, _, rfl, rfl, rfl⟩⟩⟩ := K1
  obtain rfl : cs1 = #[.int .i64 y1.1, .int .i64 y1.2.1, .int .i64 y1.2.2.1, .bool y1.2.2.2] := Array.ext' (by rw [e1]; rfl)
  clear e1
  obtain ⟨k, h⟩ := Pure.FnExactJoinSpots (y0.1) (y0.2.1) (y0.2.2.1) (y0.2.2.2) (y1.1) (y1.2.1) (y1.2.2.1) (y1.2.2.2) (G0.1) (G0.2.1) (G0.2.2.1) (G1.1) (G1.2.1) (G1.2.2.1)
  clear hA0 hval0 hsz0 hsz hval
  refine (laws_FnExactJoinSpots.calls k (y0.1) (y0.2.1) (y0.2.2.1) (y0.2.2.2) (y1.1) (y1.2.1) (y1.2.2.1) (y1.2.2.2) true W h).mono fun e W' ⟨he, bel0⟩ => ?_
  have bel : Below W.heap.size W W' := bel0
  subst he
  exact ⟨_, rfl, _, _, _, [], _, [], hW', trodAll_mk1 (shut_bool Try.underlying4 _), (trodAll_cons_mk (Below.trod laidOut (by kernel_rfl) (of_decide_eq_true (by kernel_rfl)) k0_ bel lt0) (trodAll_cons_mk (Below.trod laidOut (by kernel_rfl) (of_decide_eq_true (by kernel_rfl)) k1_ bel lt1) trodAll_mk0)), rfl, bel.frame _, fun h => by cases h⟩
theorem over : Rows.fnExactJoinSpotsRow.holds Try.pinned (OpenSpec.ofChange Rows.fnExactJoinSpotsSpec) :=
  OpenClaim.holds_of_wide 3 Try.f3 rfl rfl rfl rfl rfl rfl rfl ⟨rfl, rfl, rfl, rfl, rfl⟩ rfl rfl rfl rfl rfl (by kernel_rfl) Try.func3 (by kernel_rfl)
    (of_decide_eq_true (by kernel_rfl)) (by unfold Func.isWrapper; first | (rw [if_pos (by decide +kernel)]; kernel_rfl) | (rw [if_neg (by decide +kernel)]; exact ⟨rfl, rfl⟩))
    (fun os started H enc _ => lifted os started H enc)
theorem proved : Rows.FnExactJoinSpotsSaid := over
#print axioms proved
end Go.Proofs.Ytmabgkhkokckgaa.fnExactJoinSpots
namespace Go.Proofs.Ytmabgkhkokckgaa
/-- The row, under a short name, for the claim. -/
theorem fnExactJoinSpots_holds : Rows.FnExactJoinSpotsSaid := fnExactJoinSpots.proved
end Go.Proofs.Ytmabgkhkokckgaa
