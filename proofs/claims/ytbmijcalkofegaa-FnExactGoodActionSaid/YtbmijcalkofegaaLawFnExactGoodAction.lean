/- The row of the law FnExactGoodAction: for every input that can be read the Go function returns true and leaves its input as it was. No condition. Written by this session's program. -/
import Derived.Test.YtbmijcalkofegaaRows
import Derived.Test.YtbmijcalkofegaaPFnExactGoodActionx2
import Derived.Test.YtbmijcalkofegaaPureFnExactGoodAction
import Derived.Test.YtbmijcalkofegaaOpens
import Derived.WalkKit
import Derived.ProofKit
import Derived.OpenShut
import Derived.ShutString
import Derived.ChangeOld
import Derived.Below
import Derived.SizedLaws
namespace Go.Proofs.Ytbmijcalkofegaa.fnExactGoodAction
open Go.ChangeShapes Go.WideShapes Go.ChangeAt Go.RowKit Go.Proofs.Ytbmijcalkofegaa.Opens Go.Proofs.YtbmijcalkofegaaW.PrintWords Go.Proofs.Ytbmijcalkofegaa.PFnExactGoodAction Go.Proofs.Ytbmijcalkofegaa.Pure
open Go.ChangeMaps (open_string shut_string)
set_option linter.unusedVariables false
theorem own : ownKnob Try.prog.godebug = none := by kernel_rfl
theorem laidOut : laidOutB Try.prog = true := by kernel_rfl
set_option maxRecDepth 100000 in
theorem o9 : Opens Try.prog 9 Kd.string (fun y => ByteArray.size y ≤ 140737488351232) := opens_string Try.underlying9
set_option maxRecDepth 100000 in
theorem o3 : Opens Try.prog 3 (Kd.int .i64) (fun y => (Lit.int .i64 y).wf = true) := opens_int Try.underlying3
set_option maxRecDepth 100000 in
theorem o39top : Opens Try.prog 39 (Kd.pair Kd.string (Kd.pair (Kd.int .i64) (Kd.pair (Kd.int .i64) (Kd.pair (Kd.int .i64) (Kd.pair (Kd.int .i64) (Kd.int .i64)))))) (fun y => (ByteArray.size y.1 ≤ 140737488351232 ∧ ((Lit.int .i64 y.2.1).wf = true ∧ ((Lit.int .i64 y.2.2.1).wf = true ∧ ((Lit.int .i64 y.2.2.2.1).wf = true ∧ ((Lit.int .i64 y.2.2.2.2.1).wf = true ∧ (Lit.int .i64 y.2.2.2.2.2).wf = true)))))) := opens_structL (n := 6) Try.underlying39 rfl (by kernel_rfl) (opensF_cons (start := 0) (mid := 1) (stop := 6) rfl (by kernel_rfl) (by decide) (by decide) o9 (opensF_cons (start := 1) (mid := 2) (stop := 6) rfl (by kernel_rfl) (by decide) (by decide) o3 (opensF_cons (start := 2) (mid := 3) (stop := 6) rfl (by kernel_rfl) (by decide) (by decide) o3 (opensF_cons (start := 3) (mid := 4) (stop := 6) rfl (by kernel_rfl) (by decide) (by decide) o3 (opensF_cons (start := 4) (mid := 5) (stop := 6) rfl (by kernel_rfl) (by decide) (by decide) o3 (opensF_one (start := 5) (stop := 6) rfl (by kernel_rfl) o3))))))
set_option maxRecDepth 100000 in
theorem lifted (os : Os) (started : os.Started) (H : Type) (enc : TypeId × Value → H) :
    ReturnsInHanded {} Try.checked os 13 .any (Rows.fnExactGoodActionSpec.pre6 enc Try.prog Try.f13 Rows.fnExactGoodActionRow.domain false) (Rows.fnExactGoodActionSpec.post enc Try.prog Try.f13 false true false false) := by
  refine returnsInHanded_of_change_sized (C := Try.checked) own started (by kernel_rfl) Try.func13
    (ChangeSpec.witness6 (enc := enc) (C := Try.checked) false ⟨#[], #[.agg #[.string ByteArray.empty, .int .i64 0, .int .i64 0, .int .i64 0, .int .i64 0, .int .i64 0]], []⟩ 8 (by kernel_rfl) (by kernel_rfl) (by kernel_rfl) (by kernel_rfl)) ?_
  intro W base args ds gs before hval0 hW hcnd hsz0 _
  have hsz : (DataW.weightsEach Try.prog (Try.f13.params.toList ++ Rows.fnExactGoodActionSpec.plain.varTypes Try.prog) (ds ++ gs)).all (· ≤ reachBytes) = true := hsz0
  have hval : ∀ (j : Nat) t v, Try.f13.params[j]? = some t → args[j]? = some v → Value.okWide Try.prog W .any base t v := hval0
  have hW' := hW
  obtain ⟨p, q, hA0, hV, rfl, hfz, hnd⟩ := hW
  have hA : DataW.TrodAll enc Try.prog W 0 (fun _ => true) true Try.f13.params.toList args.toList ds p := hA0
  rw [Try.params13] at hA hval hsz
  obtain ⟨v0, vs0, d0, ds0, p0, q0, hargs, rfl, rfl, h0, r0⟩ := trodAll_cons hA
  obtain ⟨rfl, rfl, rfl⟩ := trodAll_nil r0
  obtain rfl : args = #[v0] := by cases args; simp_all
  obtain ⟨rfl, rfl⟩ := trodVars_none hV
  have k0_ := h0
  have lt0 : ∀ x ∈ p0, x.block < W.heap.size := by obtain ⟨m, hm⟩ := k0_; exact DataW.trod_lt m _ _ _ hm
  obtain ⟨y0, K0, G0⟩ := opens_arg o39top h0 hsz (j := 0) rfl rfl
  obtain ⟨cs0, rfl, -⟩ := okWide_struct Try.underlying39 (hval 0 39 v0 rfl rfl)
  replace K0 : ((Kd.pair Kd.string (Kd.pair (Kd.int .i64) (Kd.pair (Kd.int .i64) (Kd.pair (Kd.int .i64) (Kd.pair (Kd.int .i64) (Kd.int .i64))))))).K W y0 cs0.toList := K0
  obtain ⟨_, _, e0, rfl, ⟨_, _, rfl, rfl, ⟨_, _, rfl, rfl, ⟨_, _, rfl, rfl, ⟨_, _, rfl, rfl, rfl⟩⟩⟩⟩⟩ := K0
  obtain rfl : cs0 = #[.string y0.1, .int .i64 y0.2.1, .int .i64 y0.2.2.1, .int .i64 y0.2.2.2.1, .int .i64 y0.2.2.2.2.1, .int .i64 y0.2.2.2.2.2] := Array.ext' (by rw [e0]; rfl)
  clear e0
  obtain ⟨k, h⟩ := Pure.FnExactGoodAction (y0.1) (y0.2.1) (y0.2.2.1) (y0.2.2.2.1) (y0.2.2.2.2.1) (y0.2.2.2.2.2) (G0.1) (G0.2.1) (G0.2.2.1) (G0.2.2.2.1) (G0.2.2.2.2.1) (G0.2.2.2.2.2)
  clear hA0 hval0 hsz0 hsz hval
  refine (laws_FnExactGoodAction.calls k (y0.1) (y0.2.1) (y0.2.2.1) (y0.2.2.2.1) (y0.2.2.2.2.1) (y0.2.2.2.2.2) true W h).mono fun e W' ⟨he, bel0⟩ => ?_
  have bel : Below W.heap.size W W' := bel0
  subst he
  exact ⟨_, rfl, _, _, _, [], _, [], hW', trodAll_mk1 (shut_bool Try.underlying4 _), (trodAll_cons_mk (Below.trod laidOut (by kernel_rfl) (of_decide_eq_true (by kernel_rfl)) k0_ bel lt0) trodAll_mk0), rfl, bel.frame _, fun h => by cases h⟩
theorem over : Rows.fnExactGoodActionRow.holds Try.pinned (OpenSpec.ofChange Rows.fnExactGoodActionSpec) :=
  OpenClaim.holds_of_wide 13 Try.f13 rfl rfl rfl rfl rfl rfl rfl ⟨rfl, rfl, rfl, rfl, rfl⟩ rfl rfl rfl rfl rfl (by kernel_rfl) Try.func13 (by kernel_rfl)
    (of_decide_eq_true (by kernel_rfl)) (by unfold Func.isWrapper; first | (rw [if_pos (by decide +kernel)]; kernel_rfl) | (rw [if_neg (by decide +kernel)]; exact ⟨rfl, rfl⟩))
    (fun os started H enc _ => lifted os started H enc)
theorem proved : Rows.FnExactGoodActionSaid := over
#print axioms proved
end Go.Proofs.Ytbmijcalkofegaa.fnExactGoodAction
namespace Go.Proofs.Ytbmijcalkofegaa
/-- The row, under a short name, for the claim. -/
theorem fnExactGoodAction_holds : Rows.FnExactGoodActionSaid := fnExactGoodAction.proved
end Go.Proofs.Ytbmijcalkofegaa
