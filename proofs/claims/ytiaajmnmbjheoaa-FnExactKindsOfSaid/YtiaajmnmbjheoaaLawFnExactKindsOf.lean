/- The row of the law FnExactKindsOf: for every input that can be read the Go function returns true and leaves its input as it was. No condition. Written by this session's program. -/
import Derived.Test.YtiaajmnmbjheoaaRows
import Derived.Test.YtiaajmnmbjheoaaPFnExactKindsOfx13
import Derived.Test.YtiaajmnmbjheoaaPureFnExactKindsOf
import Derived.Test.YtiaajmnmbjheoaaOKindsOf
import Derived.WalkKit
import Derived.ProofKit
import Derived.OpenShut
import Derived.ShutString
import Derived.ChangeOld
import Derived.Below
import Derived.SizedLaws
namespace Go.Proofs.Ytiaajmnmbjheoaa.fnExactKindsOf
open Go.ChangeShapes Go.WideShapes Go.ChangeAt Go.RowKit Go.Proofs.Ytiaajmnmbjheoaa.Opens Go.Proofs.YtiaajmnmbjheoaaW.PrintWords Go.Proofs.Ytiaajmnmbjheoaa.PFnExactKindsOf Go.Proofs.Ytiaajmnmbjheoaa.Pure
open Go.ChangeMaps (open_string shut_string)
set_option linter.unusedVariables false
theorem own : ownKnob Try.prog.godebug = none := by kernel_rfl
theorem laidOut : laidOutB Try.prog = true := by kernel_rfl
set_option maxRecDepth 100000 in
theorem o3 : Opens Try.prog 3 (Kd.int .i64) (fun y => (Lit.int .i64 y).wf = true) := opens_int Try.underlying3
set_option maxRecDepth 100000 in
theorem o9 : Opens Try.prog 9 Kd.string (fun y => ByteArray.size y ≤ 140737488351232) := opens_string Try.underlying9
set_option maxRecDepth 100000 in
theorem o180 : Opens Try.prog 180 k180 Good180 := opens_good (opens_iso (fun x : S180 => (x.f0, x.f1, x.f2)) (fun y => ⟨y.1, y.2.1, y.2.2⟩) (fun _ => rfl) (opens_structL (n := 3) Try.underlying180 rfl (by kernel_rfl) (opensF_cons (start := 0) (mid := 1) (stop := 3) rfl (by kernel_rfl) (by decide) (by decide) o9 (opensF_cons (start := 1) (mid := 2) (stop := 3) rfl (by kernel_rfl) (by decide) (by decide) o3 (opensF_one (start := 2) (stop := 3) rfl (by kernel_rfl) o3))))) (fun _ h => h)
set_option maxRecDepth 100000 in
theorem o131 : Opens Try.prog 131 (Kd.slice 180 k180) (fun l => (List.length l ≤ maxLen ∧ List.length l * 32 ≤ 140737488351232 ∧ ∀ y ∈ l, Good180 y)) := opens_good (opens_slice Try.underlying131 o180 (by kernel_rfl)) (fun l h => ⟨h.1, (show Try.prog.bytesOf 180 = 32 by kernel_rfl) ▸ h.2.1, h.2.2⟩)
set_option maxRecDepth 100000 in
theorem o133 : Opens Try.prog 133 k133 Good133 := opens_good (opens_iso (fun x : S133 => (x.f0, x.f1)) (fun y => ⟨y.1, y.2⟩) (fun _ => rfl) (opens_structL (n := 2) Try.underlying133 rfl (by kernel_rfl) (opensF_cons (start := 0) (mid := 1) (stop := 2) rfl (by kernel_rfl) (by decide) (by decide) o3 (opensF_one (start := 1) (stop := 2) rfl (by kernel_rfl) o131)))) (fun _ h => h)
set_option maxRecDepth 100000 in
theorem o22 : Opens Try.prog 22 (Kd.slice 133 k133) (fun l => (List.length l ≤ maxLen ∧ List.length l * 32 ≤ 140737488351232 ∧ ∀ y ∈ l, Good133 y)) := opens_good (opens_slice Try.underlying22 o133 (by kernel_rfl)) (fun l h => ⟨h.1, (show Try.prog.bytesOf 133 = 32 by kernel_rfl) ▸ h.2.1, h.2.2⟩)
set_option maxRecDepth 100000 in
theorem o24top : Opens Try.prog 24 (Kd.pair (Kd.int .i64) (Kd.pair (Kd.int .i64) (Kd.slice 133 k133))) (fun y => ((Lit.int .i64 y.1).wf = true ∧ ((Lit.int .i64 y.2.1).wf = true ∧ (List.length y.2.2 ≤ maxLen ∧ List.length y.2.2 * 32 ≤ 140737488351232 ∧ ∀ z ∈ y.2.2, Good133 z)))) := opens_structL (n := 3) Try.underlying24 rfl (by kernel_rfl) (opensF_cons (start := 0) (mid := 1) (stop := 3) rfl (by kernel_rfl) (by decide) (by decide) o3 (opensF_cons (start := 1) (mid := 2) (stop := 3) rfl (by kernel_rfl) (by decide) (by decide) o3 (opensF_one (start := 2) (stop := 3) rfl (by kernel_rfl) o22)))
set_option maxRecDepth 100000 in
theorem lifted (os : Os) (started : os.Started) (H : Type) (enc : TypeId × Value → H) :
    ReturnsInHanded {} Try.checked os 3 .any (Rows.fnExactKindsOfSpec.pre6 enc Try.prog Try.f3 Rows.fnExactKindsOfRow.domain false) (Rows.fnExactKindsOfSpec.post enc Try.prog Try.f3 false true false false) := by
  refine returnsInHanded_of_change_sized (C := Try.checked) own started (by kernel_rfl) Try.func3
    (ChangeSpec.witness6 (enc := enc) (C := Try.checked) false ⟨#[], #[.agg #[.int .i64 0, .int .i64 0, .slice none 0 0]], []⟩ 8 (by kernel_rfl) (by kernel_rfl) (by kernel_rfl) (by kernel_rfl)) ?_
  intro W base args ds gs before hval0 hW hcnd hsz0 _
  have hsz : (DataW.weightsEach Try.prog (Try.f3.params.toList ++ Rows.fnExactKindsOfSpec.plain.varTypes Try.prog) (ds ++ gs)).all (· ≤ reachBytes) = true := hsz0
  have hval : ∀ (j : Nat) t v, Try.f3.params[j]? = some t → args[j]? = some v → Value.okWide Try.prog W .any base t v := hval0
  have hW' := hW
  obtain ⟨p, q, hA0, hV, rfl, hfz, hnd⟩ := hW
  have hA : DataW.TrodAll enc Try.prog W 0 (fun _ => true) true Try.f3.params.toList args.toList ds p := hA0
  rw [Try.params3] at hA hval hsz
  obtain ⟨v0, vs0, d0, ds0, p0, q0, hargs, rfl, rfl, h0, r0⟩ := trodAll_cons hA
  obtain ⟨rfl, rfl, rfl⟩ := trodAll_nil r0
  obtain rfl : args = #[v0] := by cases args; simp_all
  obtain ⟨rfl, rfl⟩ := trodVars_none hV
  have k0_ := h0
  have lt0 : ∀ x ∈ p0, x.block < W.heap.size := by obtain ⟨m, hm⟩ := k0_; exact DataW.trod_lt m _ _ _ hm
  obtain ⟨y0, K0, G0⟩ := opens_arg o24top h0 hsz (j := 0) rfl rfl
  obtain ⟨cs0, rfl, -⟩ := okWide_struct Try.underlying24 (hval 0 24 v0 rfl rfl)
  replace K0 : ((Kd.pair (Kd.int .i64) (Kd.pair (Kd.int .i64) (Kd.slice 133 k133)))).K W y0 cs0.toList := K0
  obtain ⟨_, _, e0, rfl, ⟨_, _, rfl, rfl, ⟨A0_2, c0_2, rfl, hc0_2, hr0_2⟩⟩⟩ := K0
  obtain rfl : cs0 = #[.int .i64 y0.1, .int .i64 y0.2.1, .slice A0_2 (List.length y0.2.2) c0_2] := Array.ext' (by rw [e0]; rfl)
  clear e0
  obtain ⟨k, h⟩ := Pure.FnExactKindsOf (y0.1) (y0.2.1) (y0.2.2) (G0.1) (G0.2.1) (G0.2.2)
  clear hA0 hval0 hsz0 hsz hval
  refine (laws_FnExactKindsOf.calls k (y0.1) (y0.2.1) _ _ (y0.2.2) true W hr0_2 hc0_2 h).mono fun e W' ⟨he, bel0⟩ => ?_
  have bel : Below W.heap.size W W' := bel0
  subst he
  exact ⟨_, rfl, _, _, _, [], _, [], hW', trodAll_mk1 (shut_bool Try.underlying4 _), (trodAll_cons_mk (Below.trod laidOut (by kernel_rfl) (of_decide_eq_true (by kernel_rfl)) k0_ bel lt0) trodAll_mk0), rfl, bel.frame _, fun h => by cases h⟩
theorem over : Rows.fnExactKindsOfRow.holds Try.pinned (OpenSpec.ofChange Rows.fnExactKindsOfSpec) :=
  OpenClaim.holds_of_wide 3 Try.f3 rfl rfl rfl rfl rfl rfl rfl ⟨rfl, rfl, rfl, rfl, rfl⟩ rfl rfl rfl rfl rfl (by kernel_rfl) Try.func3 (by kernel_rfl)
    (of_decide_eq_true (by kernel_rfl)) (by unfold Func.isWrapper; first | (rw [if_pos (by decide +kernel)]; kernel_rfl) | (rw [if_neg (by decide +kernel)]; exact ⟨rfl, rfl⟩))
    (fun os started H enc _ => lifted os started H enc)
theorem proved : Rows.FnExactKindsOfSaid := over
#print axioms proved
end Go.Proofs.Ytiaajmnmbjheoaa.fnExactKindsOf
namespace Go.Proofs.Ytiaajmnmbjheoaa
/-- The row, under a short name, for the claim. -/
theorem fnExactKindsOf_holds : Rows.FnExactKindsOfSaid := fnExactKindsOf.proved
end Go.Proofs.Ytiaajmnmbjheoaa
