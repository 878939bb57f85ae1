/- The row of the law FnExactSweepPairs: for every input that can be read the Go function returns true and leaves its input as it was. No condition. Written by this session's program. -/
import Derived.Test.YtiaajmnmbjheoaaRows
import Derived.Test.YtiaajmnmbjheoaaPFnExactSweepPairsx8
import Derived.Test.YtiaajmnmbjheoaaPureFnExactSweepPairs
import Derived.Test.YtiaajmnmbjheoaaOSweepPairs
import Derived.WalkKit
import Derived.ProofKit
import Derived.OpenShut
import Derived.ShutString
import Derived.ChangeOld
import Derived.Below
import Derived.SizedLaws
namespace Go.Proofs.Ytiaajmnmbjheoaa.fnExactSweepPairs
open Go.ChangeShapes Go.WideShapes Go.ChangeAt Go.RowKit Go.Proofs.Ytiaajmnmbjheoaa.Opens Go.Proofs.YtiaajmnmbjheoaaW.PrintWords Go.Proofs.Ytiaajmnmbjheoaa.PFnExactSweepPairs Go.Proofs.Ytiaajmnmbjheoaa.Pure
open Go.ChangeMaps (open_string shut_string)
set_option linter.unusedVariables false
theorem own : ownKnob Try.prog.godebug = none := by kernel_rfl
theorem laidOut : laidOutB Try.prog = true := by kernel_rfl
set_option maxRecDepth 100000 in
theorem o3 : Opens Try.prog 3 (Kd.int .i64) (fun y => (Lit.int .i64 y).wf = true) := opens_int Try.underlying3
set_option maxRecDepth 100000 in
theorem o111 : Opens Try.prog 111 k111 Good111 := opens_good (opens_iso (fun x : S111 => (x.f0, x.f1, x.f2, x.f3, x.f4)) (fun y => ⟨y.1, y.2.1, y.2.2.1, y.2.2.2.1, y.2.2.2.2⟩) (fun _ => rfl) (opens_structL (n := 5) Try.underlying111 rfl (by kernel_rfl) (opensF_cons (start := 0) (mid := 1) (stop := 5) rfl (by kernel_rfl) (by decide) (by decide) o3 (opensF_cons (start := 1) (mid := 2) (stop := 5) rfl (by kernel_rfl) (by decide) (by decide) o3 (opensF_cons (start := 2) (mid := 3) (stop := 5) rfl (by kernel_rfl) (by decide) (by decide) o3 (opensF_cons (start := 3) (mid := 4) (stop := 5) rfl (by kernel_rfl) (by decide) (by decide) o3 (opensF_one (start := 4) (stop := 5) rfl (by kernel_rfl) o3))))))) (fun _ h => h)
set_option maxRecDepth 100000 in
theorem o50 : Opens Try.prog 50 (Kd.slice 111 k111) (fun l => (List.length l ≤ maxLen ∧ List.length l * 40 ≤ 140737488351232 ∧ ∀ y ∈ l, Good111 y)) := opens_good (opens_slice Try.underlying50 o111 (by kernel_rfl)) (fun l h => ⟨h.1, (show Try.prog.bytesOf 111 = 40 by kernel_rfl) ▸ h.2.1, h.2.2⟩)
set_option maxRecDepth 100000 in
theorem lifted (os : Os) (started : os.Started) (H : Type) (enc : TypeId × Value → H) :
    ReturnsInHanded {} Try.checked os 6 .any (Rows.fnExactSweepPairsSpec.pre6 enc Try.prog Try.f6 Rows.fnExactSweepPairsRow.domain false) (Rows.fnExactSweepPairsSpec.post enc Try.prog Try.f6 false true false false) := by
  refine returnsInHanded_of_change_sized (C := Try.checked) own started (by kernel_rfl) Try.func6
    (ChangeSpec.witness6 (enc := enc) (C := Try.checked) false ⟨#[], #[.slice none 0 0], []⟩ 8 (by kernel_rfl) (by kernel_rfl) (by kernel_rfl) (by kernel_rfl)) ?_
  intro W base args ds gs before hval0 hW hcnd hsz0 _
  have hsz : (DataW.weightsEach Try.prog (Try.f6.params.toList ++ Rows.fnExactSweepPairsSpec.plain.varTypes Try.prog) (ds ++ gs)).all (· ≤ reachBytes) = true := hsz0
  have hval : ∀ (j : Nat) t v, Try.f6.params[j]? = some t → args[j]? = some v → Value.okWide Try.prog W .any base t v := hval0
  have hW' := hW
  obtain ⟨p, q, hA0, hV, rfl, hfz, hnd⟩ := hW
  have hA : DataW.TrodAll enc Try.prog W 0 (fun _ => true) true Try.f6.params.toList args.toList ds p := hA0
  rw [Try.params6] at hA hval hsz
  obtain ⟨v0, vs0, d0, ds0, p0, q0, hargs, rfl, rfl, h0, r0⟩ := trodAll_cons hA
  obtain ⟨rfl, rfl, rfl⟩ := trodAll_nil r0
  obtain rfl : args = #[v0] := by cases args; simp_all
  obtain ⟨rfl, rfl⟩ := trodVars_none hV
  have k0_ := h0
  have lt0 : ∀ x ∈ p0, x.block < W.heap.size := by obtain ⟨m, hm⟩ := k0_; exact DataW.trod_lt m _ _ _ hm
  obtain ⟨y0, K0, G0⟩ := opens_arg o50 h0 hsz (j := 0) rfl rfl
  obtain ⟨A0_, n0_, cc0_, rfl⟩ := okWide_slice Try.underlying50 (hval 0 50 v0 rfl rfl)
  obtain ⟨A0, c0, e0, hc0, hr0⟩ := K0
  replace e0 : [Value.slice A0_ n0_ cc0_] = [Value.slice A0 (List.length y0) c0] := e0
  simp only [List.cons.injEq, Value.slice.injEq, and_true] at e0
  obtain ⟨rfl, rfl, rfl⟩ := e0
  obtain ⟨k, h⟩ := Pure.FnExactSweepPairs y0 G0
  clear hA0 hval0 hsz0 hsz hval
  refine (laws_FnExactSweepPairs.calls k _ _ y0 true W hr0 hc0 h).mono fun e W' ⟨he, bel0⟩ => ?_
  have bel : Below W.heap.size W W' := bel0
  subst he
  exact ⟨_, rfl, _, _, _, [], _, [], hW', trodAll_mk1 (shut_bool Try.underlying4 _), (trodAll_cons_mk (Below.trod laidOut (by kernel_rfl) (of_decide_eq_true (by kernel_rfl)) k0_ bel lt0) trodAll_mk0), rfl, bel.frame _, fun h => by cases h⟩
theorem over : Rows.fnExactSweepPairsRow.holds Try.pinned (OpenSpec.ofChange Rows.fnExactSweepPairsSpec) :=
  OpenClaim.holds_of_wide 6 Try.f6 rfl rfl rfl rfl rfl rfl rfl ⟨rfl, rfl, rfl, rfl, rfl⟩ rfl rfl rfl rfl rfl (by kernel_rfl) Try.func6 (by kernel_rfl)
    (of_decide_eq_true (by kernel_rfl)) (by unfold Func.isWrapper; first | (rw [if_pos (by decide +kernel)]; kernel_rfl) | (rw [if_neg (by decide +kernel)]; exact ⟨rfl, rfl⟩))
    (fun os started H enc _ => lifted os started H enc)
theorem proved : Rows.FnExactSweepPairsSaid := over
#print axioms proved
end Go.Proofs.Ytiaajmnmbjheoaa.fnExactSweepPairs
namespace Go.Proofs.Ytiaajmnmbjheoaa
/-- The row, under a short name, for the claim. -/
theorem fnExactSweepPairs_holds : Rows.FnExactSweepPairsSaid := fnExactSweepPairs.proved
end Go.Proofs.Ytiaajmnmbjheoaa
