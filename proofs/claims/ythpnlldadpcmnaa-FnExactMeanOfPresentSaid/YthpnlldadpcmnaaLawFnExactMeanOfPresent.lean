/- The row of the law FnExactMeanOfPresent: for every input that can be read the Go function returns true and leaves its input as it was. No condition. Written by this session's program. -/
import Derived.Test.YthpnlldadpcmnaaRows
import Derived.Test.YthpnlldadpcmnaaPFnExactMeanOfPresentx3
import Derived.Test.YthpnlldadpcmnaaPureFnExactMeanOfPresent
import Derived.Test.YthpnlldadpcmnaaOpens
import Derived.WalkKit
import Derived.ProofKit
import Derived.OpenShut
import Derived.ShutString
import Derived.ChangeOld
import Derived.Below
import Derived.SizedLaws
namespace Go.Proofs.Ythpnlldadpcmnaa.fnExactMeanOfPresent
open Go.ChangeShapes Go.WideShapes Go.ChangeAt Go.RowKit Go.Proofs.Ythpnlldadpcmnaa.Opens Go.Proofs.YthpnlldadpcmnaaW.PrintWords Go.Proofs.Ythpnlldadpcmnaa.PFnExactMeanOfPresent Go.Proofs.Ythpnlldadpcmnaa.Pure
open Go.ChangeMaps (open_string shut_string)
set_option linter.unusedVariables false
theorem own : ownKnob Try.prog.godebug = none := by kernel_rfl
theorem laidOut : laidOutB Try.prog = true := by kernel_rfl
set_option maxRecDepth 100000 in
theorem o22 : Opens Try.prog 22 (Kd.scalar (Value.float .f64) (fun _ => rfl)) (fun y => (Lit.float .f64 y).wf = true) := opens_float Try.underlying22
set_option maxRecDepth 100000 in
theorem o31 : Opens Try.prog 31 (Kd.slice 22 (Kd.scalar (Value.float .f64) (fun _ => rfl))) (fun l => (List.length l ≤ maxLen ∧ List.length l * 8 ≤ 140737488351232 ∧ ∀ y ∈ l, (Lit.float .f64 y).wf = true)) := opens_good (opens_slice Try.underlying31 o22 (by kernel_rfl)) (fun l h => ⟨h.1, (show Try.prog.bytesOf 22 = 8 by kernel_rfl) ▸ h.2.1, h.2.2⟩)
set_option maxRecDepth 100000 in
theorem lifted (os : Os) (started : os.Started) (H : Type) (enc : TypeId × Value → H) :
    ReturnsInHanded {} Try.checked os 4 .any (Rows.fnExactMeanOfPresentSpec.pre6 enc Try.prog Try.f4 Rows.fnExactMeanOfPresentRow.domain false) (Rows.fnExactMeanOfPresentSpec.post enc Try.prog Try.f4 false true false false) := by
  refine returnsInHanded_of_change_sized (C := Try.checked) own started (by kernel_rfl) Try.func4
    (ChangeSpec.witness6 (enc := enc) (C := Try.checked) false ⟨#[], #[.slice none 0 0], []⟩ 8 (by kernel_rfl) (by kernel_rfl) (by kernel_rfl) (by kernel_rfl)) ?_
  intro W base args ds gs before hval0 hW hcnd hsz0 _
  have hsz : (DataW.weightsEach Try.prog (Try.f4.params.toList ++ Rows.fnExactMeanOfPresentSpec.plain.varTypes Try.prog) (ds ++ gs)).all (· ≤ reachBytes) = true := hsz0
  have hval : ∀ (j : Nat) t v, Try.f4.params[j]? = some t → args[j]? = some v → Value.okWide Try.prog W .any base t v := hval0
  have hW' := hW
  obtain ⟨p, q, hA0, hV, rfl, hfz, hnd⟩ := hW
  have hA : DataW.TrodAll enc Try.prog W 0 (fun _ => true) true Try.f4.params.toList args.toList ds p := hA0
  rw [Try.params4] at hA hval hsz
  obtain ⟨v0, vs0, d0, ds0, p0, q0, hargs, rfl, rfl, h0, r0⟩ := trodAll_cons hA
  obtain ⟨rfl, rfl, rfl⟩ := trodAll_nil r0
  obtain rfl : args = #[v0] := by cases args; simp_all
  obtain ⟨rfl, rfl⟩ := trodVars_none hV
  have k0_ := h0
  have lt0 : ∀ x ∈ p0, x.block < W.heap.size := by obtain ⟨m, hm⟩ := k0_; exact DataW.trod_lt m _ _ _ hm
  obtain ⟨y0, K0, G0⟩ := opens_arg o31 h0 hsz (j := 0) rfl rfl
  obtain ⟨A0_, n0_, cc0_, rfl⟩ := okWide_slice Try.underlying31 (hval 0 31 v0 rfl rfl)
  obtain ⟨A0, c0, e0, hc0, hr0⟩ := K0
  replace e0 : [Value.slice A0_ n0_ cc0_] = [Value.slice A0 (List.length y0) c0] := e0
  simp only [List.cons.injEq, Value.slice.injEq, and_true] at e0
  obtain ⟨rfl, rfl, rfl⟩ := e0
  obtain ⟨k, h⟩ := Pure.FnExactMeanOfPresent y0 G0
  clear hA0 hval0 hsz0 hsz hval
  refine (laws_FnExactMeanOfPresent.calls k _ _ y0 true W hr0 hc0 h).mono fun e W' ⟨he, bel0⟩ => ?_
  have bel : Below W.heap.size W W' := bel0
  subst he
  exact ⟨_, rfl, _, _, _, [], _, [], hW', trodAll_mk1 (shut_bool Try.underlying4 _), (trodAll_cons_mk (Below.trod laidOut (by kernel_rfl) (of_decide_eq_true (by kernel_rfl)) k0_ bel lt0) trodAll_mk0), rfl, bel.frame _, fun h => by cases h⟩
theorem over : Rows.fnExactMeanOfPresentRow.holds Try.pinned (OpenSpec.ofChange Rows.fnExactMeanOfPresentSpec) :=
  OpenClaim.holds_of_wide 4 Try.f4 rfl rfl rfl rfl rfl rfl rfl ⟨rfl, rfl, rfl, rfl, rfl⟩ rfl rfl rfl rfl rfl (by kernel_rfl) Try.func4 (by kernel_rfl)
    (of_decide_eq_true (by kernel_rfl)) (by unfold Func.isWrapper; first | (rw [if_pos (by decide +kernel)]; kernel_rfl) | (rw [if_neg (by decide +kernel)]; exact ⟨rfl, rfl⟩))
    (fun os started H enc _ => lifted os started H enc)
theorem proved : Rows.FnExactMeanOfPresentSaid := over
#print axioms proved
end Go.Proofs.Ythpnlldadpcmnaa.fnExactMeanOfPresent
namespace Go.Proofs.Ythpnlldadpcmnaa
/-- The row, under a short name, for the claim. -/
theorem fnExactMeanOfPresent_holds : Rows.FnExactMeanOfPresentSaid := fnExactMeanOfPresent.proved
end Go.Proofs.Ythpnlldadpcmnaa
