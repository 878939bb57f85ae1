/- The row of the law FnExactBestChoice: for every input that can be read the Go function returns true and leaves its input as it was. No condition. Written by this session's program. -/
import Derived.Test.YtmkmomcpbkogiaaRows
import Derived.Test.YtmkmomcpbkogiaaPFnExactBestChoicex6
import Derived.Test.YtmkmomcpbkogiaaPureFnExactBestChoice
import Derived.Test.YtmkmomcpbkogiaaOBestChoice
import Derived.WalkKit
import Derived.ProofKit
import Derived.OpenShut
import Derived.ShutString
import Derived.ChangeOld
import Derived.Below
import Derived.SizedLaws
namespace Go.Proofs.Ytmkmomcpbkogiaa.fnExactBestChoice
open Go.ChangeShapes Go.WideShapes Go.ChangeAt Go.RowKit Go.Proofs.Ytmkmomcpbkogiaa.Opens Go.Proofs.YtmkmomcpbkogiaaW.PrintWords Go.Proofs.Ytmkmomcpbkogiaa.PFnExactBestChoice Go.Proofs.Ytmkmomcpbkogiaa.Pure
open Go.ChangeMaps (open_string shut_string)
set_option linter.unusedVariables false
theorem own : ownKnob Try.prog.godebug = none := by kernel_rfl
theorem laidOut : laidOutB Try.prog = true := by kernel_rfl
set_option maxRecDepth 100000 in
theorem o9 : Opens Try.prog 9 Kd.string (fun y => ByteArray.size y ≤ 140737488351232) := opens_string Try.underlying9
set_option maxRecDepth 100000 in
theorem o3 : Opens Try.prog 3 (Kd.int .i64) (fun y => (Lit.int .i64 y).wf = true) := opens_int Try.underlying3
set_option maxRecDepth 100000 in
theorem o94 : Opens Try.prog 94 (Kd.slice 3 (Kd.int .i64)) (fun l => (List.length l ≤ maxLen ∧ List.length l * 8 ≤ 140737488351232 ∧ ∀ y ∈ l, (Lit.int .i64 y).wf = true)) := opens_good (opens_slice Try.underlying94 o3 (by kernel_rfl)) (fun l h => ⟨h.1, (show Try.prog.bytesOf 3 = 8 by kernel_rfl) ▸ h.2.1, h.2.2⟩)
set_option maxRecDepth 100000 in
theorem o96 : Opens Try.prog 96 k96 Good96 := opens_good (opens_iso (fun x : S96 => (x.f0, x.f1, x.f2)) (fun y => ⟨y.1, y.2.1, y.2.2⟩) (fun _ => rfl) (opens_structL (n := 3) Try.underlying96 rfl (by kernel_rfl) (opensF_cons (start := 0) (mid := 1) (stop := 3) rfl (by kernel_rfl) (by decide) (by decide) o9 (opensF_cons (start := 1) (mid := 2) (stop := 3) rfl (by kernel_rfl) (by decide) (by decide) o94 (opensF_one (start := 2) (stop := 3) rfl (by kernel_rfl) o3))))) (fun _ h => h)
set_option maxRecDepth 100000 in
theorem o45 : Opens Try.prog 45 (Kd.slice 96 k96) (fun l => (List.length l ≤ maxLen ∧ List.length l * 48 ≤ 140737488351232 ∧ ∀ y ∈ l, Good96 y)) := opens_good (opens_slice Try.underlying45 o96 (by kernel_rfl)) (fun l h => ⟨h.1, (show Try.prog.bytesOf 96 = 48 by kernel_rfl) ▸ h.2.1, h.2.2⟩)
set_option maxRecDepth 100000 in
theorem lifted (os : Os) (started : os.Started) (H : Type) (enc : TypeId × Value → H) :
    ReturnsInHanded {} Try.checked os 11 .any (Rows.fnExactBestChoiceSpec.pre6 enc Try.prog Try.f11 Rows.fnExactBestChoiceRow.domain false) (Rows.fnExactBestChoiceSpec.post enc Try.prog Try.f11 false true false false) := by
  refine returnsInHanded_of_change_sized (C := Try.checked) own started (by kernel_rfl) Try.func11
    (ChangeSpec.witness6 (enc := enc) (C := Try.checked) false ⟨#[], #[.slice none 0 0], []⟩ 8 (by kernel_rfl) (by kernel_rfl) (by kernel_rfl) (by kernel_rfl)) ?_
  intro W base args ds gs before hval0 hW hcnd hsz0 _
  have hsz : (DataW.weightsEach Try.prog (Try.f11.params.toList ++ Rows.fnExactBestChoiceSpec.plain.varTypes Try.prog) (ds ++ gs)).all (· ≤ reachBytes) = true := hsz0
  have hval : ∀ (j : Nat) t v, Try.f11.params[j]? = some t → args[j]? = some v → Value.okWide Try.prog W .any base t v := hval0
  have hW' := hW
  obtain ⟨p, q, hA0, hV, rfl, hfz, hnd⟩ := hW
  have hA : DataW.TrodAll enc Try.prog W 0 (fun _ => true) true Try.f11.params.toList args.toList ds p := hA0
  rw [Try.params11] at hA hval hsz
  obtain ⟨v0, vs0, d0, ds0, p0, q0, hargs, rfl, rfl, h0, r0⟩ := trodAll_cons hA
  obtain ⟨rfl, rfl, rfl⟩ := trodAll_nil r0
  obtain rfl : args = #[v0] := by cases args; simp_all
  obtain ⟨rfl, rfl⟩ := trodVars_none hV
  have k0_ := h0
  have lt0 : ∀ x ∈ p0, x.block < W.heap.size := by obtain ⟨m, hm⟩ := k0_; exact DataW.trod_lt m _ _ _ hm
  obtain ⟨y0, K0, G0⟩ := opens_arg o45 h0 hsz (j := 0) rfl rfl
  obtain ⟨A0_, n0_, cc0_, rfl⟩ := okWide_slice Try.underlying45 (hval 0 45 v0 rfl rfl)
  obtain ⟨A0, c0, e0, hc0, hr0⟩ := K0
  replace e0 : [Value.slice A0_ n0_ cc0_] = [Value.slice A0 (List.length y0) c0] := e0
  simp only [List.cons.injEq, Value.slice.injEq, and_true] at e0
  obtain ⟨rfl, rfl, rfl⟩ := e0
  obtain ⟨k, h⟩ := Pure.FnExactBestChoice y0 G0
  clear hA0 hval0 hsz0 hsz hval
  refine (laws_FnExactBestChoice.calls k _ _ y0 true W hr0 hc0 h).mono fun e W' ⟨he, bel0⟩ => ?_
  have bel : Below W.heap.size W W' := bel0
  subst he
  exact ⟨_, rfl, _, _, _, [], _, [], hW', trodAll_mk1 (shut_bool Try.underlying4 _), (trodAll_cons_mk (Below.trod laidOut (by kernel_rfl) (of_decide_eq_true (by kernel_rfl)) k0_ bel lt0) trodAll_mk0), rfl, bel.frame _, fun h => by cases h⟩
theorem over : Rows.fnExactBestChoiceRow.holds Try.pinned (OpenSpec.ofChange Rows.fnExactBestChoiceSpec) :=
  OpenClaim.holds_of_wide 11 Try.f11 rfl rfl rfl rfl rfl rfl rfl ⟨rfl, rfl, rfl, rfl, rfl⟩ rfl rfl rfl rfl rfl (by kernel_rfl) Try.func11 (by kernel_rfl)
    (of_decide_eq_true (by kernel_rfl)) (by unfold Func.isWrapper; first | (rw [if_pos (by decide +kernel)]; kernel_rfl) | (rw [if_neg (by decide +kernel)]; exact ⟨rfl, rfl⟩))
    (fun os started H enc _ => lifted os started H enc)
theorem proved : Rows.FnExactBestChoiceSaid := over
#print axioms proved
end Go.Proofs.Ytmkmomcpbkogiaa.fnExactBestChoice
namespace Go.Proofs.Ytmkmomcpbkogiaa
/-- The row, under a short name, for the claim. -/
theorem fnExactBestChoice_holds : Rows.FnExactBestChoiceSaid := fnExactBestChoice.proved
end Go.Proofs.Ytmkmomcpbkogiaa
