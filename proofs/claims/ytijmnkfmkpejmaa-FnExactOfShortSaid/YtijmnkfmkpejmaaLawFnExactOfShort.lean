/- The row of the law FnExactOfShort: for every input that can be read the Go function returns true and leaves its input as it was. No condition. Written by this session's program. -/
import Derived.Test.YtijmnkfmkpejmaaRows
import Derived.Test.YtijmnkfmkpejmaaPFnExactOfShortx1
import Derived.Test.YtijmnkfmkpejmaaPureFnExactOfShort
import Derived.Test.YtijmnkfmkpejmaaOpens
import Derived.WalkKit
import Derived.ProofKit
import Derived.OpenShut
import Derived.ShutString
import Derived.ChangeOld
import Derived.Below
import Derived.SizedLaws
namespace Go.Proofs.Ytijmnkfmkpejmaa.fnExactOfShort
open Go.ChangeShapes Go.WideShapes Go.ChangeAt Go.RowKit Go.Proofs.Ytijmnkfmkpejmaa.Opens Go.Proofs.YtijmnkfmkpejmaaW.PrintWords Go.Proofs.Ytijmnkfmkpejmaa.PFnExactOfShort Go.Proofs.Ytijmnkfmkpejmaa.Pure
open Go.ChangeMaps (open_string shut_string)
set_option linter.unusedVariables false
theorem own : ownKnob Try.prog.godebug = none := by kernel_rfl
theorem laidOut : laidOutB Try.prog = true := by kernel_rfl
set_option maxRecDepth 100000 in
theorem o26 : Opens Try.prog 26 (Kd.int .u32) (fun y => (Lit.int .u32 y).wf = true) := opens_int Try.underlying26
set_option maxRecDepth 100000 in
theorem lifted (os : Os) (started : os.Started) (H : Type) (enc : TypeId × Value → H) :
    ReturnsInHanded {} Try.checked os 6 .any (Rows.fnExactOfShortSpec.pre6 enc Try.prog Try.f6 Rows.fnExactOfShortRow.domain false) (Rows.fnExactOfShortSpec.post enc Try.prog Try.f6 false true false false) := by
  refine returnsInHanded_of_change_sized (C := Try.checked) own started (by kernel_rfl) Try.func6
    (ChangeSpec.witness6 (enc := enc) (C := Try.checked) false ⟨#[], #[.int .u32 0], []⟩ 8 (by kernel_rfl) (by kernel_rfl) (by kernel_rfl) (by kernel_rfl)) ?_
  intro W base args ds gs before hval0 hW hcnd hsz0 _
  have hsz : (DataW.weightsEach Try.prog (Try.f6.params.toList ++ Rows.fnExactOfShortSpec.plain.varTypes Try.prog) (ds ++ gs)).all (· ≤ reachBytes) = true := hsz0
  have hval : ∀ (j : Nat) t v, Try.f6.params[j]? = some t → args[j]? = some v → Value.okWide Try.prog W .any base t v := hval0
  have hW' := hW
  obtain ⟨p, q, hA0, hV, rfl, hfz, hnd⟩ := hW
  have hA : DataW.TrodAll enc Try.prog W 0 (fun _ => true) true Try.f6.params.toList args.toList ds p := hA0
  rw [Try.params6] at hA hval hsz
  obtain ⟨v0, vs0, d0, ds0, p0, q0, hargs, rfl, rfl, h0, r0⟩ := trodAll_cons hA
  obtain ⟨rfl, rfl, rfl⟩ := trodAll_nil r0
  obtain rfl : args = #[v0] := by cases args; simp_all
  obtain ⟨rfl, rfl⟩ := trodVars_none hV
  have k0_ := h0
  have lt0 : ∀ x ∈ p0, x.block < W.heap.size := by obtain ⟨m, hm⟩ := k0_; exact DataW.trod_lt m _ _ _ hm
  obtain ⟨y0, K0, G0⟩ := opens_arg o26 h0 hsz (j := 0) rfl rfl
  obtain ⟨a0, rfl, -, -, -⟩ := open_int Try.underlying26 (hval 0 26 v0 rfl rfl) h0
  have K0' : [Value.int .u32 a0] = [Value.int .u32 y0] := K0
  clear K0
  obtain rfl : y0 = a0 := by simpa using K0'.symm
  have h := Pure.FnExactOfShort y0 G0
  clear hA0 hval0 hsz0 hsz hval
  refine (laws_FnExactOfShort.calls y0 true W h).mono fun e W' ⟨he, bel0⟩ => ?_
  have bel : Below W.heap.size W W' := bel0
  subst he
  exact ⟨_, rfl, _, _, _, [], _, [], hW', trodAll_mk1 (shut_bool Try.underlying4 _), (trodAll_cons_mk (Below.trod laidOut (by kernel_rfl) (of_decide_eq_true (by kernel_rfl)) k0_ bel lt0) trodAll_mk0), rfl, bel.frame _, fun h => by cases h⟩
theorem over : Rows.fnExactOfShortRow.holds Try.pinned (OpenSpec.ofChange Rows.fnExactOfShortSpec) :=
  OpenClaim.holds_of_wide 6 Try.f6 rfl rfl rfl rfl rfl rfl rfl ⟨rfl, rfl, rfl, rfl, rfl⟩ rfl rfl rfl rfl rfl (by kernel_rfl) Try.func6 (by kernel_rfl)
    (of_decide_eq_true (by kernel_rfl)) (by unfold Func.isWrapper; first | (rw [if_pos (by decide +kernel)]; kernel_rfl) | (rw [if_neg (by decide +kernel)]; exact ⟨rfl, rfl⟩))
    (fun os started H enc _ => lifted os started H enc)
theorem proved : Rows.FnExactOfShortSaid := over
#print axioms proved
end Go.Proofs.Ytijmnkfmkpejmaa.fnExactOfShort
namespace Go.Proofs.Ytijmnkfmkpejmaa
/-- The row, under a short name, for the claim. -/
theorem fnExactOfShort_holds : Rows.FnExactOfShortSaid := fnExactOfShort.proved
end Go.Proofs.Ytijmnkfmkpejmaa
