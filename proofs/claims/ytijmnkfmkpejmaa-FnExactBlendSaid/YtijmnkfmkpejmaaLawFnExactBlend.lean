/- The row of the law FnExactBlend: for every input that can be read the Go function returns true and leaves its input as it was. No condition. Written by this session's program. -/
import Derived.Test.YtijmnkfmkpejmaaRows
import Derived.Test.YtijmnkfmkpejmaaPFnExactBlendx1
import Derived.Test.YtijmnkfmkpejmaaPureFnExactBlend
import Derived.Test.YtijmnkfmkpejmaaOpens
import Derived.WalkKit
import Derived.ProofKit
import Derived.OpenShut
import Derived.ShutString
import Derived.ChangeOld
import Derived.Below
import Derived.SizedLaws
namespace Go.Proofs.Ytijmnkfmkpejmaa.fnExactBlend
open Go.ChangeShapes Go.WideShapes Go.ChangeAt Go.RowKit Go.Proofs.Ytijmnkfmkpejmaa.Opens Go.Proofs.YtijmnkfmkpejmaaW.PrintWords Go.Proofs.Ytijmnkfmkpejmaa.PFnExactBlend Go.Proofs.Ytijmnkfmkpejmaa.Pure
open Go.ChangeMaps (open_string shut_string)
set_option linter.unusedVariables false
theorem own : ownKnob Try.prog.godebug = none := by kernel_rfl
theorem laidOut : laidOutB Try.prog = true := by kernel_rfl
set_option maxRecDepth 100000 in
theorem o22 : Opens Try.prog 22 (Kd.scalar (Value.float .f64) (fun _ => rfl)) (fun y => (Lit.float .f64 y).wf = true) := opens_float Try.underlying22
set_option maxRecDepth 100000 in
theorem lifted (os : Os) (started : os.Started) (H : Type) (enc : TypeId × Value → H) :
    ReturnsInHanded {} Try.checked os 7 .any (Rows.fnExactBlendSpec.pre6 enc Try.prog Try.f7 Rows.fnExactBlendRow.domain false) (Rows.fnExactBlendSpec.post enc Try.prog Try.f7 false true false false) := by
  refine returnsInHanded_of_change_sized (C := Try.checked) own started (by kernel_rfl) Try.func7
    (ChangeSpec.witness6 (enc := enc) (C := Try.checked) false ⟨#[], #[.float .f64 0, .float .f64 0, .float .f64 0], []⟩ 8 (by kernel_rfl) (by kernel_rfl) (by kernel_rfl) (by kernel_rfl)) ?_
  intro W base args ds gs before hval0 hW hcnd hsz0 _
  have hsz : (DataW.weightsEach Try.prog (Try.f7.params.toList ++ Rows.fnExactBlendSpec.plain.varTypes Try.prog) (ds ++ gs)).all (· ≤ reachBytes) = true := hsz0
  have hval : ∀ (j : Nat) t v, Try.f7.params[j]? = some t → args[j]? = some v → Value.okWide Try.prog W .any base t v := hval0
  have hW' := hW
  obtain ⟨p, q, hA0, hV, rfl, hfz, hnd⟩ := hW
  have hA : DataW.TrodAll enc Try.prog W 0 (fun _ => true) true Try.f7.params.toList args.toList ds p := hA0
  rw [Try.params7] at hA hval hsz
  obtain ⟨v0, vs0, d0, ds0, p0, q0, hargs, rfl, rfl, h0, r0⟩ := trodAll_cons hA
  obtain ⟨v1, vs1, d1, ds1, p1, q1, rfl, rfl, rfl, h1, r1⟩ := trodAll_cons r0
  obtain ⟨v2, vs2, d2, ds2, p2, q2, rfl, rfl, rfl, h2, r2⟩ := trodAll_cons r1
  obtain ⟨rfl, rfl, rfl⟩ := trodAll_nil r2
  obtain rfl : args = #[v0, v1, v2] := by cases args; simp_all
  obtain ⟨rfl, rfl⟩ := trodVars_none hV
  have k0_ := h0
  have lt0 : ∀ x ∈ p0, x.block < W.heap.size := by obtain ⟨m, hm⟩ := k0_; exact DataW.trod_lt m _ _ _ hm
  obtain ⟨y0, K0, G0⟩ := opens_arg o22 h0 hsz (j := 0) rfl rfl
  obtain ⟨a0, rfl⟩ := okWide_float Try.underlying22 (hval 0 22 v0 rfl rfl) --0
  have K0' : [Value.float .f64 a0] = [Value.float .f64 y0] := K0
  clear K0
  obtain rfl : y0 = a0 := by simpa using K0'.symm
  have k1_ := h1
  have lt1 : ∀ x ∈ p1, x.block < W.heap.size := by obtain ⟨m, hm⟩ := k1_; exact DataW.trod_lt m _ _ _ hm
  obtain ⟨y1, K1, G1⟩ := opens_arg o22 h1 hsz (j := 1) rfl rfl
  obtain ⟨a1, rfl⟩ := okWide_float Try.underlying22 (hval 1 22 v1 rfl rfl) --1
  have K1' : [Value.float .f64 a1] = [Value.float .f64 y1] := K1
  clear K1
  obtain rfl : y1 = a1 := by simpa using K1'.symm
  have k2_ := h2
  have lt2 : ∀ x ∈ p2, x.block < W.heap.size := by obtain ⟨m, hm⟩ := k2_; exact DataW.trod_lt m _ _ _ hm
  obtain ⟨y2, K2, G2⟩ := opens_arg o22 h2 hsz (j := 2) rfl rfl
  obtain ⟨a2, rfl⟩ := okWide_float Try.underlying22 (hval 2 22 v2 rfl rfl) --2
  have K2' : [Value.float .f64 a2] = [Value.float .f64 y2] := K2
  clear K2
  obtain rfl : y2 = a2 := by simpa using K2'.symm
  have h := Pure.FnExactBlend y0 y1 y2 G0 G1 G2
  clear hA0 hval0 hsz0 hsz hval
  refine (laws_FnExactBlend.calls y0 y1 y2 true W h).mono fun e W' ⟨he, bel0⟩ => ?_
  have bel : Below W.heap.size W W' := bel0
  subst he
  exact ⟨_, rfl, _, _, _, [], _, [], hW', trodAll_mk1 (shut_bool Try.underlying4 _), (trodAll_cons_mk (Below.trod laidOut (by kernel_rfl) (of_decide_eq_true (by kernel_rfl)) k0_ bel lt0) (trodAll_cons_mk (Below.trod laidOut (by kernel_rfl) (of_decide_eq_true (by kernel_rfl)) k1_ bel lt1) (trodAll_cons_mk (Below.trod laidOut (by kernel_rfl) (of_decide_eq_true (by kernel_rfl)) k2_ bel lt2) trodAll_mk0))), rfl, bel.frame _, fun h => by cases h⟩
theorem over : Rows.fnExactBlendRow.holds Try.pinned (OpenSpec.ofChange Rows.fnExactBlendSpec) :=
  OpenClaim.holds_of_wide 7 Try.f7 rfl rfl rfl rfl rfl rfl rfl ⟨rfl, rfl, rfl, rfl, rfl⟩ rfl rfl rfl rfl rfl (by kernel_rfl) Try.func7 (by kernel_rfl)
    (of_decide_eq_true (by kernel_rfl)) (by unfold Func.isWrapper; first | (rw [if_pos (by decide +kernel)]; kernel_rfl) | (rw [if_neg (by decide +kernel)]; exact ⟨rfl, rfl⟩))
    (fun os started H enc _ => lifted os started H enc)
theorem proved : Rows.FnExactBlendSaid := over
#print axioms proved
end Go.Proofs.Ytijmnkfmkpejmaa.fnExactBlend
namespace Go.Proofs.Ytijmnkfmkpejmaa
/-- The row, under a short name, for the claim. -/
theorem fnExactBlend_holds : Rows.FnExactBlendSaid := fnExactBlend.proved
end Go.Proofs.Ytijmnkfmkpejmaa
