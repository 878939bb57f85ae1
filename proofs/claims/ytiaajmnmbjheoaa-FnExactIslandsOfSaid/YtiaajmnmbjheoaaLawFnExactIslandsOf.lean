/- The row of the law FnExactIslandsOf: for every input that can be read the Go function returns true and leaves its input as it was. No condition. Written by this session's program. -/
import Derived.Test.YtiaajmnmbjheoaaRows
import Derived.Test.YtiaajmnmbjheoaaPFnExactIslandsOfx6
import Derived.Test.YtiaajmnmbjheoaaPureFnExactIslandsOf
import Derived.Test.YtiaajmnmbjheoaaOpens
import Derived.WalkKit
import Derived.ProofKit
import Derived.OpenShut
import Derived.ShutString
import Derived.ChangeOld
import Derived.Below
import Derived.SizedLaws
namespace Go.Proofs.Ytiaajmnmbjheoaa.fnExactIslandsOf
open Go.ChangeShapes Go.WideShapes Go.ChangeAt Go.RowKit Go.Proofs.Ytiaajmnmbjheoaa.Opens Go.Proofs.YtiaajmnmbjheoaaW.PrintWords Go.Proofs.Ytiaajmnmbjheoaa.PFnExactIslandsOf Go.Proofs.Ytiaajmnmbjheoaa.Pure
open Go.ChangeMaps (open_string shut_string)
set_option linter.unusedVariables false
theorem own : ownKnob Try.prog.godebug = none := by kernel_rfl
theorem laidOut : laidOutB Try.prog = true := by kernel_rfl
set_option maxRecDepth 100000 in
theorem o3 : Opens Try.prog 3 (Kd.int .i64) (fun y => (Lit.int .i64 y).wf = true) := opens_int Try.underlying3
set_option maxRecDepth 100000 in
theorem o92 : Opens Try.prog 92 k92 Good92 := opens_good (opens_iso (fun x : S92 => (x.f0, x.f1)) (fun y => ⟨y.1, y.2⟩) (fun _ => rfl) (opens_structL (n := 2) Try.underlying92 rfl (by kernel_rfl) (opensF_cons (start := 0) (mid := 1) (stop := 2) rfl (by kernel_rfl) (by decide) (by decide) o3 (opensF_one (start := 1) (stop := 2) rfl (by kernel_rfl) o3)))) (fun _ h => h)
set_option maxRecDepth 100000 in
theorem o38 : Opens Try.prog 38 (Kd.slice 92 k92) (fun l => (List.length l ≤ maxLen ∧ List.length l * 16 ≤ 140737488351232 ∧ ∀ y ∈ l, Good92 y)) := opens_good (opens_slice Try.underlying38 o92 (by kernel_rfl)) (fun l h => ⟨h.1, (show Try.prog.bytesOf 92 = 16 by kernel_rfl) ▸ h.2.1, h.2.2⟩)
set_option maxRecDepth 100000 in
theorem lifted (os : Os) (started : os.Started) (H : Type) (enc : TypeId × Value → H) :
    ReturnsInHanded {} Try.checked os 4 .any (Rows.fnExactIslandsOfSpec.pre6 enc Try.prog Try.f4 Rows.fnExactIslandsOfRow.domain false) (Rows.fnExactIslandsOfSpec.post enc Try.prog Try.f4 false true false false) := by
  refine returnsInHanded_of_change_sized (C := Try.checked) own started (by kernel_rfl) Try.func4
    (ChangeSpec.witness6 (enc := enc) (C := Try.checked) false ⟨#[], #[.int .i64 0, .slice none 0 0], []⟩ 8 (by kernel_rfl) (by kernel_rfl) (by kernel_rfl) (by kernel_rfl)) ?_
  intro W base args ds gs before hval0 hW hcnd hsz0 _
  have hsz : (DataW.weightsEach Try.prog (Try.f4.params.toList ++ Rows.fnExactIslandsOfSpec.plain.varTypes Try.prog) (ds ++ gs)).all (· ≤ reachBytes) = true := hsz0
  have hval : ∀ (j : Nat) t v, Try.f4.params[j]? = some t → args[j]? = some v → Value.okWide Try.prog W .any base t v := hval0
  have hW' := hW
  obtain ⟨p, q, hA0, hV, rfl, hfz, hnd⟩ := hW
  have hA : DataW.TrodAll enc Try.prog W 0 (fun _ => true) true Try.f4.params.toList args.toList ds p := hA0
  rw [Try.params4] at hA hval hsz
  obtain ⟨v0, vs0, d0, ds0, p0, q0, hargs, rfl, rfl, h0, r0⟩ := trodAll_cons hA
  obtain ⟨v1, vs1, d1, ds1, p1, q1, rfl, rfl, rfl, h1, r1⟩ := trodAll_cons r0
  obtain ⟨rfl, rfl, rfl⟩ := trodAll_nil r1
  obtain rfl : args = #[v0, v1] := by cases args; simp_all
  obtain ⟨rfl, rfl⟩ := trodVars_none hV
  have k0_ := h0
  have lt0 : ∀ x ∈ p0, x.block < W.heap.size := by obtain ⟨m, hm⟩ := k0_; exact DataW.trod_lt m _ _ _ hm
  obtain ⟨y0, K0, G0⟩ := opens_arg o3 h0 hsz (j := 0) rfl rfl
  obtain ⟨a0, rfl, -, -, -⟩ := open_int Try.underlying3 (hval 0 3 v0 rfl rfl) h0
  have K0' : [Value.int .i64 a0] = [Value.int .i64 y0] := K0
  clear K0
  obtain rfl : y0 = a0 := by simpa using K0'.symm
  have k1_ := h1
  have lt1 : ∀ x ∈ p1, x.block < W.heap.size := by obtain ⟨m, hm⟩ := k1_; exact DataW.trod_lt m _ _ _ hm
  obtain ⟨y1, K1, G1⟩ := opens_arg o38 h1 hsz (j := 1) rfl rfl
  obtain ⟨A1_, n1_, cc1_, rfl⟩ := okWide_slice Try.underlying38 (hval 1 38 v1 rfl rfl)
  obtain ⟨A1, c1, e1, hc1, hr1⟩ := K1
  replace e1 : [Value.slice A1_ n1_ cc1_] = [Value.slice A1 (List.length y1) c1] := e1
  simp only [List.cons.injEq, Value.slice.injEq, and_true] at e1
  obtain ⟨rfl, rfl, rfl⟩ := e1
  obtain ⟨k, h⟩ := Pure.FnExactIslandsOf y0 y1 G0 G1
  clear hA0 hval0 hsz0 hsz hval
  refine (laws_FnExactIslandsOf.calls k y0 _ _ y1 true W hr1 hc1 h).mono fun e W' ⟨he, bel0⟩ => ?_
  have bel : Below W.heap.size W W' := bel0
  subst he
  exact ⟨_, rfl, _, _, _, [], _, [], hW', trodAll_mk1 (shut_bool Try.underlying4 _), (trodAll_cons_mk (Below.trod laidOut (by kernel_rfl) (of_decide_eq_true (by kernel_rfl)) k0_ bel lt0) (trodAll_cons_mk (Below.trod laidOut (by kernel_rfl) (of_decide_eq_true (by kernel_rfl)) k1_ bel lt1) trodAll_mk0)), rfl, bel.frame _, fun h => by cases h⟩
theorem over : Rows.fnExactIslandsOfRow.holds Try.pinned (OpenSpec.ofChange Rows.fnExactIslandsOfSpec) :=
  OpenClaim.holds_of_wide 4 Try.f4 rfl rfl rfl rfl rfl rfl rfl ⟨rfl, rfl, rfl, rfl, rfl⟩ rfl rfl rfl rfl rfl (by kernel_rfl) Try.func4 (by kernel_rfl)
    (of_decide_eq_true (by kernel_rfl)) (by unfold Func.isWrapper; first | (rw [if_pos (by decide +kernel)]; kernel_rfl) | (rw [if_neg (by decide +kernel)]; exact ⟨rfl, rfl⟩))
    (fun os started H enc _ => lifted os started H enc)
theorem proved : Rows.FnExactIslandsOfSaid := over
#print axioms proved
end Go.Proofs.Ytiaajmnmbjheoaa.fnExactIslandsOf
namespace Go.Proofs.Ytiaajmnmbjheoaa
/-- The row, under a short name, for the claim. -/
theorem fnExactIslandsOf_holds : Rows.FnExactIslandsOfSaid := fnExactIslandsOf.proved
end Go.Proofs.Ytiaajmnmbjheoaa
