/- The row of the law FnExactRayMeets: for every input that can be read the Go function returns true and leaves its input as it was. No condition. Written by this session's program. -/
import Derived.Test.YtiaajmnmbjheoaaRows
import Derived.Test.YtiaajmnmbjheoaaPFnExactRayMeetsx9
import Derived.Test.YtiaajmnmbjheoaaPureFnExactRayMeets
import Derived.Test.YtiaajmnmbjheoaaORayMeets
import Derived.WalkKit
import Derived.ProofKit
import Derived.OpenShut
import Derived.ShutString
import Derived.ChangeOld
import Derived.Below
import Derived.SizedLaws
namespace Go.Proofs.Ytiaajmnmbjheoaa.fnExactRayMeets
open Go.ChangeShapes Go.WideShapes Go.ChangeAt Go.RowKit Go.Proofs.Ytiaajmnmbjheoaa.Opens Go.Proofs.YtiaajmnmbjheoaaW.PrintWords Go.Proofs.Ytiaajmnmbjheoaa.PFnExactRayMeets Go.Proofs.Ytiaajmnmbjheoaa.Pure
open Go.ChangeMaps (open_string shut_string)
set_option linter.unusedVariables false
theorem own : ownKnob Try.prog.godebug = none := by kernel_rfl
theorem laidOut : laidOutB Try.prog = true := by kernel_rfl
set_option maxRecDepth 100000 in
theorem o3 : Opens Try.prog 3 (Kd.int .i64) (fun y => (Lit.int .i64 y).wf = true) := opens_int Try.underlying3
set_option maxRecDepth 100000 in
theorem o111 : Opens Try.prog 111 k111 Good111 := opens_good (opens_iso (fun x : S111 => (x.f0, x.f1, x.f2, x.f3, x.f4)) (fun y => ⟨y.1, y.2.1, y.2.2.1, y.2.2.2.1, y.2.2.2.2⟩) (fun _ => rfl) (opens_structL (n := 5) Try.underlying111 rfl (by kernel_rfl) (opensF_cons (start := 0) (mid := 1) (stop := 5) rfl (by kernel_rfl) (by decide) (by decide) o3 (opensF_cons (start := 1) (mid := 2) (stop := 5) rfl (by kernel_rfl) (by decide) (by decide) o3 (opensF_cons (start := 2) (mid := 3) (stop := 5) rfl (by kernel_rfl) (by decide) (by decide) o3 (opensF_cons (start := 3) (mid := 4) (stop := 5) rfl (by kernel_rfl) (by decide) (by decide) o3 (opensF_one (start := 4) (stop := 5) rfl (by kernel_rfl) o3))))))) (fun _ h => h)
set_option maxRecDepth 100000 in
theorem o50 : Opens Try.prog 50 (Kd.slice 111 k111) (fun l => (List.length l ≤ maxLen ∧ List.length l * 40 ≤ 140737488351232 ∧ ∀ y ∈ l, Good111 y)) := opens_good (opens_slice Try.underlying50 o111 (by kernel_rfl)) (fun l h => ⟨h.1, (show Try.prog.bytesOf 111 = 40 by kernel_rfl) ▸ h.2.1, h.2.2⟩)
set_option maxRecDepth 100000 in
theorem lifted (os : Os) (started : os.Started) (H : Type) (enc : TypeId × Value → H) :
    ReturnsInHanded {} Try.checked os 5 .any (Rows.fnExactRayMeetsSpec.pre6 enc Try.prog Try.f5 Rows.fnExactRayMeetsRow.domain false) (Rows.fnExactRayMeetsSpec.post enc Try.prog Try.f5 false true false false) := by
  refine returnsInHanded_of_change_sized (C := Try.checked) own started (by kernel_rfl) Try.func5
    (ChangeSpec.witness6 (enc := enc) (C := Try.checked) false ⟨#[], #[.slice none 0 0, .int .i64 0, .int .i64 0, .int .i64 0, .int .i64 0], []⟩ 8 (by kernel_rfl) (by kernel_rfl) (by kernel_rfl) (by kernel_rfl)) ?_
  intro W base args ds gs before hval0 hW hcnd hsz0 _
  have hsz : (DataW.weightsEach Try.prog (Try.f5.params.toList ++ Rows.fnExactRayMeetsSpec.plain.varTypes Try.prog) (ds ++ gs)).all (· ≤ reachBytes) = true := hsz0
  have hval : ∀ (j : Nat) t v, Try.f5.params[j]? = some t → args[j]? = some v → Value.okWide Try.prog W .any base t v := hval0
  have hW' := hW
  obtain ⟨p, q, hA0, hV, rfl, hfz, hnd⟩ := hW
  have hA : DataW.TrodAll enc Try.prog W 0 (fun _ => true) true Try.f5.params.toList args.toList ds p := hA0
  rw [Try.params5] at hA hval hsz
  obtain ⟨v0, vs0, d0, ds0, p0, q0, hargs, rfl, rfl, h0, r0⟩ := trodAll_cons hA
  obtain ⟨v1, vs1, d1, ds1, p1, q1, rfl, rfl, rfl, h1, r1⟩ := trodAll_cons r0
  obtain ⟨v2, vs2, d2, ds2, p2, q2, rfl, rfl, rfl, h2, r2⟩ := trodAll_cons r1
  obtain ⟨v3, vs3, d3, ds3, p3, q3, rfl, rfl, rfl, h3, r3⟩ := trodAll_cons r2
  obtain ⟨v4, vs4, d4, ds4, p4, q4, rfl, rfl, rfl, h4, r4⟩ := trodAll_cons r3
  obtain ⟨rfl, rfl, rfl⟩ := trodAll_nil r4
  obtain rfl : args = #[v0, v1, v2, v3, v4] := by cases args; simp_all
  obtain ⟨rfl, rfl⟩ := trodVars_none hV
  have k0_ := h0
  have lt0 : ∀ x ∈ p0, x.block < W.heap.size := by obtain ⟨m, hm⟩ := k0_; exact DataW.trod_lt m _ _ _ hm
  obtain ⟨y0, K0, G0⟩ := opens_arg o50 h0 hsz (j := 0) rfl rfl
  obtain ⟨A0_, n0_, cc0_, rfl⟩ := okWide_slice Try.underlying50 (hval 0 50 v0 rfl rfl)
  obtain ⟨A0, c0, e0, hc0, hr0⟩ := K0
  replace e0 : [Value.slice A0_ n0_ cc0_] = [Value.slice A0 (List.length y0) c0] := e0
  simp only [List.cons.injEq, Value.slice.injEq, and_true] at e0
  obtain ⟨rfl, rfl, rfl⟩ := e0
  have k1_ := h1
  have lt1 : ∀ x ∈ p1, x.block < W.heap.size := by obtain ⟨m, hm⟩ := k1_; exact DataW.trod_lt m _ _ _ hm
  obtain ⟨y1, K1, G1⟩ := opens_arg o3 h1 hsz (j := 1) rfl rfl
  obtain ⟨a1, rfl, -, -, -⟩ := open_int Try.underlying3 (hval 1 3 v1 rfl rfl) h1
  have K1' : [Value.int .i64 a1] = [Value.int .i64 y1] := K1
  clear K1
  obtain rfl : y1 = a1 := by simpa using K1'.symm
  have k2_ := h2
  have lt2 : ∀ x ∈ p2, x.block < W.heap.size := by obtain ⟨m, hm⟩ := k2_; exact DataW.trod_lt m _ _ _ hm
  obtain ⟨y2, K2, G2⟩ := opens_arg o3 h2 hsz (j := 2) rfl rfl
  obtain ⟨a2, rfl, -, -, -⟩ := open_int Try.underlying3 (hval 2 3 v2 rfl rfl) h2
  have K2' : [Value.int .i64 a2] = [Value.int .i64 y2] := K2
  clear K2
  obtain rfl : y2 = a2 := by simpa using K2'.symm
  have k3_ := h3
  have lt3 : ∀ x ∈ p3, x.block < W.heap.size := by obtain ⟨m, hm⟩ := k3_; exact DataW.trod_lt m _ _ _ hm
  obtain ⟨y3, K3, G3⟩ := opens_arg o3 h3 hsz (j := 3) rfl rfl
  obtain ⟨a3, rfl, -, -, -⟩ := open_int Try.underlying3 (hval 3 3 v3 rfl rfl) h3
  have K3' : [Value.int .i64 a3] = [Value.int .i64 y3] := K3
  clear K3
  obtain rfl : y3 = a3 := by simpa using K3'.symm
  have k4_ := h4
  have lt4 : ∀ x ∈ p4, x.block < W.heap.size := by obtain ⟨m, hm⟩ := k4_; exact DataW.trod_lt m _ _ _ hm
  obtain ⟨y4, K4, G4⟩ := opens_arg o3 h4 hsz (j := 4) rfl rfl
  obtain ⟨a4, rfl, -, -, -⟩ := open_int Try.underlying3 (hval 4 3 v4 rfl rfl) h4
  have K4' : [Value.int .i64 a4] = [Value.int .i64 y4] := K4
  clear K4
  obtain rfl : y4 = a4 := by simpa using K4'.symm
  obtain ⟨k, h⟩ := Pure.FnExactRayMeets y0 y1 y2 y3 y4 G0 G1 G2 G3 G4
  clear hA0 hval0 hsz0 hsz hval
  refine (laws_FnExactRayMeets.calls k _ _ y0 y1 y2 y3 y4 true W hr0 hc0 h).mono fun e W' ⟨he, bel0⟩ => ?_
  have bel : Below W.heap.size W W' := bel0
  subst he
  exact ⟨_, rfl, _, _, _, [], _, [], hW', trodAll_mk1 (shut_bool Try.underlying4 _), (trodAll_cons_mk (Below.trod laidOut (by kernel_rfl) (of_decide_eq_true (by kernel_rfl)) k0_ bel lt0) (trodAll_cons_mk (Below.trod laidOut (by kernel_rfl) (of_decide_eq_true (by kernel_rfl)) k1_ bel lt1) (trodAll_cons_mk (Below.trod laidOut (by kernel_rfl) (of_decide_eq_true (by kernel_rfl)) k2_ bel lt2) (trodAll_cons_mk (Below.trod laidOut (by kernel_rfl) (of_decide_eq_true (by kernel_rfl)) k3_ bel lt3) (trodAll_cons_mk (Below.trod laidOut (by kernel_rfl) (of_decide_eq_true (by kernel_rfl)) k4_ bel lt4) trodAll_mk0))))), rfl, bel.frame _, fun h => by cases h⟩
theorem over : Rows.fnExactRayMeetsRow.holds Try.pinned (OpenSpec.ofChange Rows.fnExactRayMeetsSpec) :=
  OpenClaim.holds_of_wide 5 Try.f5 rfl rfl rfl rfl rfl rfl rfl ⟨rfl, rfl, rfl, rfl, rfl⟩ rfl rfl rfl rfl rfl (by kernel_rfl) Try.func5 (by kernel_rfl)
    (of_decide_eq_true (by kernel_rfl)) (by unfold Func.isWrapper; first | (rw [if_pos (by decide +kernel)]; kernel_rfl) | (rw [if_neg (by decide +kernel)]; exact ⟨rfl, rfl⟩))
    (fun os started H enc _ => lifted os started H enc)
theorem proved : Rows.FnExactRayMeetsSaid := over
#print axioms proved
end Go.Proofs.Ytiaajmnmbjheoaa.fnExactRayMeets
namespace Go.Proofs.Ytiaajmnmbjheoaa
/-- The row, under a short name, for the claim. -/
theorem fnExactRayMeets_holds : Rows.FnExactRayMeetsSaid := fnExactRayMeets.proved
end Go.Proofs.Ytiaajmnmbjheoaa
