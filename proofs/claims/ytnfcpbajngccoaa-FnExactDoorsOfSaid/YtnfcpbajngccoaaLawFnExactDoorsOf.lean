/- The row of the law FnExactDoorsOf: for every input that can be read the Go function returns true and leaves its input as it was. No condition. Written by this session's program. -/
import Derived.Test.YtnfcpbajngccoaaRows
import Derived.Test.YtnfcpbajngccoaaPFnExactDoorsOfx17
import Derived.Test.YtnfcpbajngccoaaPureFnExactDoorsOf
import Derived.Test.YtnfcpbajngccoaaODoorsOf
import Derived.WalkKit
import Derived.ProofKit
import Derived.OpenShut
import Derived.ShutString
import Derived.ChangeOld
import Derived.Below
import Derived.SizedLaws
namespace Go.Proofs.Ytnfcpbajngccoaa.fnExactDoorsOf
open Go.ChangeShapes Go.WideShapes Go.ChangeAt Go.RowKit Go.Proofs.Ytnfcpbajngccoaa.Opens Go.Proofs.YtnfcpbajngccoaaW.PrintWords Go.Proofs.Ytnfcpbajngccoaa.PFnExactDoorsOf Go.Proofs.Ytnfcpbajngccoaa.Pure
open Go.ChangeMaps (open_string shut_string)
set_option linter.unusedVariables false
theorem own : ownKnob Try.prog.godebug = none := by kernel_rfl
theorem laidOut : laidOutB Try.prog = true := by kernel_rfl
set_option maxRecDepth 100000 in
theorem o3 : Opens Try.prog 3 (Kd.int .i64) (fun y => (Lit.int .i64 y).wf = true) := opens_int Try.underlying3
set_option maxRecDepth 100000 in
theorem o51 : Opens Try.prog 51 k51 Good51 := opens_good (opens_iso (fun x : S51 => (x.f0, x.f1)) (fun y => ⟨y.1, y.2⟩) (fun _ => rfl) (opens_structL (n := 2) Try.underlying51 rfl (by kernel_rfl) (opensF_cons (start := 0) (mid := 1) (stop := 2) rfl (by kernel_rfl) (by decide) (by decide) o3 (opensF_one (start := 1) (stop := 2) rfl (by kernel_rfl) o3)))) (fun _ h => h)
set_option maxRecDepth 100000 in
theorem o22 : Opens Try.prog 22 (Kd.slice 51 k51) (fun l => (List.length l ≤ maxLen ∧ List.length l * 16 ≤ 140737488351232 ∧ ∀ y ∈ l, Good51 y)) := opens_good (opens_slice Try.underlying22 o51 (by kernel_rfl)) (fun l h => ⟨h.1, (show Try.prog.bytesOf 51 = 16 by kernel_rfl) ▸ h.2.1, h.2.2⟩)
set_option maxRecDepth 100000 in
theorem o36 : Opens Try.prog 36 (Kd.slice 3 (Kd.int .i64)) (fun l => (List.length l ≤ maxLen ∧ List.length l * 8 ≤ 140737488351232 ∧ ∀ y ∈ l, (Lit.int .i64 y).wf = true)) := opens_good (opens_slice Try.underlying36 o3 (by kernel_rfl)) (fun l h => ⟨h.1, (show Try.prog.bytesOf 3 = 8 by kernel_rfl) ▸ h.2.1, h.2.2⟩)
set_option maxRecDepth 100000 in
theorem o23 : Opens Try.prog 23 (Kd.slice 36 (Kd.slice 3 (Kd.int .i64))) (fun l => (List.length l ≤ maxLen ∧ List.length l * 24 ≤ 140737488351232 ∧ ∀ y ∈ l, (List.length y ≤ maxLen ∧ List.length y * 8 ≤ 140737488351232 ∧ ∀ z ∈ y, (Lit.int .i64 z).wf = true))) := opens_good (opens_slice Try.underlying23 o36 (by kernel_rfl)) (fun l h => ⟨h.1, (show Try.prog.bytesOf 36 = 24 by kernel_rfl) ▸ h.2.1, h.2.2⟩)
set_option maxRecDepth 100000 in
theorem o25top : Opens Try.prog 25 (Kd.pair (Kd.slice 51 k51) (Kd.slice 36 (Kd.slice 3 (Kd.int .i64)))) (fun y => ((List.length y.1 ≤ maxLen ∧ List.length y.1 * 16 ≤ 140737488351232 ∧ ∀ z ∈ y.1, Good51 z) ∧ (List.length y.2 ≤ maxLen ∧ List.length y.2 * 24 ≤ 140737488351232 ∧ ∀ z ∈ y.2, (List.length z ≤ maxLen ∧ List.length z * 8 ≤ 140737488351232 ∧ ∀ y ∈ z, (Lit.int .i64 y).wf = true)))) := opens_structL (n := 2) Try.underlying25 rfl (by kernel_rfl) (opensF_cons (start := 0) (mid := 1) (stop := 2) rfl (by kernel_rfl) (by decide) (by decide) o22 (opensF_one (start := 1) (stop := 2) rfl (by kernel_rfl) o23))
set_option maxRecDepth 100000 in
theorem lifted (os : Os) (started : os.Started) (H : Type) (enc : TypeId × Value → H) :
    ReturnsInHanded {} Try.checked os 6 .any (Rows.fnExactDoorsOfSpec.pre6 enc Try.prog Try.f6 Rows.fnExactDoorsOfRow.domain false) (Rows.fnExactDoorsOfSpec.post enc Try.prog Try.f6 false true false false) := by
  refine returnsInHanded_of_change_sized (C := Try.checked) own started (by kernel_rfl) Try.func6
    (ChangeSpec.witness6 (enc := enc) (C := Try.checked) false ⟨#[], #[.agg #[.slice none 0 0, .slice none 0 0], .slice none 0 0], []⟩ 8 (by kernel_rfl) (by kernel_rfl) (by kernel_rfl) (by kernel_rfl)) ?_
  intro W base args ds gs before hval0 hW hcnd hsz0 _
  have hsz : (DataW.weightsEach Try.prog (Try.f6.params.toList ++ Rows.fnExactDoorsOfSpec.plain.varTypes Try.prog) (ds ++ gs)).all (· ≤ reachBytes) = true := hsz0
  have hval : ∀ (j : Nat) t v, Try.f6.params[j]? = some t → args[j]? = some v → Value.okWide Try.prog W .any base t v := hval0
  have hW' := hW
  obtain ⟨p, q, hA0, hV, rfl, hfz, hnd⟩ := hW
  have hA : DataW.TrodAll enc Try.prog W 0 (fun _ => true) true Try.f6.params.toList args.toList ds p := hA0
  rw [Try.params6] at hA hval hsz
  obtain ⟨v0, vs0, d0, ds0, p0, q0, hargs, rfl, rfl, h0, r0⟩ := trodAll_cons hA
  obtain ⟨v1, vs1, d1, ds1, p1, q1, rfl, rfl, rfl, h1, r1⟩ := trodAll_cons r0
  obtain ⟨rfl, rfl, rfl⟩ := trodAll_nil r1
  obtain rfl : args = #[v0, v1] := by cases args; simp_all
  obtain ⟨rfl, rfl⟩ := trodVars_none hV
  have k0_ := h0
  have lt0 : ∀ x ∈ p0, x.block < W.heap.size := by obtain ⟨m, hm⟩ := k0_; exact DataW.trod_lt m _ _ _ hm
  obtain ⟨y0, K0, G0⟩ := opens_arg o25top h0 hsz (j := 0) rfl rfl
  obtain ⟨cs0, rfl, -⟩ := okWide_struct Try.underlying25 (hval 0 25 v0 rfl rfl)
  replace K0 : ((Kd.pair (Kd.slice 51 k51) (Kd.slice 36 (Kd.slice 3 (Kd.int .i64))))).K W y0 cs0.toList := K0
  obtain ⟨_, _, e0, ⟨A0_0, c0_0, rfl, hc0_0, hr0_0⟩, ⟨A0_1, c0_1, rfl, hc0_1, hr0_1⟩⟩ := K0
  obtain rfl : cs0 = #[.slice A0_0 (List.length y0.1) c0_0, .slice A0_1 (List.length y0.2) c0_1] := Array.ext' (by rw [e0]; rfl)
  clear e0
  have k1_ := h1
  have lt1 : ∀ x ∈ p1, x.block < W.heap.size := by obtain ⟨m, hm⟩ := k1_; exact DataW.trod_lt m _ _ _ hm
  obtain ⟨y1, K1, G1⟩ := opens_arg o36 h1 hsz (j := 1) rfl rfl
  obtain ⟨A1_, n1_, cc1_, rfl⟩ := okWide_slice Try.underlying36 (hval 1 36 v1 rfl rfl)
  obtain ⟨A1, c1, e1, hc1, hr1⟩ := K1
  replace e1 : [Value.slice A1_ n1_ cc1_] = [Value.slice A1 (List.length y1) c1] := e1
  simp only [List.cons.injEq, Value.slice.injEq, and_true] at e1
  obtain ⟨rfl, rfl, rfl⟩ := e1
  obtain ⟨k, h⟩ := Pure.FnExactDoorsOf (y0.1) (y0.2) y1 (G0.1) (G0.2) G1
  clear hA0 hval0 hsz0 hsz hval
  refine (laws_FnExactDoorsOf.calls k _ _ (y0.1) _ _ (y0.2) _ _ y1 true W hr0_0 hc0_0 hr0_1 hc0_1 hr1 hc1 h).mono fun e W' ⟨he, bel0⟩ => ?_
  have bel : Below W.heap.size W W' := bel0
  subst he
  exact ⟨_, rfl, _, _, _, [], _, [], hW', trodAll_mk1 (shut_bool Try.underlying4 _), (trodAll_cons_mk (Below.trod laidOut (by kernel_rfl) (of_decide_eq_true (by kernel_rfl)) k0_ bel lt0) (trodAll_cons_mk (Below.trod laidOut (by kernel_rfl) (of_decide_eq_true (by kernel_rfl)) k1_ bel lt1) trodAll_mk0)), rfl, bel.frame _, fun h => by cases h⟩
theorem over : Rows.fnExactDoorsOfRow.holds Try.pinned (OpenSpec.ofChange Rows.fnExactDoorsOfSpec) :=
  OpenClaim.holds_of_wide 6 Try.f6 rfl rfl rfl rfl rfl rfl rfl ⟨rfl, rfl, rfl, rfl, rfl⟩ rfl rfl rfl rfl rfl (by kernel_rfl) Try.func6 (by kernel_rfl)
    (of_decide_eq_true (by kernel_rfl)) (by unfold Func.isWrapper; first | (rw [if_pos (by decide +kernel)]; kernel_rfl) | (rw [if_neg (by decide +kernel)]; exact ⟨rfl, rfl⟩))
    (fun os started H enc _ => lifted os started H enc)
theorem proved : Rows.FnExactDoorsOfSaid := over
#print axioms proved
end Go.Proofs.Ytnfcpbajngccoaa.fnExactDoorsOf
namespace Go.Proofs.Ytnfcpbajngccoaa
/-- The row, under a short name, for the claim. -/
theorem fnExactDoorsOf_holds : Rows.FnExactDoorsOfSaid := fnExactDoorsOf.proved
end Go.Proofs.Ytnfcpbajngccoaa
