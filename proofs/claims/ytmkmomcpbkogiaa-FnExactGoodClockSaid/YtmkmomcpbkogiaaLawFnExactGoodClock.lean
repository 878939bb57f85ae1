/- The row of the law FnExactGoodClock: for every input that can be read the Go function returns true and leaves its input as it was. No condition. Written by this session's program. -/
import Derived.Test.YtmkmomcpbkogiaaRows
import Derived.Test.YtmkmomcpbkogiaaPFnExactGoodClockx5
import Derived.Test.YtmkmomcpbkogiaaPureFnExactGoodClock
import Derived.Test.YtmkmomcpbkogiaaOpens
import Derived.WalkKit
import Derived.ProofKit
import Derived.OpenShut
import Derived.ShutString
import Derived.ChangeOld
import Derived.Below
import Derived.SizedLaws
namespace Go.Proofs.Ytmkmomcpbkogiaa.fnExactGoodClock
open Go.ChangeShapes Go.WideShapes Go.ChangeAt Go.RowKit Go.Proofs.Ytmkmomcpbkogiaa.Opens Go.Proofs.YtmkmomcpbkogiaaW.PrintWords Go.Proofs.Ytmkmomcpbkogiaa.PFnExactGoodClock Go.Proofs.Ytmkmomcpbkogiaa.Pure
open Go.ChangeMaps (open_string shut_string)
set_option linter.unusedVariables false
theorem own : ownKnob Try.prog.godebug = none := by kernel_rfl
theorem laidOut : laidOutB Try.prog = true := by kernel_rfl
set_option maxRecDepth 100000 in
theorem o3 : Opens Try.prog 3 (Kd.int .i64) (fun y => (Lit.int .i64 y).wf = true) := opens_int Try.underlying3
set_option maxRecDepth 100000 in
theorem o117 : Opens Try.prog 117 k117 Good117 := opens_good (opens_iso (fun x : S117 => (x.f0, x.f1, x.f2, x.f3)) (fun y => ⟨y.1, y.2.1, y.2.2.1, y.2.2.2⟩) (fun _ => rfl) (opens_structL (n := 4) Try.underlying117 rfl (by kernel_rfl) (opensF_cons (start := 0) (mid := 1) (stop := 4) rfl (by kernel_rfl) (by decide) (by decide) o3 (opensF_cons (start := 1) (mid := 2) (stop := 4) rfl (by kernel_rfl) (by decide) (by decide) o3 (opensF_cons (start := 2) (mid := 3) (stop := 4) rfl (by kernel_rfl) (by decide) (by decide) o3 (opensF_one (start := 3) (stop := 4) rfl (by kernel_rfl) o3)))))) (fun _ h => h)
set_option maxRecDepth 100000 in
theorem o27 : Opens Try.prog 27 (Kd.slice 117 k117) (fun l => (List.length l ≤ maxLen ∧ List.length l * 32 ≤ 140737488351232 ∧ ∀ y ∈ l, Good117 y)) := opens_good (opens_slice Try.underlying27 o117 (by kernel_rfl)) (fun l h => ⟨h.1, (show Try.prog.bytesOf 117 = 32 by kernel_rfl) ▸ h.2.1, h.2.2⟩)
set_option maxRecDepth 100000 in
theorem o29top : Opens Try.prog 29 (Kd.pair (Kd.int .i64) (Kd.slice 117 k117)) (fun y => ((Lit.int .i64 y.1).wf = true ∧ (List.length y.2 ≤ maxLen ∧ List.length y.2 * 32 ≤ 140737488351232 ∧ ∀ z ∈ y.2, Good117 z))) := opens_structL (n := 2) Try.underlying29 rfl (by kernel_rfl) (opensF_cons (start := 0) (mid := 1) (stop := 2) rfl (by kernel_rfl) (by decide) (by decide) o3 (opensF_one (start := 1) (stop := 2) rfl (by kernel_rfl) o27))
set_option maxRecDepth 100000 in
theorem lifted (os : Os) (started : os.Started) (H : Type) (enc : TypeId × Value → H) :
    ReturnsInHanded {} Try.checked os 9 .any (Rows.fnExactGoodClockSpec.pre6 enc Try.prog Try.f9 Rows.fnExactGoodClockRow.domain false) (Rows.fnExactGoodClockSpec.post enc Try.prog Try.f9 false true false false) := by
  refine returnsInHanded_of_change_sized (C := Try.checked) own started (by kernel_rfl) Try.func9
    (ChangeSpec.witness6 (enc := enc) (C := Try.checked) false ⟨#[], #[.agg #[.int .i64 0, .slice none 0 0]], []⟩ 8 (by kernel_rfl) (by kernel_rfl) (by kernel_rfl) (by kernel_rfl)) ?_
  intro W base args ds gs before hval0 hW hcnd hsz0 _
  have hsz : (DataW.weightsEach Try.prog (Try.f9.params.toList ++ Rows.fnExactGoodClockSpec.plain.varTypes Try.prog) (ds ++ gs)).all (· ≤ reachBytes) = true := hsz0
  have hval : ∀ (j : Nat) t v, Try.f9.params[j]? = some t → args[j]? = some v → Value.okWide Try.prog W .any base t v := hval0
  have hW' := hW
  obtain ⟨p, q, hA0, hV, rfl, hfz, hnd⟩ := hW
  have hA : DataW.TrodAll enc Try.prog W 0 (fun _ => true) true Try.f9.params.toList args.toList ds p := hA0
  rw [Try.params9] at hA hval hsz
  obtain ⟨v0, vs0, d0, ds0, p0, q0, hargs, rfl, rfl, h0, r0⟩ := trodAll_cons hA
  obtain ⟨rfl, rfl, rfl⟩ := trodAll_nil r0
  obtain rfl : args = #[v0] := by cases args; simp_all
  obtain ⟨rfl, rfl⟩ := trodVars_none hV
  have k0_ := h0
  have lt0 : ∀ x ∈ p0, x.block < W.heap.size := by obtain ⟨m, hm⟩ := k0_; exact DataW.trod_lt m _ _ _ hm
  obtain ⟨y0, K0, G0⟩ := opens_arg o29top h0 hsz (j := 0) rfl rfl
  obtain ⟨cs0, rfl, -⟩ := okWide_struct Try.underlying29 (hval 0 29 v0 rfl rfl)
  replace K0 : ((Kd.pair (Kd.int .i64) (Kd.slice 117 k117))).K W y0 cs0.toList := K0
  obtain ⟨_, _, e0, rfl, ⟨A0_1, c0_1, rfl, hc0_1, hr0_1⟩⟩ := K0
  obtain rfl : cs0 = #[.int .i64 y0.1, .slice A0_1 (List.length y0.2) c0_1] := Array.ext' (by rw [e0]; rfl)
  clear e0
  obtain ⟨k, h⟩ := Pure.FnExactGoodClock (y0.1) (y0.2) (G0.1) (G0.2)
  clear hA0 hval0 hsz0 hsz hval
  refine (laws_FnExactGoodClock.calls k (y0.1) _ _ (y0.2) true W hr0_1 hc0_1 h).mono fun e W' ⟨he, bel0⟩ => ?_
  have bel : Below W.heap.size W W' := bel0
  subst he
  exact ⟨_, rfl, _, _, _, [], _, [], hW', trodAll_mk1 (shut_bool Try.underlying4 _), (trodAll_cons_mk (Below.trod laidOut (by kernel_rfl) (of_decide_eq_true (by kernel_rfl)) k0_ bel lt0) trodAll_mk0), rfl, bel.frame _, fun h => by cases h⟩
theorem over : Rows.fnExactGoodClockRow.holds Try.pinned (OpenSpec.ofChange Rows.fnExactGoodClockSpec) :=
  OpenClaim.holds_of_wide 9 Try.f9 rfl rfl rfl rfl rfl rfl rfl ⟨rfl, rfl, rfl, rfl, rfl⟩ rfl rfl rfl rfl rfl (by kernel_rfl) Try.func9 (by kernel_rfl)
    (of_decide_eq_true (by kernel_rfl)) (by unfold Func.isWrapper; first | (rw [if_pos (by decide +kernel)]; kernel_rfl) | (rw [if_neg (by decide +kernel)]; exact ⟨rfl, rfl⟩))
    (fun os started H enc _ => lifted os started H enc)
theorem proved : Rows.FnExactGoodClockSaid := over
#print axioms proved
end Go.Proofs.Ytmkmomcpbkogiaa.fnExactGoodClock
namespace Go.Proofs.Ytmkmomcpbkogiaa
/-- The row, under a short name, for the claim. -/
theorem fnExactGoodClock_holds : Rows.FnExactGoodClockSaid := fnExactGoodClock.proved
end Go.Proofs.Ytmkmomcpbkogiaa
