/- The row of the law FnExactRunClock: for every input that can be read the Go function returns true and leaves its input as it was. No condition. Written by this session's program. -/
import Derived.Test.YtcdchmdkcdlklaaRows
import Derived.Test.YtcdchmdkcdlklaaPFnExactRunClockx11
import Derived.Test.YtcdchmdkcdlklaaPureFnExactRunClock
import Derived.Test.YtcdchmdkcdlklaaORunClock
import Derived.WalkKit
import Derived.ProofKit
import Derived.OpenShut
import Derived.ShutString
import Derived.ChangeOld
import Derived.Below
import Derived.SizedLaws
namespace Go.Proofs.Ytcdchmdkcdlklaa.fnExactRunClock
open Go.ChangeShapes Go.WideShapes Go.ChangeAt Go.RowKit Go.Proofs.Ytcdchmdkcdlklaa.Opens Go.Proofs.YtcdchmdkcdlklaaW.PrintWords Go.Proofs.Ytcdchmdkcdlklaa.PFnExactRunClock Go.Proofs.Ytcdchmdkcdlklaa.Pure
open Go.ChangeMaps (open_string shut_string)
set_option linter.unusedVariables false
theorem own : ownKnob Try.prog.godebug = none := by kernel_rfl
theorem laidOut : laidOutB Try.prog = true := by kernel_rfl
set_option maxRecDepth 100000 in
theorem o3 : Opens Try.prog 3 (Kd.int .i64) (fun y => (Lit.int .i64 y).wf = true) := opens_int Try.underlying3
set_option maxRecDepth 100000 in
theorem o76 : Opens Try.prog 76 k76 Good76 := opens_good (opens_iso (fun x : S76 => (x.f0, x.f1, x.f2, x.f3)) (fun y => ⟨y.1, y.2.1, y.2.2.1, y.2.2.2⟩) (fun _ => rfl) (opens_structL (n := 4) Try.underlying76 rfl (by kernel_rfl) (opensF_cons (start := 0) (mid := 1) (stop := 4) rfl (by kernel_rfl) (by decide) (by decide) o3 (opensF_cons (start := 1) (mid := 2) (stop := 4) rfl (by kernel_rfl) (by decide) (by decide) o3 (opensF_cons (start := 2) (mid := 3) (stop := 4) rfl (by kernel_rfl) (by decide) (by decide) o3 (opensF_one (start := 3) (stop := 4) rfl (by kernel_rfl) o3)))))) (fun _ h => h)
set_option maxRecDepth 100000 in
theorem o25 : Opens Try.prog 25 (Kd.slice 76 k76) (fun l => (List.length l ≤ maxLen ∧ List.length l * 32 ≤ 140737488351232 ∧ ∀ y ∈ l, Good76 y)) := opens_good (opens_slice Try.underlying25 o76 (by kernel_rfl)) (fun l h => ⟨h.1, (show Try.prog.bytesOf 76 = 32 by kernel_rfl) ▸ h.2.1, h.2.2⟩)
set_option maxRecDepth 100000 in
theorem o27top : Opens Try.prog 27 (Kd.pair (Kd.int .i64) (Kd.slice 76 k76)) (fun y => ((Lit.int .i64 y.1).wf = true ∧ (List.length y.2 ≤ maxLen ∧ List.length y.2 * 32 ≤ 140737488351232 ∧ ∀ z ∈ y.2, Good76 z))) := opens_structL (n := 2) Try.underlying27 rfl (by kernel_rfl) (opensF_cons (start := 0) (mid := 1) (stop := 2) rfl (by kernel_rfl) (by decide) (by decide) o3 (opensF_one (start := 1) (stop := 2) rfl (by kernel_rfl) o25))
set_option maxRecDepth 100000 in
theorem lifted (os : Os) (started : os.Started) (H : Type) (enc : TypeId × Value → H) :
    ReturnsInHanded {} Try.checked os 4 .any (Rows.fnExactRunClockSpec.pre6 enc Try.prog Try.f4 Rows.fnExactRunClockRow.domain false) (Rows.fnExactRunClockSpec.post enc Try.prog Try.f4 false true false false) := by
  refine returnsInHanded_of_change_sized (C := Try.checked) own started (by kernel_rfl) Try.func4
    (ChangeSpec.witness6 (enc := enc) (C := Try.checked) false ⟨#[], #[.agg #[.int .i64 0, .slice none 0 0], .int .i64 0], []⟩ 8 (by kernel_rfl) (by kernel_rfl) (by kernel_rfl) (by kernel_rfl)) ?_
  intro W base args ds gs before hval0 hW hcnd hsz0 _
  have hsz : (DataW.weightsEach Try.prog (Try.f4.params.toList ++ Rows.fnExactRunClockSpec.plain.varTypes Try.prog) (ds ++ gs)).all (· ≤ reachBytes) = true := hsz0
  have hval : ∀ (j : Nat) t v, Try.f4.params[j]? = some t → args[j]? = some v → Value.okWide Try.prog W .any base t v := hval0
  have hW' := hW
  obtain ⟨p, q, hA0, hV, rfl, hfz, hnd⟩ := hW
  have hA : DataW.TrodAll enc Try.prog W 0 (fun _ => true) true Try.f4.params.toList args.toList ds p := hA0
  rw [Try.params4] at hA hval hsz
  obtain ⟨v0, vs0, d0, ds0, p0, q0, hargs, rfl, rfl, h0, r0⟩ := trodAll_cons hA
  obtain ⟨v1, vs1, d1, ds1, p1, q1, rfl, rfl, rfl, h1, r1⟩ := trodAll_cons r0
  obtain ⟨rfl, rfl, rfl⟩ := trodAll_nil r1
  obtain rfl : args = #[v0, v1] := by cases args; simp_all
  obtain ⟨rfl, rfl⟩ := trodVars_none hV
  have k0_ := h0
  have lt0 : ∀ x ∈ p0, x.block < W.heap.size := by obtain ⟨m, hm⟩ := k0_; exact DataW.trod_lt m _ _ _ hm
  obtain ⟨y0, K0, G0⟩ := opens_arg o27top h0 hsz (j := 0) rfl rfl
  obtain ⟨cs0, rfl, -⟩ := okWide_struct Try.underlying27 (hval 0 27 v0 rfl rfl)
  replace K0 : ((Kd.pair (Kd.int .i64) (Kd.slice 76 k76))).K W y0 cs0.toList := K0
  obtain ⟨_, _, e0, rfl, ⟨A0_1, c0_1, rfl, hc0_1, hr0_1⟩⟩ := K0
  obtain rfl : cs0 = #[.int .i64 y0.1, .slice A0_1 (List.length y0.2) c0_1] := Array.ext' (by rw [e0]; rfl)
  clear e0
  have k1_ := h1
  have lt1 : ∀ x ∈ p1, x.block < W.heap.size := by obtain ⟨m, hm⟩ := k1_; exact DataW.trod_lt m _ _ _ hm
  obtain ⟨y1, K1, G1⟩ := opens_arg o3 h1 hsz (j := 1) rfl rfl
  obtain ⟨a1, rfl, -, -, -⟩ := open_int Try.underlying3 (hval 1 3 v1 rfl rfl) h1
  have K1' : [Value.int .i64 a1] = [Value.int .i64 y1] := K1
  clear K1
  obtain rfl : y1 = a1 := by simpa using K1'.symm
  obtain ⟨k, h⟩ := Pure.FnExactRunClock (y0.1) (y0.2) y1 (G0.1) (G0.2) G1
  clear hA0 hval0 hsz0 hsz hval
  refine (laws_FnExactRunClock.calls k (y0.1) _ _ (y0.2) y1 true W hr0_1 hc0_1 rfl h).mono fun e W' ⟨he, bel0⟩ => ?_
  have bel : Below W.heap.size W W' := bel0
  subst he
  exact ⟨_, rfl, _, _, _, [], _, [], hW', trodAll_mk1 (shut_bool Try.underlying4 _), (trodAll_cons_mk (Below.trod laidOut (by kernel_rfl) (of_decide_eq_true (by kernel_rfl)) k0_ bel lt0) (trodAll_cons_mk (Below.trod laidOut (by kernel_rfl) (of_decide_eq_true (by kernel_rfl)) k1_ bel lt1) trodAll_mk0)), rfl, bel.frame _, fun h => by cases h⟩
theorem over : Rows.fnExactRunClockRow.holds Try.pinned (OpenSpec.ofChange Rows.fnExactRunClockSpec) :=
  OpenClaim.holds_of_wide 4 Try.f4 rfl rfl rfl rfl rfl rfl rfl ⟨rfl, rfl, rfl, rfl, rfl⟩ rfl rfl rfl rfl rfl (by kernel_rfl) Try.func4 (by kernel_rfl)
    (of_decide_eq_true (by kernel_rfl)) (by unfold Func.isWrapper; first | (rw [if_pos (by decide +kernel)]; kernel_rfl) | (rw [if_neg (by decide +kernel)]; exact ⟨rfl, rfl⟩))
    (fun os started H enc _ => lifted os started H enc)
theorem proved : Rows.FnExactRunClockSaid := over
#print axioms proved
end Go.Proofs.Ytcdchmdkcdlklaa.fnExactRunClock
namespace Go.Proofs.Ytcdchmdkcdlklaa
/-- The row, under a short name, for the claim. -/
theorem fnExactRunClock_holds : Rows.FnExactRunClockSaid := fnExactRunClock.proved
end Go.Proofs.Ytcdchmdkcdlklaa
