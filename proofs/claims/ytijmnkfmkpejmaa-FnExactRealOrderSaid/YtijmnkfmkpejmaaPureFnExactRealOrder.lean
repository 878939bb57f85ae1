/- The program's RealOrder and the reference's answer alike at every two floats. No condition. -/
import Derived.Test.YtijmnkfmkpejmaaPFnExactRealOrderx1
namespace Go.Proofs.Ytijmnkfmkpejmaa.Pure
open Go.RowKit Go.Proofs.Ytijmnkfmkpejmaa.PFnExactRealOrder Go.Proofs.YtijmnkfmkpejmaaW.PrintWords Go.Proofs.YtijmnkfmkpejmaaW.PrintLast Go.Proofs.YtijmnkfmkpejmaaW.PrintMore
set_option linter.unusedVariables false
set_option linter.unusedSimpArgs false
/-- The one pure statement. -/
def laws_FnExactRealOrder_Pure : Prop := ∀ (a0 : Nat) (a1 : Nat), (Lit.float .f64 a0).wf = true → (Lit.float .f64 a1).wf = true → laws_FnExactRealOrder.f a0 a1 = some true
theorem none_right {a b : Nat} (h : math_IsNaN.f b = true) : FloatKind.f64.format.order a b = none := by
  unfold math_IsNaN.f at h
  unfold Ieee.Format.order at *
  cases hb : (FloatKind.f64.format.read b) with
  | nan s f => cases FloatKind.f64.format.read a <;> rfl
  | infinity s => rw [hb] at h; exact absurd h (by simp [Ieee.Datum.order])
  | number s m i => rw [hb] at h; exact absurd h (by simp [Ieee.Datum.order])
theorem FnExactRealOrder : laws_FnExactRealOrder_Pure := by
  intro a b _ _
  unfold laws_FnExactRealOrder.f
  congr 1
  rw [decide_eq_true_eq]
  unfold impl_RealOrder.f spec_RealOrder.f
  cases h1 : math_IsNaN.f a with
  | true => rfl
  | false =>
    simp only [Bool.false_eq_true, if_false]
    cases h2 : math_IsNaN.f b with
    | true =>
      simp only [if_true]
      have hn : FloatKind.f64.format.order a b = none := none_right h2
      rw [hn]
      rfl
    | false =>
      simp only [Bool.false_eq_true, if_false]
      cases FloatKind.f64.format.order a b with
      | none => rfl
      | some o => cases o <;> rfl
end Go.Proofs.Ytijmnkfmkpejmaa.Pure
