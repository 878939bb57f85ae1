/- The program's GoodReal and the reference's answer alike at every float. No condition. -/
import Derived.Test.YtijmnkfmkpejmaaPFnExactGoodRealx1
namespace Go.Proofs.Ytijmnkfmkpejmaa.Pure
open Go.RowKit Go.Proofs.Ytijmnkfmkpejmaa.PFnExactGoodReal Go.Proofs.YtijmnkfmkpejmaaW.PrintWords Go.Proofs.YtijmnkfmkpejmaaW.PrintLast Go.Proofs.YtijmnkfmkpejmaaW.PrintMore
set_option linter.unusedVariables false
set_option linter.unusedSimpArgs false
/-- The one pure statement. -/
def laws_FnExactGoodReal_Pure : Prop := ∀ (a0 : Nat), (Lit.float .f64 a0).wf = true → laws_FnExactGoodReal.f a0 = some true
theorem FnExactGoodReal : laws_FnExactGoodReal_Pure := by
  intro a _
  unfold laws_FnExactGoodReal.f impl_GoodReal.f spec_GoodReal.f impl_isFinite.f impl_isFinite_1.f
  simp only [List.any_cons, List.any_nil, Bool.or_false, bne]
  cases math_IsNaN.f a <;> cases math_IsInf.f a <;> cases (FloatKind.f64.format.order a 0 == some .eq) <;> cases math_Signbit.f a <;> rfl
end Go.Proofs.Ytijmnkfmkpejmaa.Pure
