/- The program's OfShort and the reference's answer alike at every word of 32 bits. No condition. -/
import Derived.Test.YtijmnkfmkpejmaaPFnExactOfShortx1
namespace Go.Proofs.Ytijmnkfmkpejmaa.Pure
open Go.RowKit Go.Proofs.Ytijmnkfmkpejmaa.PFnExactOfShort Go.Proofs.YtijmnkfmkpejmaaW.PrintWords Go.Proofs.YtijmnkfmkpejmaaW.PrintLast Go.Proofs.YtijmnkfmkpejmaaW.PrintMore
set_option linter.unusedVariables false
set_option linter.unusedSimpArgs false
theorem good_alike (a : Nat) : impl_GoodReal.f a = spec_GoodReal.f a := by
  unfold impl_GoodReal.f spec_GoodReal.f impl_isFinite.f impl_isFinite_1.f
  simp only [List.any_cons, List.any_nil, Bool.or_false, bne]
  cases math_IsNaN.f a <;> cases math_IsInf.f a <;> cases (FloatKind.f64.format.order a 0 == some .eq) <;> cases math_Signbit.f a <;> rfl
theorem alike (a : Int) : impl_OfShort.f a = spec_OfShort.f a := by
  unfold impl_OfShort.f spec_OfShort.f
  simp only [good_alike]
theorem itself {x : Nat} (h : spec_GoodReal.f x = true) : (FloatKind.f64.format.order x x == some .eq) = true := by
  unfold spec_GoodReal.f at h
  have h1 : math_IsNaN.f x = false := by
    cases hb : math_IsNaN.f x
    · rfl
    · rw [hb] at h; cases h
  unfold math_IsNaN.f at h1
  rw [bne] at h1
  cases hb : (FloatKind.f64.format.order x x == some .eq)
  · rw [hb] at h1; cases h1
  · rfl
/-- The one pure statement. -/
def laws_FnExactOfShort_Pure : Prop := ∀ (a0 : Int), (Lit.int .u32 a0).wf = true → laws_FnExactOfShort.f a0 = some true
theorem FnExactOfShort : laws_FnExactOfShort_Pure := by
  intro a _
  unfold laws_FnExactOfShort.f
  rw [if_pos]
  refine ⟨alike a, ?_⟩
  unfold spec_OfShort.f
  split
  · decide +kernel
  · split
    · next h => exact itself h
    · decide +kernel
end Go.Proofs.Ytijmnkfmkpejmaa.Pure
