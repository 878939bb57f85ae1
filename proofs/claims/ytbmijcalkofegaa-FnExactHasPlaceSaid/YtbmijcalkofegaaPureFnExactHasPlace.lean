/- The program's HasPlace and the reference's answer alike at every shape and place. No condition. -/
import Derived.Test.YtbmijcalkofegaaPFnExactHasPlacex1
namespace Go.Proofs.Ytbmijcalkofegaa.Pure
open Go.RowKit Go.Proofs.Ytbmijcalkofegaa.PFnExactHasPlace Go.Proofs.YtbmijcalkofegaaW.PrintWords Go.Proofs.YtbmijcalkofegaaW.PrintLast Go.Proofs.YtbmijcalkofegaaW.PrintMore
/-- The one pure statement. -/
def laws_FnExactHasPlace_Pure : Prop := ∀ (a0_0 : Int) (a0_1 : Int) (a0_2 : Int) (a0_3 : Int) (a0_4 : Int) (a1 : Int) (a2 : Int), (Lit.int .i64 a0_0).wf = true → (Lit.int .i64 a0_1).wf = true → (Lit.int .i64 a0_2).wf = true → (Lit.int .i64 a0_3).wf = true → (Lit.int .i64 a0_4).wf = true → (Lit.int .i64 a1).wf = true → (Lit.int .i64 a2).wf = true → laws_FnExactHasPlace.f a0_0 a0_1 a0_2 a0_3 a0_4 a1 a2 = some true
/-! #### is a number in a span -/
def inB (a b c : Int) : Bool := decide (b ≤ a ∧ a ≤ c)
theorem inB_iff {a b c : Int} : inB a b c = true ↔ b ≤ a ∧ a ≤ c := by unfold inB; rw [decide_eq_true_eq]
theorem spec_in (a b c : Int) : spec_l1In.f a b c = some (inB a b c) := by
  unfold spec_l1In.f inB
  by_cases h : a ≥ b
  · rw [if_pos h]; congr 1; rw [decide_eq_decide]; omega
  · rw [if_neg h]; congr 1; exact (decide_eq_false (by omega)).symm
theorem impl_in (a b c : Int) : impl_inRange.f a b c = some (inB a b c) := by
  unfold impl_inRange.f inB
  by_cases h : b ≤ a
  · rw [if_pos h]; congr 1; rw [decide_eq_decide]; omega
  · rw [if_neg h]; congr 1; exact (decide_eq_false (by omega)).symm
/-! #### good shapes -/
def shapeB (k x y w h : Int) : Bool := inB x (-100000) 100000 && (inB y (-100000) 100000 && (inB w 1 1000 && ((decide (k = 1) && inB h 1 1000) || (decide (k = 2) && (h == 0)))))
theorem spec_shape (k x y w h : Int) : spec_GoodShape.f k x y w h = some (shapeB k x y w h) := by
  unfold spec_GoodShape.f shapeB
  simp only [spec_in, Option.bind_some]
  cases inB x (-100000) 100000 <;> cases inB y (-100000) 100000 <;> cases inB w 1 1000 <;> cases inB h 1 1000 <;> by_cases h1 : k = 1 <;> by_cases h2 : k = 2 <;> simp [h1, h2] <;> omega
theorem impl_shape (k x y w h : Int) : impl_GoodShape.f k x y w h = some (shapeB k x y w h) := by
  unfold impl_GoodShape.f impl_isSpan.f shapeB
  simp only [impl_in, Option.bind_some]
  cases inB x (-100000) 100000 <;> cases inB y (-100000) 100000 <;> cases inB w 1 1000 <;> cases inB h 1 1000 <;> by_cases h1 : k = 1 <;> by_cases h2 : k = 2 <;> simp [h1, h2] <;> omega
theorem bounds_same (k x y w h : Int) : spec_l9Bounds.f k x y w h = impl_Shape_bounds.f k x y w h := rfl
/-- A shape's bounds: west, north, east, south. -/
def boundsV (k x y w h : Int) : Int × Int × Int × Int := if k = 1 then (x, y, wrap64 (x + w), wrap64 (y + h)) else (wrap64 (x - w), wrap64 (y - w), wrap64 (x + w), wrap64 (y + w))
theorem impl_bounds (k x y w h : Int) : impl_Shape_bounds.f k x y w h = some (boundsV k x y w h) := by
  unfold impl_Shape_bounds.f boundsV
  split <;> rfl
theorem spec_bounds (k x y w h : Int) : spec_l9Bounds.f k x y w h = some (boundsV k x y w h) := by rw [bounds_same, impl_bounds]
theorem FnExactHasPlace : laws_FnExactHasPlace_Pure := by
  intro a b c d e x y _ _ _ _ _ _ _
  unfold laws_FnExactHasPlace.f laws_toShape.f spec_HasPlace.f impl_HasPlace.f impl_near.f
  simp only [Option.bind_some, spec_shape, impl_shape, spec_bounds, impl_bounds, impl_in]
  cases shapeB a b c d e with
  | false => simp
  | true =>
    simp only [if_true]
    unfold inB
    generalize boundsV a b c d e = v
    by_cases h1 : x < v.1
    · rw [if_pos h1, decide_eq_false (p := v.1 ≤ x ∧ x ≤ v.2.2.1) (by omega)]; simp
    · by_cases h2 : x > v.2.2.1
      · rw [if_neg h1, if_pos h2, decide_eq_false (p := v.1 ≤ x ∧ x ≤ v.2.2.1) (by omega)]; simp
      · rw [if_neg h1, if_neg h2, decide_eq_true (p := v.1 ≤ x ∧ x ≤ v.2.2.1) (by omega)]
        by_cases h3 : y < v.2.1
        · rw [if_pos h3, decide_eq_false (p := v.2.1 ≤ y ∧ y ≤ v.2.2.2) (by omega)]; simp
        · by_cases h4 : y > v.2.2.2
          · rw [if_neg h3, if_pos h4, decide_eq_false (p := v.2.1 ≤ y ∧ y ≤ v.2.2.2) (by omega)]; simp
          · rw [if_neg h3, if_neg h4, decide_eq_true (p := v.2.1 ≤ y ∧ y ≤ v.2.2.2) (by omega)]
            by_cases h5 : a = 1
            · simp [h5]
            · simp [h5]
end Go.Proofs.Ytbmijcalkofegaa.Pure
