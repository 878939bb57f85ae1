/- The program's Touch and the reference's answer alike at every two shapes. No condition. -/
import Derived.Test.YtlijlailbjjfbaaPFnExactTouchx4
namespace Go.Proofs.Ytlijlailbjjfbaa.Pure
open Go.RowKit Go.Proofs.Ytlijlailbjjfbaa.PFnExactTouch Go.Proofs.YtlijlailbjjfbaaW.PrintWords Go.Proofs.YtlijlailbjjfbaaW.PrintLast Go.Proofs.YtlijlailbjjfbaaW.PrintMore
set_option linter.unusedVariables false
set_option linter.unusedSimpArgs false
/-- The one pure statement. -/
def laws_FnExactTouch_Pure : Prop := ∀ (a0_0 : Int) (a0_1 : Int) (a0_2 : Int) (a0_3 : Int) (a0_4 : Int) (a1_0 : Int) (a1_1 : Int) (a1_2 : Int) (a1_3 : Int) (a1_4 : Int), (Lit.int .i64 a0_0).wf = true → (Lit.int .i64 a0_1).wf = true → (Lit.int .i64 a0_2).wf = true → (Lit.int .i64 a0_3).wf = true → (Lit.int .i64 a0_4).wf = true → (Lit.int .i64 a1_0).wf = true → (Lit.int .i64 a1_1).wf = true → (Lit.int .i64 a1_2).wf = true → (Lit.int .i64 a1_3).wf = true → (Lit.int .i64 a1_4).wf = true → ∃ k, laws_FnExactTouch.f k a0_0 a0_1 a0_2 a0_3 a0_4 a1_0 a1_1 a1_2 a1_3 a1_4 = some true
/-! #### whole numbers: wraps, quotients towards nought -/
theorem wrap_small {i : Int} (h0 : -9223372036854775808 ≤ i) (h1 : i ≤ 9223372036854775807) : wrap64 i = i := by unfold wrap64; omega
theorem tdiv_pos {a b : Int} (ha : 0 ≤ a) : Int.tdiv a b = a / b := Int.tdiv_eq_ediv_of_nonneg ha
theorem tmod_pos {a b : Int} (ha : 0 ≤ a) : Int.tmod a b = a % b := Int.tmod_eq_emod_of_nonneg ha
theorem tdiv_neg' {a b : Int} (ha : a < 0) : Int.tdiv a b = -((-a) / b) := by
  rw [← Int.tdiv_eq_ediv_of_nonneg (a := -a) (by omega), Int.neg_tdiv, Int.neg_neg]
theorem tmod_neg' {a b : Int} (ha : a < 0) : Int.tmod a b = -((-a) % b) := by
  rw [← Int.tmod_eq_emod_of_nonneg (a := -a) (by omega), Int.neg_tmod, Int.neg_neg]
theorem wf64 {a : Int} (h : (Lit.int .i64 a).wf = true) : -9223372036854775808 ≤ a ∧ a ≤ 9223372036854775807 := by
  simp [Lit.wf, IntKind.min, IntKind.max, IntKind.signed, IntKind.bits] at h
  omega
theorem ev_succ {α : Type} {g : Nat → Option α} {r : α} (h : Ev (fun k => g (k + 1)) r) : Ev g r := Ev.step (f := fun k => g (k + 1)) (fun _ => rfl) h
theorem ev_eq {α : Type} {g : Nat → Option α} {r : α} (h : ∀ k, g k = some r) : Ev g r := ⟨0, fun k _ => h k⟩
theorem ev_val {α : Type} {g : Nat → Option α} {r r' : α} (h : Ev g r) (e : r = r') : Ev g r' := e ▸ h
/-! #### is a number in a span -/
def inB (a b c : Int) : Bool := decide (b ≤ a ∧ a ≤ c)
theorem inB_iff {a b c : Int} : inB a b c = true ↔ b ≤ a ∧ a ≤ c := by unfold inB; rw [decide_eq_true_eq]
theorem spec_in (a b c : Int) : spec_l1In.f a b c = some (inB a b c) := by
  unfold spec_l1In.f inB
  by_cases h : a ≥ b
  · rw [if_pos h]; congr 1; rw [decide_eq_decide]; omega
  · rw [if_neg h]; congr 1; exact (decide_eq_false (by omega)).symm
theorem impl_in (a b c : Int) : impl_inRange.f a b c = some (inB a b c) := by
  unfold impl_inRange.f inB
  by_cases h : b ≤ a
  · rw [if_pos h]; congr 1; rw [decide_eq_decide]; omega
  · rw [if_neg h]; congr 1; exact (decide_eq_false (by omega)).symm
/-! #### good shapes -/
def shapeB (k x y w h : Int) : Bool := inB x (-100000) 100000 && (inB y (-100000) 100000 && (inB w 1 1000 && ((decide (k = 1) && inB h 1 1000) || (decide (k = 2) && (h == 0)))))
theorem spec_shape (k x y w h : Int) : spec_GoodShape.f k x y w h = some (shapeB k x y w h) := by
  unfold spec_GoodShape.f shapeB
  simp only [spec_in, Option.bind_some]
  cases inB x (-100000) 100000 <;> cases inB y (-100000) 100000 <;> cases inB w 1 1000 <;> cases inB h 1 1000 <;> by_cases h1 : k = 1 <;> by_cases h2 : k = 2 <;> simp [h1, h2] <;> omega
theorem impl_shape (k x y w h : Int) : impl_GoodShape.f k x y w h = some (shapeB k x y w h) := by
  unfold impl_GoodShape.f impl_isSpan.f shapeB
  simp only [impl_in, Option.bind_some]
  cases inB x (-100000) 100000 <;> cases inB y (-100000) 100000 <;> cases inB w 1 1000 <;> cases inB h 1 1000 <;> by_cases h1 : k = 1 <;> by_cases h2 : k = 2 <;> simp [h1, h2] <;> omega
theorem bounds_same (k x y w h : Int) : spec_l9Bounds.f k x y w h = impl_Shape_bounds.f k x y w h := rfl
/-- A shape's bounds: west, north, east, south. -/
def boundsV (k x y w h : Int) : Int × Int × Int × Int := if k = 1 then (x, y, wrap64 (x + w), wrap64 (y + h)) else (wrap64 (x - w), wrap64 (y - w), wrap64 (x + w), wrap64 (y + w))
theorem impl_bounds (k x y w h : Int) : impl_Shape_bounds.f k x y w h = some (boundsV k x y w h) := by
  unfold impl_Shape_bounds.f boundsV
  split <;> rfl
theorem spec_bounds (k x y w h : Int) : spec_l9Bounds.f k x y w h = some (boundsV k x y w h) := by rw [bounds_same, impl_bounds]
/-! #### do two good shapes touch -/
theorem wrap_lo {i : Int} (h0 : -4611686018427387904 ≤ i) (h1 : i ≤ 4611686018427387904) : wrap64 i = i := wrap_small (by omega) (by omega)
def nearB (a b c : Int) : Bool := decide (wrap64 (wrap64 (a * a) + wrap64 (b * b)) ≤ wrap64 (c * c))
def gapV (x lo hi : Int) : Int := if x < lo then wrap64 (lo - x) else if x > hi then wrap64 (x - hi) else 0
theorem spec_gap (x lo hi : Int) : spec_l9Gap.f x lo hi = some (gapV x lo hi) := by
  unfold spec_l9Gap.f gapV
  split
  · rfl
  · split <;> rfl
theorem gap_square {x lo hi : Int} (h : lo ≤ hi) (a0 : -1000000 ≤ x) (a1 : x ≤ 1000000) (b0 : -1000000 ≤ lo) (b1 : lo ≤ 1000000) (c0 : -1000000 ≤ hi) (c1 : hi ≤ 1000000) :
    wrap64 (x - mn (mx x lo) hi) * wrap64 (x - mn (mx x lo) hi) = gapV x lo hi * gapV x lo hi := by
  unfold gapV
  by_cases h1 : x < lo
  · rw [if_pos h1]
    have e : mn (mx x lo) hi = lo := by unfold mn mx; rw [if_pos h1, if_neg (by omega)]
    rw [e, wrap_lo (by omega) (by omega), wrap_lo (by omega) (by omega), show x - lo = -(lo - x) by omega, Int.neg_mul_neg]
  · rw [if_neg h1]
    by_cases h2 : x > hi
    · rw [if_pos h2]
      have e : mn (mx x lo) hi = hi := by unfold mn mx; rw [if_neg h1, if_pos (by omega)]
      rw [e]
    · rw [if_neg h2]
      have e : mn (mx x lo) hi = x := by unfold mn mx; rw [if_neg h1, if_neg (by omega)]
      rw [e, Int.sub_self, wrap_small (i := 0) (by omega) (by omega)]
theorem shapeB_bounds {k x y w h : Int} (hs : shapeB k x y w h = true) : -100000 ≤ x ∧ x ≤ 100000 ∧ -100000 ≤ y ∧ y ≤ 100000 ∧ 1 ≤ w ∧ w ≤ 1000 ∧ ((k = 1 ∧ 1 ≤ h ∧ h ≤ 1000) ∨ (k = 2 ∧ h = 0)) := by
  unfold shapeB at hs
  simp only [Bool.and_eq_true, Bool.or_eq_true, inB_iff, decide_eq_true_eq, beq_iff_eq] at hs
  omega
/-- The reference's answer for a disk and a box. -/
def diskBox (dx dy dr k x y w h : Int) : Bool := nearB (gapV dx (boundsV k x y w h).1 (boundsV k x y w h).2.2.1) (gapV dy (boundsV k x y w h).2.1 (boundsV k x y w h).2.2.2) dr
def boxBox (k x y w h k' x' y' w' h' : Int) : Bool :=
  decide ((boundsV k' x' y' w' h').1 ≤ (boundsV k x y w h).2.2.1 ∧ (boundsV k x y w h).1 ≤ (boundsV k' x' y' w' h').2.2.1 ∧ (boundsV k' x' y' w' h').2.1 ≤ (boundsV k x y w h).2.2.2 ∧ (boundsV k x y w h).2.1 ≤ (boundsV k' x' y' w' h').2.2.2)
/-- Whether two good shapes touch. -/
def touchB (k x y w h k' x' y' w' h' : Int) : Bool :=
  if k = 2 then (if k' = 2 then nearB (wrap64 (x - x')) (wrap64 (y - y')) (wrap64 (w + w')) else diskBox x y w k' x' y' w' h')
  else (if k' = 2 then diskBox x' y' w' k x y w h else boxBox k x y w h k' x' y' w' h')
theorem spec_touch {k x y w h k' x' y' w' h' : Int} (hs : shapeB k x y w h = true) (hs' : shapeB k' x' y' w' h' = true) :
    Ev (fun q => spec_l9Touch.f q k x y w h k' x' y' w' h') (touchB k x y w h k' x' y' w' h') := by
  obtain ⟨b1, b2, b3, b4, b5, b6, b7⟩ := shapeB_bounds hs
  obtain ⟨c1, c2, c3, c4, c5, c6, c7⟩ := shapeB_bounds hs'
  refine ⟨3, fun q hq => ?_⟩
  obtain ⟨q, rfl⟩ : ∃ m, q = m + 3 := ⟨q - 3, by omega⟩
  show spec_l9Touch.f (q + 3) k x y w h k' x' y' w' h' = some (touchB k x y w h k' x' y' w' h')
  unfold spec_l9Touch.f touchB
  rcases b7 with ⟨rfl, b7, b8⟩ | ⟨rfl, rfl⟩ <;> rcases c7 with ⟨rfl, c7, c8⟩ | ⟨rfl, rfl⟩
  · rw [if_neg (by omega), if_neg (by omega), if_neg (by omega)]
    simp only [spec_l9Touch.j0, Bool.false_eq_true, if_false, if_true]
    simp only [spec_l9Touch.j1, spec_l9Touch.j2, spec_bounds, Option.bind_some, show ((1 : Int) == 2) = false from rfl, Bool.false_eq_true, if_false]
    rw [if_neg (by omega)]
    unfold boxBox
    generalize boundsV 1 x y w h = v
    generalize boundsV 1 x' y' w' h' = v'
    by_cases e1 : v'.1 ≤ v.2.2.1 <;> by_cases e2 : v.1 ≤ v'.2.2.1 <;> by_cases e3 : v'.2.1 ≤ v.2.2.2 <;> simp [e1, e2, e3]
  · rw [if_neg (by omega), if_neg (by omega), if_pos (by omega)]
    simp only [spec_l9Touch.j0, Bool.false_eq_true, if_false, if_true]
    simp only [spec_l9Touch.j1, spec_l9Touch.j2, spec_bounds, Option.bind_some, show ((2 : Int) == 2) = true from rfl, if_true, spec_gap]
    rfl
  · rw [if_pos (by omega), if_pos (by omega), if_neg (by omega)]
    simp only [spec_l9Touch.j0, show ((1 : Int) == 2) = false from rfl, Bool.false_eq_true, if_false]
    rw [if_neg (by omega)]
    simp only [spec_l9Touch.j1, spec_l9Touch.j2, spec_bounds, Option.bind_some, Bool.false_eq_true, if_false, if_true, spec_gap]
    rfl
  · rw [if_pos (by omega), if_pos (by omega), if_pos (by omega)]
    simp only [spec_l9Touch.j0, show ((2 : Int) == 2) = true from rfl, if_true]
    rfl
theorem impl_touch_box {x y w h k' x' y' w' h' : Int} (hs : shapeB 1 x y w h = true) (hs' : shapeB k' x' y' w' h' = true) (q : Nat) :
    impl_touch.f (q + 2) 1 x y w h k' x' y' w' h' = some (touchB 1 x y w h k' x' y' w' h') := by
  obtain ⟨b1, b2, b3, b4, b5, b6, b7⟩ := shapeB_bounds hs
  obtain ⟨c1, c2, c3, c4, c5, c6, c7⟩ := shapeB_bounds hs'
  rw [impl_touch.f, if_neg (by omega)]
  unfold touchB
  rw [if_neg (by omega)]
  simp only [impl_touch.j0, Bool.false_eq_true, if_false]
  rw [if_neg (by omega), impl_bounds]
  simp only [Option.bind_some]
  rcases c7 with ⟨rfl, c7, c8⟩ | ⟨rfl, rfl⟩
  · rw [if_neg (by omega), if_neg (by omega), impl_bounds]
    simp only [Option.bind_some]
    unfold boxBox
    generalize boundsV 1 x y w h = v
    generalize boundsV 1 x' y' w' h' = v'
    by_cases e1 : v'.1 ≤ v.2.2.1 <;> by_cases e2 : v.1 ≤ v'.2.2.1 <;> by_cases e3 : v'.2.1 ≤ v.2.2.2 <;> by_cases e4 : v.2.1 ≤ v'.2.2.2 <;> simp [e1, e2, e3, e4]
  · rw [if_pos (by omega), if_pos (by omega)]
    unfold impl_clamp.f impl_near.f diskBox nearB
    simp only [Option.bind_some]
    have d7 : 1 ≤ h ∧ h ≤ 1000 := by omega
    have ev : boundsV 1 x y w h = (x, y, x + w, y + h) := by
      unfold boundsV
      rw [if_pos rfl, wrap_lo (by omega) (by omega), wrap_lo (by omega) (by omega)]
    rw [ev]
    dsimp only
    rw [gap_square (by omega) (by omega) (by omega) (by omega) (by omega) (by omega) (by omega), gap_square (by omega) (by omega) (by omega) (by omega) (by omega) (by omega) (by omega)]
theorem touch_swap {k x y w h k' x' y' w' h' : Int} (hk : k = 2) (hk' : k' = 1) : touchB k x y w h k' x' y' w' h' = touchB k' x' y' w' h' k x y w h := by
  subst hk hk'
  rfl
theorem impl_touch {k x y w h k' x' y' w' h' : Int} (hs : shapeB k x y w h = true) (hs' : shapeB k' x' y' w' h' = true) :
    Ev (fun q => impl_touch.f q k x y w h k' x' y' w' h') (touchB k x y w h k' x' y' w' h') := by
  obtain ⟨b1, b2, b3, b4, b5, b6, b7⟩ := shapeB_bounds hs
  obtain ⟨c1, c2, c3, c4, c5, c6, c7⟩ := shapeB_bounds hs'
  refine ⟨4, fun q hq => ?_⟩
  obtain ⟨q, rfl⟩ : ∃ m, q = m + 4 := ⟨q - 4, by omega⟩
  show impl_touch.f (q + 4) k x y w h k' x' y' w' h' = some (touchB k x y w h k' x' y' w' h')
  rcases b7 with ⟨rfl, b7, b8⟩ | ⟨rfl, rfl⟩
  · exact impl_touch_box hs hs' (q + 2)
  · rw [impl_touch.f, if_pos rfl]
    rcases c7 with ⟨rfl, c7, c8⟩ | ⟨rfl, rfl⟩
    · rw [impl_touch.j0, show ((1 : Int) == 2) = false from rfl, if_neg (by decide), if_pos rfl, impl_touch_box hs' hs q, touch_swap rfl rfl]
      rfl
    · rw [impl_touch.j0, show ((2 : Int) == 2) = true from rfl, if_pos rfl]
      rfl
theorem FnExactTouch : laws_FnExactTouch_Pure := by
  intro k x y w h k' x' y' w' h' _ _ _ _ _ _ _ _ _ _
  apply Ev.rounds (r := true)
  unfold laws_FnExactTouch.f laws_toShape.f spec_Touch.f impl_Touch.f
  simp only [Option.bind_some, spec_shape, impl_shape]
  cases hs : shapeB k x y w h with
  | false =>
    simp only [Bool.false_eq_true, if_false, Option.bind_some, bne_self_eq_false]
    exact Ev.now true
  | true =>
    cases hs' : shapeB k' x' y' w' h' with
    | false =>
      simp only [Bool.false_eq_true, if_false, if_true, Option.bind_some, bne_self_eq_false]
      exact Ev.now true
    | true =>
      simp only [if_true]
      refine Ev.bind (Ev.bind (spec_touch hs hs') (Ev.now _)) (Ev.bind (Ev.bind (impl_touch hs hs') (Ev.now _)) ?_)
      simp only [bne_self_eq_false, Bool.false_eq_true, if_false]
      exact Ev.now true
end Go.Proofs.Ytlijlailbjjfbaa.Pure
