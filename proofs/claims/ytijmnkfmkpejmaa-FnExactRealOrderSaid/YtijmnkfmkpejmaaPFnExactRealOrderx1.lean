/- The machine's side of a law, function by function: a Lean function with the Go function's answers and the proof that the Go code comes to them. No condition. Written by this session's program over the kit's print, this session's own contracts set in. -/
import Derived.Test.YtijmnkfmkpejmaaPFnExactRealOrderx0
namespace Go.Proofs.Ytijmnkfmkpejmaa.PFnExactRealOrder
open Go.RowKit Go.Proofs.YtijmnkfmkpejmaaW.PrintWords Go.Proofs.YtijmnkfmkpejmaaW.PrintLast Go.Proofs.YtijmnkfmkpejmaaW.PrintMore
attribute [local go_sem] max2_int min2_int max_two min_two max_three min_three max_four min_four   -- for this text's walks alone
set_option linter.unusedVariables false
set_option linter.unusedSimpArgs false


/-! ### math_IsNaN: function 35 -/
/-- Is a float none? -/
def math_IsNaN.f (a0 : Nat) : Bool := FloatKind.f64.format.order a0 a0 != some .eq
theorem math_IsNaN.calls (a0 : Nat) (r : Bool) (w : World) (h : math_IsNaN.f a0 = r) :
    Calls Try.prog 35 #[.float .f64 a0] w fun e w' => e = .returned (.bool r) ∧ Drawn0 w w' := by
  subst h
  go_enter Try.func35, Try.ntmps35
  go_wp2
  go_ret
  exact ⟨rfl, by repeat (first | exact Drawn0.refl _ | apply Drawn0.step)⟩


/-! ### spec_RealOrder: function 12 -/
def spec_RealOrder.f (a0 a1 : Nat) : Int := if math_IsNaN.f a0 = true then (if math_IsNaN.f a1 = true then 0 else 1) else if math_IsNaN.f a1 = true then -1 else if (FloatKind.f64.format.order a0 a1 == some .lt) = true then -1 else if (FloatKind.f64.format.order a0 a1 == some .gt) = true then 1 else 0
set_option maxHeartbeats 8000000 in
theorem spec_RealOrder.calls (a0 a1 : Nat) (r : Int) (w : World) (h : spec_RealOrder.f a0 a1 = r) :
    Calls Try.prog 12 #[.float .f64 a0, .float .f64 a1] w fun e w' => e = .returned (.int .i64 r) ∧ Below w.heap.size w w' := by
  subst h
  unfold spec_RealOrder.f
  have H1 : ∃ b, math_IsNaN.f a0 = b := ⟨_, rfl⟩
  have H2 : ∃ b, math_IsNaN.f a1 = b := ⟨_, rfl⟩
  obtain ⟨b1, h1⟩ := H1
  obtain ⟨b2, h2⟩ := H2
  rw [h1, h2]
  have A1 := Aside0.mk h1
  have A2 := Aside0.mk h2
  clear h1 h2
  cases b1 <;> cases b2 <;> cases h3 : (FloatKind.f64.format.order a0 a1 == some .lt) <;> cases h4 : (FloatKind.f64.format.order a0 a1 == some .gt)
  all_goals
    go_enter Try.func12, Try.ntmps12
    go_wp2_with (first | (go_at_call 35; (with_reducible first | refine (math_IsNaN.calls a0 true _ A1.out).mono ?_ | refine (math_IsNaN.calls a0 false _ A1.out).mono ?_ | refine (math_IsNaN.calls a1 true _ A2.out).mono ?_ | refine (math_IsNaN.calls a1 false _ A2.out).mono ?_); rintro e w' ⟨rfl, ⟨nd, rfl⟩⟩))
    go_ret
    exact ⟨by first | rfl | (simp; done), by repeat (first | exact Below.refl _ _ | apply below_alloc | apply pw_below_drewN | apply below_drew1)⟩


/-! ### impl_RealOrder: function 13 -/
def impl_RealOrder.f (a0 a1 : Nat) : Int := if math_IsNaN.f a0 = true then (if math_IsNaN.f a1 = true then 0 else 1) else if (FloatKind.f64.format.order a0 a1 == some .gt) = true then 1 else if math_IsNaN.f a1 = true then -1 else if (FloatKind.f64.format.order a0 a1 == some .lt) = true then -1 else 0
set_option maxHeartbeats 8000000 in
theorem impl_RealOrder.calls (a0 a1 : Nat) (r : Int) (w : World) (h : impl_RealOrder.f a0 a1 = r) :
    Calls Try.prog 13 #[.float .f64 a0, .float .f64 a1] w fun e w' => e = .returned (.int .i64 r) ∧ Below w.heap.size w w' := by
  subst h
  unfold impl_RealOrder.f
  have H1 : ∃ b, math_IsNaN.f a0 = b := ⟨_, rfl⟩
  have H2 : ∃ b, math_IsNaN.f a1 = b := ⟨_, rfl⟩
  obtain ⟨b1, h1⟩ := H1
  obtain ⟨b2, h2⟩ := H2
  rw [h1, h2]
  have A1 := Aside0.mk h1
  have A2 := Aside0.mk h2
  clear h1 h2
  cases b1 <;> cases b2 <;> cases h3 : (FloatKind.f64.format.order a0 a1 == some .lt) <;> cases h4 : (FloatKind.f64.format.order a0 a1 == some .gt)
  all_goals
    go_enter Try.func13, Try.ntmps13
    go_wp2_with (first | (go_at_call 35; (with_reducible first | refine (math_IsNaN.calls a0 true _ A1.out).mono ?_ | refine (math_IsNaN.calls a0 false _ A1.out).mono ?_ | refine (math_IsNaN.calls a1 true _ A2.out).mono ?_ | refine (math_IsNaN.calls a1 false _ A2.out).mono ?_); rintro e w' ⟨rfl, ⟨nd, rfl⟩⟩))
    go_ret
    exact ⟨by first | rfl | (simp; done), by repeat (first | exact Below.refl _ _ | apply below_alloc | apply pw_below_drewN | apply below_drew1)⟩


/-! ### laws_FnExactRealOrder: function 3 -/
def laws_FnExactRealOrder.f (a0 : Nat) (a1 : Nat) : Option (Bool) := some (decide (impl_RealOrder.f a0 a1 = spec_RealOrder.f a0 a1))
set_option maxHeartbeats 8000000 in
theorem laws_FnExactRealOrder.calls (a0 : Nat) (a1 : Nat) (r : Bool) (w : World) (h : laws_FnExactRealOrder.f a0 a1 = some r) :
    Calls Try.prog 3 #[.float .f64 a0, .float .f64 a1] w fun e w' => e = .returned (.bool r) ∧ Below w.heap.size w w' := by
  have H := Option.some.inj h
  clear h
  subst H
  have HB := Aside0.mk (Below.refl w.heap.size w)
  obtain ⟨x, hx⟩ : ∃ x, impl_RealOrder.f a0 a1 = x := ⟨_, rfl⟩
  obtain ⟨y, hy⟩ : ∃ y, spec_RealOrder.f a0 a1 = y := ⟨_, rfl⟩
  rw [hx, hy]
  have AX := Aside0.mk hx
  have AY := Aside0.mk hy
  clear hx hy
  by_cases c : x = y
  · have c0 : (x == y) = true := beq_iff_eq.mpr c
    have c1 : (x != y) = false := bne_eq_false_iff_eq.mpr c
    have c2 : decide (x = y) = true := decide_eq_true c
    clear c
    go_enter Try.func3, Try.ntmps3
    go_wp2_with (first | (go_at_call 12; (with_reducible refine (spec_RealOrder.calls a0 a1 y _ AY.out).mono ?_); rintro e w' ⟨rfl, hb⟩; have n0_ := Aside0.mk (below_step (by repeat (first | (with_reducible first | exact HB.out | apply below_alloc | apply pw_below_drewN | apply below_drew1) | exact HB.out)) hb); clear HB hb; have HB := n0_; clear n0_) | (go_at_call 13; (with_reducible refine (impl_RealOrder.calls a0 a1 x _ AX.out).mono ?_); rintro e w' ⟨rfl, hb⟩; have n0_ := Aside0.mk (below_step (by repeat (first | (with_reducible first | exact HB.out | apply below_alloc | apply pw_below_drewN | apply below_drew1) | exact HB.out)) hb); clear HB hb; have HB := n0_; clear n0_))
    go_ret
    exact ⟨by first | rfl | (simp [c2]; done), by repeat (first | (with_reducible first | exact HB.out | apply below_alloc | apply pw_below_drewN | apply below_drew1) | exact HB.out)⟩
  · have c0 : (x == y) = false := beq_eq_false_iff_ne.mpr c
    have c1 : (x != y) = true := bne_iff_ne.mpr c
    have c2 : decide (x = y) = false := decide_eq_false c
    clear c
    go_enter Try.func3, Try.ntmps3
    go_wp2_with (first | (go_at_call 12; (with_reducible refine (spec_RealOrder.calls a0 a1 y _ AY.out).mono ?_); rintro e w' ⟨rfl, hb⟩; have n0_ := Aside0.mk (below_step (by repeat (first | (with_reducible first | exact HB.out | apply below_alloc | apply pw_below_drewN | apply below_drew1) | exact HB.out)) hb); clear HB hb; have HB := n0_; clear n0_) | (go_at_call 13; (with_reducible refine (impl_RealOrder.calls a0 a1 x _ AX.out).mono ?_); rintro e w' ⟨rfl, hb⟩; have n0_ := Aside0.mk (below_step (by repeat (first | (with_reducible first | exact HB.out | apply below_alloc | apply pw_below_drewN | apply below_drew1) | exact HB.out)) hb); clear HB hb; have HB := n0_; clear n0_))
    go_ret
    exact ⟨by first | rfl | (simp [c2]; done), by repeat (first | (with_reducible first | exact HB.out | apply below_alloc | apply pw_below_drewN | apply below_drew1) | exact HB.out)⟩

end Go.Proofs.Ytijmnkfmkpejmaa.PFnExactRealOrder
