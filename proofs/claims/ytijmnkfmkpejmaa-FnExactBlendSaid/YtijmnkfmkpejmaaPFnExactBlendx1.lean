/- The machine's side of a law, function by function: a Lean function with the Go function's answers and the proof that the Go code comes to them. No condition. Written by this session's program over the kit's print, this session's own contracts set in. -/
import Derived.Test.YtijmnkfmkpejmaaPFnExactBlendx0
namespace Go.Proofs.Ytijmnkfmkpejmaa.PFnExactBlend
open Go.RowKit Go.Proofs.YtijmnkfmkpejmaaW.PrintWords Go.Proofs.YtijmnkfmkpejmaaW.PrintLast Go.Proofs.YtijmnkfmkpejmaaW.PrintMore
attribute [local go_sem] max2_int min2_int max_two min_two max_three min_three max_four min_four   -- for this text's walks alone
set_option linter.unusedVariables false
set_option linter.unusedSimpArgs false


/-! ### laws_sameFloat: function 20 -/
theorem laws_sameFloat.quo {a : Nat} (h : (FloatKind.f64.format.order a 0 == some .eq) = true) : ∃ q, floatBits .quo .f64 4607182418800017408 a = some q := by
  have h' : (Ieee.double.read a).order (Ieee.double.read 0) = some .eq := beq_iff_eq.mp h
  have e1 : Ieee.double.read 4607182418800017408 = .number false 4503599627370496 (-52) := by decide +kernel
  show ∃ q, Ieee.Format.div Ieee.double 4607182418800017408 a = some q
  unfold Ieee.Format.div
  rw [e1]
  cases ha : Ieee.double.read a with
  | nan s t => rw [ha] at h'; simp [Ieee.Datum.order] at h'
  | infinity s => exact ⟨_, rfl⟩
  | number s m e =>
    unfold Ieee.Datum.quotient
    by_cases hm : m = 0
    · simp [hm]
    · simp [hm]
/-- Two floats are the same: said of a float that is a number, beside itself. -/
def laws_sameFloat.f (a b : Nat) : Option Bool := if a = b ∧ (FloatKind.f64.format.order a a == some .eq) = true then some true else none
set_option maxHeartbeats 8000000 in
theorem laws_sameFloat.calls (a b : Nat) (r : Bool) (w : World) (h : laws_sameFloat.f a b = some r) :
    Calls Try.prog 20 #[.float .f64 a, .float .f64 b] w fun e w' => e = .returned (.bool r) ∧ Below w.heap.size w w' := by
  unfold laws_sameFloat.f at h
  split at h
  case isFalse => cases h
  case isTrue hc =>
    obtain ⟨rfl, ho⟩ := hc
    obtain rfl : true = r := Option.some.inj h
    clear h
    have ho2 : (FloatKind.f64.format.order a a != some .eq) = false := by rw [bne, ho]; rfl
    cases hz : (FloatKind.f64.format.order a 0 == some .eq)
    · go_enter Try.func20, Try.ntmps20
      go_wp2
      go_ret
      exact ⟨by first | rfl | (simp; done), by repeat (first | exact Below.refl _ _ | apply below_alloc | apply pw_below_drewN | apply below_drew1)⟩
    · obtain ⟨q, hq⟩ := laws_sameFloat.quo hz
      have hd := fun w => run_float_arith (P := Try.prog) w .quo 22 .f64 4607182418800017408 a q hq
      clear hq
      cases hg : (FloatKind.f64.format.order q 0 == some .gt)
      all_goals
        go_enter Try.func20, Try.ntmps20
        go_wp2
        go_ret
        exact ⟨by first | rfl | (simp; done), by repeat (first | exact Below.refl _ _ | apply below_alloc | apply pw_below_drewN | apply below_drew1)⟩


/-! ### math_IsNaN: function 35 -/
/-- Is a float none? -/
def math_IsNaN.f (a0 : Nat) : Bool := FloatKind.f64.format.order a0 a0 != some .eq
theorem math_IsNaN.calls (a0 : Nat) (r : Bool) (w : World) (h : math_IsNaN.f a0 = r) :
    Calls Try.prog 35 #[.float .f64 a0] w fun e w' => e = .returned (.bool r) ∧ Drawn0 w w' := by
  subst h
  go_enter Try.func35, Try.ntmps35
  go_wp2
  go_ret
  exact ⟨rfl, by repeat (first | exact Drawn0.refl _ | apply Drawn0.step)⟩


/-! ### math_Abs: function 53 -/
def math_Abs.f (a : Nat) : Nat := (Go.bits .andNot .u64 (a : Int) 9223372036854775808).toNat
theorem math_Abs.bits (a : Nat) (w : World) : (callFunc 54 #[.float .f64 a]).run Try.prog w = .ok (.value (.int .u64 (a : Int))) w := by
  rw [run_callFunc_extern Try.func54 (by kernel_rfl) (by kernel_rfl) (by kernel_rfl) (e := Extern.MathFloatBits.float64bits) (by kernel_rfl)]
  rfl
theorem math_Abs.back (n : Int) (w : World) : (callFunc 61 #[.int .u64 n]).run Try.prog w = .ok (.value (.float .f64 n.toNat)) w := by
  rw [run_callFunc_extern Try.func61 (by kernel_rfl) (by kernel_rfl) (by kernel_rfl) (e := Extern.MathFloatBits.float64frombits) (by kernel_rfl)]
  rfl
theorem math_Abs.calls (a : Nat) (r : Nat) (w : World) (h : math_Abs.f a = r) :
    Calls Try.prog 53 #[.float .f64 a] w fun e w' => e = .returned (.float .f64 r) ∧ Drawn0 w w' := by
  subst h
  unfold math_Abs.f
  have h1 := math_Abs.bits a
  have h2 := math_Abs.back
  go_enter Try.func53, Try.ntmps53
  go_wp2
  go_ret
  exact ⟨by first | rfl | (simp; done), by repeat (first | exact Drawn0.refl _ | apply Drawn0.step)⟩


/-! ### math_IsInf: function 36 -/
def math_IsInf.f (a : Nat) : Bool := FloatKind.f64.format.order (math_Abs.f a) 9218868437227405311 == some .gt
theorem math_IsInf.calls (a : Nat) (r : Bool) (w : World) (h : math_IsInf.f a = r) :
    Calls Try.prog 36 #[.float .f64 a, .int .i64 0] w fun e w' => e = .returned (.bool r) ∧ Drawn0 w w' := by
  subst h
  unfold math_IsInf.f
  obtain ⟨b, hb⟩ : ∃ b, math_Abs.f a = b := ⟨_, rfl⟩
  have HA := Aside0.mk hb
  rw [hb]
  clear hb
  go_enter Try.func36, Try.ntmps36
  go_wp2_with (first | (go_at_call 53; (with_reducible refine (math_Abs.calls a b _ HA.out).mono ?_); rintro e w' ⟨rfl, ⟨nd, rfl⟩⟩))
  go_ret
  exact ⟨by first | rfl | (simp; done), by repeat (first | exact Drawn0.refl _ | apply Drawn0.step)⟩


/-! ### math_Signbit: function 37 -/
def math_Signbit.f (a : Nat) : Bool := decide (wrap64 (a : Int) < 0)
theorem math_Signbit.bits (a : Nat) (w : World) : (callFunc 54 #[.float .f64 a]).run Try.prog w = .ok (.value (.int .u64 (a : Int))) w := by
  rw [run_callFunc_extern Try.func54 (by kernel_rfl) (by kernel_rfl) (by kernel_rfl) (e := Extern.MathFloatBits.float64bits) (by kernel_rfl)]
  rfl
theorem math_Signbit.calls (a : Nat) (r : Bool) (w : World) (h : math_Signbit.f a = r) :
    Calls Try.prog 37 #[.float .f64 a] w fun e w' => e = .returned (.bool r) ∧ Drawn0 w w' := by
  subst h
  unfold math_Signbit.f
  have h1 := math_Signbit.bits a
  go_enter Try.func37, Try.ntmps37
  go_wp2
  go_ret
  exact ⟨by first | rfl | (simp [i64_w]; done) | (simp; done), by repeat (first | exact Drawn0.refl _ | apply Drawn0.step)⟩


/-! ### spec_GoodReal: function 14 -/
def spec_GoodReal.f (a : Nat) : Bool := !(math_IsNaN.f a) && (!(math_IsInf.f a) && !((FloatKind.f64.format.order a 0 == some .eq) && math_Signbit.f a))
set_option maxHeartbeats 8000000 in
theorem spec_GoodReal.calls (a : Nat) (r : Bool) (w : World) (h : spec_GoodReal.f a = r) :
    Calls Try.prog 14 #[.float .f64 a] w fun e w' => e = .returned (.bool r) ∧ Below w.heap.size w w' := by
  subst h
  unfold spec_GoodReal.f
  obtain ⟨bn, hn⟩ : ∃ b, math_IsNaN.f a = b := ⟨_, rfl⟩
  obtain ⟨bi, hi⟩ : ∃ b, math_IsInf.f a = b := ⟨_, rfl⟩
  obtain ⟨bs, hs⟩ : ∃ b, math_Signbit.f a = b := ⟨_, rfl⟩
  rw [hn, hi, hs]
  have AN := Aside0.mk hn
  have AI := Aside0.mk hi
  have AS := Aside0.mk hs
  clear hn hi hs
  cases bn <;> cases bi <;> cases h0 : (FloatKind.f64.format.order a 0 == some .eq) <;> cases bs
  all_goals
    go_enter Try.func14, Try.ntmps14
    go_wp2_with (first | (go_at_call 35; (with_reducible first | refine (math_IsNaN.calls a true _ AN.out).mono ?_ | refine (math_IsNaN.calls a false _ AN.out).mono ?_); rintro e w' ⟨rfl, ⟨nd, rfl⟩⟩) | (go_at_call 36; (with_reducible first | refine (math_IsInf.calls a true _ AI.out).mono ?_ | refine (math_IsInf.calls a false _ AI.out).mono ?_); rintro e w' ⟨rfl, ⟨nd, rfl⟩⟩) | (go_at_call 37; (with_reducible first | refine (math_Signbit.calls a true _ AS.out).mono ?_ | refine (math_Signbit.calls a false _ AS.out).mono ?_); rintro e w' ⟨rfl, ⟨nd, rfl⟩⟩))
    go_ret
    exact ⟨by first | rfl | (simp; done), by repeat (first | exact Below.refl _ _ | apply below_alloc | apply pw_below_drewN | apply below_drew1)⟩


/-! ### spec_l2Finite: function 41 -/
theorem spec_l2Finite.nanCut (x y t : Nat) : math_IsNaN.f (Question.cut (.nanBits .f64 x y) t) = true := by
  have e : ∃ s u, Ieee.double.read (Question.cut (.nanBits .f64 x y) t) = .nan s u := by
    show ∃ s u, Ieee.double.read (t % 2 * 2 ^ 63 + 0x7ff0000000000000 + 1 + t / 2 % (2 ^ 52 - 1)) = .nan s u
    generalize hu : t / 2 % (2 ^ 52 - 1) = u
    have hu' : u < 2 ^ 52 - 1 := by rw [← hu]; exact Nat.mod_lt _ (by decide)
    have e0 : Ieee.double.signWeight = 9223372036854775808 := by decide
    have e1 : Ieee.double.infRung = 9218868437227405312 := by decide
    have e2 : Ieee.double.binade = 4503599627370496 := by decide
    have em : (t % 2 * 2 ^ 63 + 0x7ff0000000000000 + 1 + u) % 9223372036854775808 = 0x7ff0000000000000 + 1 + u := by omega
    unfold Ieee.Format.read
    simp only [e0, e1, e2, em]
    rw [if_neg (by omega), if_neg (by omega), if_neg (by omega)]
    exact ⟨_, _, rfl⟩
  obtain ⟨s, u, e⟩ := e
  unfold math_IsNaN.f
  show ((Ieee.double.read (Question.cut (.nanBits .f64 x y) t)).order (Ieee.double.read (Question.cut (.nanBits .f64 x y) t)) != some .eq) = true
  rw [e]
  rfl
theorem spec_l2Finite.readNaN {x : Nat} (h : math_IsNaN.f x = true) : ∃ s u, Ieee.double.read x = .nan s u := by
  unfold math_IsNaN.f at h
  replace h : ((Ieee.double.read x).order (Ieee.double.read x) != some .eq) = true := h
  cases hx : Ieee.double.read x with
  | nan s u => exact ⟨s, u, rfl⟩
  | infinity s => rw [hx] at h; simp [Ieee.Datum.order, compare, compareOfLessAndEq] at h
  | number s m e => rw [hx] at h; simp [Ieee.Datum.order, compare, compareOfLessAndEq] at h
theorem spec_l2Finite.addRight {x y : Nat} (h : math_IsNaN.f y = true) : floatBits .add .f64 x y = none := by
  obtain ⟨s, u, e⟩ := spec_l2Finite.readNaN h
  show Ieee.Format.add Ieee.double x y = none
  unfold Ieee.Format.add
  rw [e]
  cases Ieee.double.read x <;> rfl
theorem spec_l2Finite.runNone {P : Program} (w : World) (op : BinOp) (hop : op = .add ∨ op = .sub ∨ op = .mul ∨ op = .quo) (t : TypeId) (x y : Nat) (h : floatBits op .f64 x y = none) :
    (binOp op t (.float .f64 x) (.float .f64 y)).run P w = .ok (.float .f64 (Question.cut (.nanBits .f64 x y) (w.tape w.drawn (.nanBits .f64 x y)))) w.drew := by
  unfold floatBits at h
  rcases hop with rfl | rfl | rfl | rfl <;> simp only at h <;> simp [binOp, Op.floatArith, h, Question.forced]
def spec_l2Finite.f (a : Nat) : Bool := !(math_IsNaN.f a) && !(math_IsInf.f a)
theorem spec_l2Finite.calls (a : Nat) (r : Bool) (w : World) (h : spec_l2Finite.f a = r) :
    Calls Try.prog 41 #[.float .f64 a] w fun e w' => e = .returned (.bool r) ∧ Drawn0 w w' := by
  subst h
  unfold spec_l2Finite.f
  obtain ⟨bn, hn⟩ : ∃ b, math_IsNaN.f a = b := ⟨_, rfl⟩
  obtain ⟨bi, hi⟩ : ∃ b, math_IsInf.f a = b := ⟨_, rfl⟩
  have AN := Aside0.mk hn
  have AI := Aside0.mk hi
  rw [hn, hi]
  clear hn hi
  cases bn <;> cases bi
  all_goals
    go_enter Try.func41, Try.ntmps41
    go_wp2_with (first | (go_at_call 35; (with_reducible first | refine (math_IsNaN.calls a true _ AN.out).mono ?_ | refine (math_IsNaN.calls a false _ AN.out).mono ?_); rintro e w' ⟨rfl, ⟨nd, rfl⟩⟩) | (go_at_call 36; (with_reducible first | refine (math_IsInf.calls a true _ AI.out).mono ?_ | refine (math_IsInf.calls a false _ AI.out).mono ?_); rintro e w' ⟨rfl, ⟨nd, rfl⟩⟩))
    go_ret
    exact ⟨by first | rfl | (simp; done), by repeat (first | exact Drawn0.refl _ | apply Drawn0.step)⟩


/-! ### spec_l2Plain: function 42 -/
def spec_l2Plain.f (a : Nat) : Nat := if (FloatKind.f64.format.order a 0 == some .eq) = true then 0 else a
theorem spec_l2Plain.calls (a : Nat) (r : Nat) (w : World) (h : spec_l2Plain.f a = r) :
    Calls Try.prog 42 #[.float .f64 a] w fun e w' => e = .returned (.float .f64 r) ∧ Drawn0 w w' := by
  subst h
  unfold spec_l2Plain.f
  cases h0 : (FloatKind.f64.format.order a 0 == some .eq)
  all_goals
    go_enter Try.func42, Try.ntmps42
    go_wp2
    go_ret
    exact ⟨by first | rfl | (simp; done), by repeat (first | exact Drawn0.refl _ | apply Drawn0.step)⟩


/-! ### spec_Blend: function 21 -/
def spec_Blend.f (a b part : Nat) : Option (Nat × Bool) :=
  if spec_GoodReal.f a = false then some (0, false) else if spec_GoodReal.f b = false then some (0, false) else if spec_GoodReal.f part = false then some (0, false) else
  if (FloatKind.f64.format.order part 0 == some .lt) = true then some (0, false) else if (FloatKind.f64.format.order part 4607182418800017408 == some .gt) = true then some (0, false) else
  (floatBits .sub .f64 b a).bind fun d => if spec_l2Finite.f d = false then some (0, false) else
  (floatBits .mul .f64 d part).bind fun m => (floatBits .add .f64 a m).bind fun x => if spec_l2Finite.f x = false then some (0, false) else some (spec_l2Plain.f x, true)
set_option maxHeartbeats 8000000 in
theorem spec_Blend.calls (a b part : Nat) (r1 : Nat) (r2 : Bool) (w : World) (h : spec_Blend.f a b part = some (r1, r2)) :
    Calls Try.prog 21 #[.float .f64 a, .float .f64 b, .float .f64 part] w fun e w' => e = .returned (.tuple #[.float .f64 r1, .bool r2]) ∧ Below w.heap.size w w' := by
  unfold spec_Blend.f at h
  have HB := Aside0.mk (Below.refl w.heap.size w)
  split at h
  · next c =>
    have AA := Aside0.mk c
    cases h
    clear c
    go_enter Try.func21, Try.ntmps21
    go_wp2_with (first | (go_at_call 14; (with_reducible first | refine (spec_GoodReal.calls a true _ AA.out).mono ?_ | refine (spec_GoodReal.calls a false _ AA.out).mono ?_ | refine (spec_GoodReal.calls b true _ AB.out).mono ?_ | refine (spec_GoodReal.calls b false _ AB.out).mono ?_ | refine (spec_GoodReal.calls part true _ AP.out).mono ?_ | refine (spec_GoodReal.calls part false _ AP.out).mono ?_); rintro e w' ⟨rfl, hb⟩; have n0_ := Aside0.mk (below_step (by repeat (first | (with_reducible first | exact HB.out | apply below_alloc | apply pw_below_drewN | apply below_drew1) | exact HB.out)) hb); clear HB hb; have HB := n0_; clear n0_) | (go_at_call 41; (with_reducible first | refine (spec_l2Finite.calls d true _ AD.out).mono ?_ | refine (spec_l2Finite.calls d false _ AD.out).mono ?_ | refine (spec_l2Finite.calls x true _ AX.out).mono ?_ | refine (spec_l2Finite.calls x false _ AX.out).mono ?_); rintro e w' ⟨rfl, ⟨nd, rfl⟩⟩) | (go_at_call 42; (with_reducible first | refine (spec_l2Plain.calls x _ _ AQ.out).mono ?_); rintro e w' ⟨rfl, ⟨nd, rfl⟩⟩))
    go_ret2
    exact ⟨by first | rfl | (simp; done), by repeat (first | (with_reducible first | exact HB.out | apply below_alloc | apply pw_below_drewN | apply below_drew1) | exact HB.out)⟩
  next c =>
  have AA := Aside0.mk (by simpa using c : spec_GoodReal.f a = true)
  clear c
  split at h
  · next c =>
    have AB := Aside0.mk c
    cases h
    clear c
    go_enter Try.func21, Try.ntmps21
    go_wp2_with (first | (go_at_call 14; (with_reducible first | refine (spec_GoodReal.calls a true _ AA.out).mono ?_ | refine (spec_GoodReal.calls a false _ AA.out).mono ?_ | refine (spec_GoodReal.calls b true _ AB.out).mono ?_ | refine (spec_GoodReal.calls b false _ AB.out).mono ?_ | refine (spec_GoodReal.calls part true _ AP.out).mono ?_ | refine (spec_GoodReal.calls part false _ AP.out).mono ?_); rintro e w' ⟨rfl, hb⟩; have n0_ := Aside0.mk (below_step (by repeat (first | (with_reducible first | exact HB.out | apply below_alloc | apply pw_below_drewN | apply below_drew1) | exact HB.out)) hb); clear HB hb; have HB := n0_; clear n0_) | (go_at_call 41; (with_reducible first | refine (spec_l2Finite.calls d true _ AD.out).mono ?_ | refine (spec_l2Finite.calls d false _ AD.out).mono ?_ | refine (spec_l2Finite.calls x true _ AX.out).mono ?_ | refine (spec_l2Finite.calls x false _ AX.out).mono ?_); rintro e w' ⟨rfl, ⟨nd, rfl⟩⟩) | (go_at_call 42; (with_reducible first | refine (spec_l2Plain.calls x _ _ AQ.out).mono ?_); rintro e w' ⟨rfl, ⟨nd, rfl⟩⟩))
    go_ret2
    exact ⟨by first | rfl | (simp; done), by repeat (first | (with_reducible first | exact HB.out | apply below_alloc | apply pw_below_drewN | apply below_drew1) | exact HB.out)⟩
  next c =>
  have AB := Aside0.mk (by simpa using c : spec_GoodReal.f b = true)
  clear c
  split at h
  · next c =>
    have AP := Aside0.mk c
    cases h
    clear c
    go_enter Try.func21, Try.ntmps21
    go_wp2_with (first | (go_at_call 14; (with_reducible first | refine (spec_GoodReal.calls a true _ AA.out).mono ?_ | refine (spec_GoodReal.calls a false _ AA.out).mono ?_ | refine (spec_GoodReal.calls b true _ AB.out).mono ?_ | refine (spec_GoodReal.calls b false _ AB.out).mono ?_ | refine (spec_GoodReal.calls part true _ AP.out).mono ?_ | refine (spec_GoodReal.calls part false _ AP.out).mono ?_); rintro e w' ⟨rfl, hb⟩; have n0_ := Aside0.mk (below_step (by repeat (first | (with_reducible first | exact HB.out | apply below_alloc | apply pw_below_drewN | apply below_drew1) | exact HB.out)) hb); clear HB hb; have HB := n0_; clear n0_) | (go_at_call 41; (with_reducible first | refine (spec_l2Finite.calls d true _ AD.out).mono ?_ | refine (spec_l2Finite.calls d false _ AD.out).mono ?_ | refine (spec_l2Finite.calls x true _ AX.out).mono ?_ | refine (spec_l2Finite.calls x false _ AX.out).mono ?_); rintro e w' ⟨rfl, ⟨nd, rfl⟩⟩) | (go_at_call 42; (with_reducible first | refine (spec_l2Plain.calls x _ _ AQ.out).mono ?_); rintro e w' ⟨rfl, ⟨nd, rfl⟩⟩))
    go_ret2
    exact ⟨by first | rfl | (simp; done), by repeat (first | (with_reducible first | exact HB.out | apply below_alloc | apply pw_below_drewN | apply below_drew1) | exact HB.out)⟩
  next c =>
  have AP := Aside0.mk (by simpa using c : spec_GoodReal.f part = true)
  clear c
  split at h
  · next q1 =>
    cases h
    go_enter Try.func21, Try.ntmps21
    go_wp2_with (first | (go_at_call 14; (with_reducible first | refine (spec_GoodReal.calls a true _ AA.out).mono ?_ | refine (spec_GoodReal.calls a false _ AA.out).mono ?_ | refine (spec_GoodReal.calls b true _ AB.out).mono ?_ | refine (spec_GoodReal.calls b false _ AB.out).mono ?_ | refine (spec_GoodReal.calls part true _ AP.out).mono ?_ | refine (spec_GoodReal.calls part false _ AP.out).mono ?_); rintro e w' ⟨rfl, hb⟩; have n0_ := Aside0.mk (below_step (by repeat (first | (with_reducible first | exact HB.out | apply below_alloc | apply pw_below_drewN | apply below_drew1) | exact HB.out)) hb); clear HB hb; have HB := n0_; clear n0_) | (go_at_call 41; (with_reducible first | refine (spec_l2Finite.calls d true _ AD.out).mono ?_ | refine (spec_l2Finite.calls d false _ AD.out).mono ?_ | refine (spec_l2Finite.calls x true _ AX.out).mono ?_ | refine (spec_l2Finite.calls x false _ AX.out).mono ?_); rintro e w' ⟨rfl, ⟨nd, rfl⟩⟩) | (go_at_call 42; (with_reducible first | refine (spec_l2Plain.calls x _ _ AQ.out).mono ?_); rintro e w' ⟨rfl, ⟨nd, rfl⟩⟩))
    go_ret2
    exact ⟨by first | rfl | (simp; done), by repeat (first | (with_reducible first | exact HB.out | apply below_alloc | apply pw_below_drewN | apply below_drew1) | exact HB.out)⟩
  next c =>
  have q1 : (FloatKind.f64.format.order part 0 == some .lt) = false := Bool.eq_false_iff.mpr c
  clear c
  split at h
  · next q2 =>
    cases h
    go_enter Try.func21, Try.ntmps21
    go_wp2_with (first | (go_at_call 14; (with_reducible first | refine (spec_GoodReal.calls a true _ AA.out).mono ?_ | refine (spec_GoodReal.calls a false _ AA.out).mono ?_ | refine (spec_GoodReal.calls b true _ AB.out).mono ?_ | refine (spec_GoodReal.calls b false _ AB.out).mono ?_ | refine (spec_GoodReal.calls part true _ AP.out).mono ?_ | refine (spec_GoodReal.calls part false _ AP.out).mono ?_); rintro e w' ⟨rfl, hb⟩; have n0_ := Aside0.mk (below_step (by repeat (first | (with_reducible first | exact HB.out | apply below_alloc | apply pw_below_drewN | apply below_drew1) | exact HB.out)) hb); clear HB hb; have HB := n0_; clear n0_) | (go_at_call 41; (with_reducible first | refine (spec_l2Finite.calls d true _ AD.out).mono ?_ | refine (spec_l2Finite.calls d false _ AD.out).mono ?_ | refine (spec_l2Finite.calls x true _ AX.out).mono ?_ | refine (spec_l2Finite.calls x false _ AX.out).mono ?_); rintro e w' ⟨rfl, ⟨nd, rfl⟩⟩) | (go_at_call 42; (with_reducible first | refine (spec_l2Plain.calls x _ _ AQ.out).mono ?_); rintro e w' ⟨rfl, ⟨nd, rfl⟩⟩))
    go_ret2
    exact ⟨by first | rfl | (simp; done), by repeat (first | (with_reducible first | exact HB.out | apply below_alloc | apply pw_below_drewN | apply below_drew1) | exact HB.out)⟩
  next c =>
  have q2 : (FloatKind.f64.format.order part 4607182418800017408 == some .gt) = false := Bool.eq_false_iff.mpr c
  clear c
  obtain ⟨d, hd, h⟩ := Option.bind_eq_some_iff.mp h
  replace hd := fun w => run_float_arith (P := Try.prog) w .sub 22 .f64 b a d hd
  split at h
  · next c =>
    have AD := Aside0.mk c
    cases h
    clear c
    rcases hm : floatBits .mul .f64 d part with _ | m
    · have hx : ∀ (w : World) (t : Nat), (binOp .add 22 (.float .f64 a) (.float .f64 (Question.cut (.nanBits .f64 d part) t))).run Try.prog w = .ok (.float .f64 (Question.cut (.nanBits .f64 a (Question.cut (.nanBits .f64 d part) t)) (w.tape w.drawn (.nanBits .f64 a (Question.cut (.nanBits .f64 d part) t))))) w.drew := fun w t => spec_l2Finite.runNone w .add (by simp) 22 a _ (spec_l2Finite.addRight (spec_l2Finite.nanCut _ _ _))
      replace hm := fun w => spec_l2Finite.runNone (P := Try.prog) w .mul (by simp) 22 d part hm
      go_enter Try.func21, Try.ntmps21
      go_wp2_with (first | (go_at_call 14; (with_reducible first | refine (spec_GoodReal.calls a true _ AA.out).mono ?_ | refine (spec_GoodReal.calls a false _ AA.out).mono ?_ | refine (spec_GoodReal.calls b true _ AB.out).mono ?_ | refine (spec_GoodReal.calls b false _ AB.out).mono ?_ | refine (spec_GoodReal.calls part true _ AP.out).mono ?_ | refine (spec_GoodReal.calls part false _ AP.out).mono ?_); rintro e w' ⟨rfl, hb⟩; have n0_ := Aside0.mk (below_step (by repeat (first | (with_reducible first | exact HB.out | apply below_alloc | apply pw_below_drewN | apply below_drew1) | exact HB.out)) hb); clear HB hb; have HB := n0_; clear n0_) | (go_at_call 41; (with_reducible first | refine (spec_l2Finite.calls d true _ AD.out).mono ?_ | refine (spec_l2Finite.calls d false _ AD.out).mono ?_ | refine (spec_l2Finite.calls x true _ AX.out).mono ?_ | refine (spec_l2Finite.calls x false _ AX.out).mono ?_); rintro e w' ⟨rfl, ⟨nd, rfl⟩⟩) | (go_at_call 42; (with_reducible first | refine (spec_l2Plain.calls x _ _ AQ.out).mono ?_); rintro e w' ⟨rfl, ⟨nd, rfl⟩⟩))
      go_ret2
      exact ⟨by first | rfl | (simp; done), by repeat (first | (with_reducible first | exact HB.out | apply below_alloc | apply pw_below_drewN | apply below_drew1) | exact HB.out)⟩
    · replace hm := fun w => run_float_arith (P := Try.prog) w .mul 22 .f64 d part m hm
      rcases hx : floatBits .add .f64 a m with _ | x
      · replace hx := fun w => spec_l2Finite.runNone (P := Try.prog) w .add (by simp) 22 a m hx
        go_enter Try.func21, Try.ntmps21
        go_wp2_with (first | (go_at_call 14; (with_reducible first | refine (spec_GoodReal.calls a true _ AA.out).mono ?_ | refine (spec_GoodReal.calls a false _ AA.out).mono ?_ | refine (spec_GoodReal.calls b true _ AB.out).mono ?_ | refine (spec_GoodReal.calls b false _ AB.out).mono ?_ | refine (spec_GoodReal.calls part true _ AP.out).mono ?_ | refine (spec_GoodReal.calls part false _ AP.out).mono ?_); rintro e w' ⟨rfl, hb⟩; have n0_ := Aside0.mk (below_step (by repeat (first | (with_reducible first | exact HB.out | apply below_alloc | apply pw_below_drewN | apply below_drew1) | exact HB.out)) hb); clear HB hb; have HB := n0_; clear n0_) | (go_at_call 41; (with_reducible first | refine (spec_l2Finite.calls d true _ AD.out).mono ?_ | refine (spec_l2Finite.calls d false _ AD.out).mono ?_ | refine (spec_l2Finite.calls x true _ AX.out).mono ?_ | refine (spec_l2Finite.calls x false _ AX.out).mono ?_); rintro e w' ⟨rfl, ⟨nd, rfl⟩⟩) | (go_at_call 42; (with_reducible first | refine (spec_l2Plain.calls x _ _ AQ.out).mono ?_); rintro e w' ⟨rfl, ⟨nd, rfl⟩⟩))
        go_ret2
        exact ⟨by first | rfl | (simp; done), by repeat (first | (with_reducible first | exact HB.out | apply below_alloc | apply pw_below_drewN | apply below_drew1) | exact HB.out)⟩
      · replace hx := fun w => run_float_arith (P := Try.prog) w .add 22 .f64 a m x hx
        go_enter Try.func21, Try.ntmps21
        go_wp2_with (first | (go_at_call 14; (with_reducible first | refine (spec_GoodReal.calls a true _ AA.out).mono ?_ | refine (spec_GoodReal.calls a false _ AA.out).mono ?_ | refine (spec_GoodReal.calls b true _ AB.out).mono ?_ | refine (spec_GoodReal.calls b false _ AB.out).mono ?_ | refine (spec_GoodReal.calls part true _ AP.out).mono ?_ | refine (spec_GoodReal.calls part false _ AP.out).mono ?_); rintro e w' ⟨rfl, hb⟩; have n0_ := Aside0.mk (below_step (by repeat (first | (with_reducible first | exact HB.out | apply below_alloc | apply pw_below_drewN | apply below_drew1) | exact HB.out)) hb); clear HB hb; have HB := n0_; clear n0_) | (go_at_call 41; (with_reducible first | refine (spec_l2Finite.calls d true _ AD.out).mono ?_ | refine (spec_l2Finite.calls d false _ AD.out).mono ?_ | refine (spec_l2Finite.calls x true _ AX.out).mono ?_ | refine (spec_l2Finite.calls x false _ AX.out).mono ?_); rintro e w' ⟨rfl, ⟨nd, rfl⟩⟩) | (go_at_call 42; (with_reducible first | refine (spec_l2Plain.calls x _ _ AQ.out).mono ?_); rintro e w' ⟨rfl, ⟨nd, rfl⟩⟩))
        go_ret2
        exact ⟨by first | rfl | (simp; done), by repeat (first | (with_reducible first | exact HB.out | apply below_alloc | apply pw_below_drewN | apply below_drew1) | exact HB.out)⟩
  next c =>
  have AD := Aside0.mk (by simpa using c : spec_l2Finite.f d = true)
  clear c
  obtain ⟨m, hm, h⟩ := Option.bind_eq_some_iff.mp h
  obtain ⟨x, hx, h⟩ := Option.bind_eq_some_iff.mp h
  replace hm := fun w => run_float_arith (P := Try.prog) w .mul 22 .f64 d part m hm
  replace hx := fun w => run_float_arith (P := Try.prog) w .add 22 .f64 a m x hx
  split at h
  · next c =>
    have AX := Aside0.mk c
    cases h
    clear c
    go_enter Try.func21, Try.ntmps21
    go_wp2_with (first | (go_at_call 14; (with_reducible first | refine (spec_GoodReal.calls a true _ AA.out).mono ?_ | refine (spec_GoodReal.calls a false _ AA.out).mono ?_ | refine (spec_GoodReal.calls b true _ AB.out).mono ?_ | refine (spec_GoodReal.calls b false _ AB.out).mono ?_ | refine (spec_GoodReal.calls part true _ AP.out).mono ?_ | refine (spec_GoodReal.calls part false _ AP.out).mono ?_); rintro e w' ⟨rfl, hb⟩; have n0_ := Aside0.mk (below_step (by repeat (first | (with_reducible first | exact HB.out | apply below_alloc | apply pw_below_drewN | apply below_drew1) | exact HB.out)) hb); clear HB hb; have HB := n0_; clear n0_) | (go_at_call 41; (with_reducible first | refine (spec_l2Finite.calls d true _ AD.out).mono ?_ | refine (spec_l2Finite.calls d false _ AD.out).mono ?_ | refine (spec_l2Finite.calls x true _ AX.out).mono ?_ | refine (spec_l2Finite.calls x false _ AX.out).mono ?_); rintro e w' ⟨rfl, ⟨nd, rfl⟩⟩) | (go_at_call 42; (with_reducible first | refine (spec_l2Plain.calls x _ _ AQ.out).mono ?_); rintro e w' ⟨rfl, ⟨nd, rfl⟩⟩))
    go_ret2
    exact ⟨by first | rfl | (simp; done), by repeat (first | (with_reducible first | exact HB.out | apply below_alloc | apply pw_below_drewN | apply below_drew1) | exact HB.out)⟩
  next c =>
  have AX := Aside0.mk (by simpa using c : spec_l2Finite.f x = true)
  clear c
  obtain ⟨p, hp⟩ : ∃ p, spec_l2Plain.f x = p := ⟨_, rfl⟩
  rw [hp] at h
  have AQ := Aside0.mk hp
  clear hp
  cases h
  go_enter Try.func21, Try.ntmps21
  go_wp2_with (first | (go_at_call 14; (with_reducible first | refine (spec_GoodReal.calls a true _ AA.out).mono ?_ | refine (spec_GoodReal.calls a false _ AA.out).mono ?_ | refine (spec_GoodReal.calls b true _ AB.out).mono ?_ | refine (spec_GoodReal.calls b false _ AB.out).mono ?_ | refine (spec_GoodReal.calls part true _ AP.out).mono ?_ | refine (spec_GoodReal.calls part false _ AP.out).mono ?_); rintro e w' ⟨rfl, hb⟩; have n0_ := Aside0.mk (below_step (by repeat (first | (with_reducible first | exact HB.out | apply below_alloc | apply pw_below_drewN | apply below_drew1) | exact HB.out)) hb); clear HB hb; have HB := n0_; clear n0_) | (go_at_call 41; (with_reducible first | refine (spec_l2Finite.calls d true _ AD.out).mono ?_ | refine (spec_l2Finite.calls d false _ AD.out).mono ?_ | refine (spec_l2Finite.calls x true _ AX.out).mono ?_ | refine (spec_l2Finite.calls x false _ AX.out).mono ?_); rintro e w' ⟨rfl, ⟨nd, rfl⟩⟩) | (go_at_call 42; (with_reducible first | refine (spec_l2Plain.calls x _ _ AQ.out).mono ?_); rintro e w' ⟨rfl, ⟨nd, rfl⟩⟩))
  go_ret2
  exact ⟨by first | rfl | (simp; done), by repeat (first | (with_reducible first | exact HB.out | apply below_alloc | apply pw_below_drewN | apply below_drew1) | exact HB.out)⟩


/-! ### impl_isFinite_1: function 56 -/
def impl_isFinite_1.f (a : Nat) : Bool := math_IsNaN.f a || math_IsInf.f a
theorem impl_isFinite_1.calls (a : Nat) (r : Bool) (w : World) (h : impl_isFinite_1.f a = r) :
    Calls Try.prog 56 #[.float .f64 a] w fun e w' => e = .returned (.bool r) ∧ Drawn0 w w' := by
  subst h
  unfold impl_isFinite_1.f
  obtain ⟨bn, hn⟩ : ∃ b, math_IsNaN.f a = b := ⟨_, rfl⟩
  obtain ⟨bi, hi⟩ : ∃ b, math_IsInf.f a = b := ⟨_, rfl⟩
  have AN := Aside0.mk hn
  have AI := Aside0.mk hi
  rw [hn, hi]
  clear hn hi
  cases bn <;> cases bi
  all_goals
    go_enter Try.func56, Try.ntmps56
    go_wp2_with (first | (go_at_call 35; (with_reducible first | refine (math_IsNaN.calls a true _ AN.out).mono ?_ | refine (math_IsNaN.calls a false _ AN.out).mono ?_); rintro e w' ⟨rfl, ⟨nd, rfl⟩⟩) | (go_at_call 36; (with_reducible first | refine (math_IsInf.calls a true _ AI.out).mono ?_ | refine (math_IsInf.calls a false _ AI.out).mono ?_); rintro e w' ⟨rfl, ⟨nd, rfl⟩⟩))
    go_ret
    exact ⟨by first | rfl | (simp; done), by repeat (first | exact Drawn0.refl _ | apply Drawn0.step)⟩


/-! ### slices_ContainsFunc_float64_float64: function 55 -/
theorem slices_ContainsFunc_float64_float64.at_ {w : World} {A : Option Addr} {n : Nat} {xs : List Nat} (h : Kd.C (Kd.scalar (Value.float .f64) (fun _ => rfl)) w A n xs) (i : Int) (h0 : 0 ≤ i) (h1 : i < n) : ∃ ad, A = some ad ∧ w.cell? (ad.add i.toNat) = some (.float .f64 (rdOf 0 xs i)) :=
  ReadsOf.at_ (Kd.reads_of_C (enc := Value.float .f64) (d := (0 : Nat)) (h1 := fun _ => rfl) h) i h0 h1
set_option maxHeartbeats 8000000 in
set_option maxRecDepth 100000 in
theorem slices_ContainsFunc_float64_float64.index (A0 : Option Addr) (c0 : Nat) (l0 : List Nat) (w : World) (hr0 : Kd.C (Kd.scalar (Value.float .f64) (fun _ => rfl)) w A0 l0.length l0) (hc0 : l0.length ≤ c0) :
    Calls Try.prog 60 #[.slice A0 l0.length c0, .func (.func 56) #[] #[]] w fun e w' => e = .returned (.int .i64 (idxO impl_isFinite_1.f l0)) ∧ Below w.heap.size w w' := by
  have hn : l0.length ≤ 9223372036854775807 := hr0.2.1
  have eg := Go.Proofs.enters_of Try.func56 (by kernel_rfl) rfl
  have HR0 := Aside0.mk hr0
  clear hr0
  go_enter Try.func60, Try.ntmps60
  go_wp2
  go_loopg [5, 8] l0.length (fun gg _ s8 wr => ∃ kk : Nat, kk ≤ l0.length ∧ l0.length - kk ≤ gg ∧ s8 = .int .i64 (kk : Int) ∧ Aside0 (Below w.heap.size w wr) ∧ Aside0 (∀ j (hj : j < l0.length), j < kk → impl_isFinite_1.f (l0[j]'hj) = false))
  case atStart => exact ⟨0, Nat.zero_le _, by omega, rfl, ⟨Below.refl _ w⟩, ⟨fun j hj h => absurd h (Nat.not_lt_zero _)⟩⟩
  case round =>
    obtain ⟨kk, hkk, hg, rfl, HB, HN⟩ := hrel
    by_cases hlt : kk < l0.length
    · have hltz : (kk : Int) < (l0.length : Int) := by omega
      have p1 : 0 ≤ (kk : Int) := by omega
      obtain ⟨ad1, e1, hx0⟩ := slices_ContainsFunc_float64_float64.at_ HR0.out (kk : Int) p1 hltz
      have hy : rdOf 0 l0 (kk : Int) = l0[kk]'hlt := by simp [rdOf, hlt]
      cases e1
      rw [hy] at hx0; clear hy
      replace hx0 := (HB.out.cell (World.block_lt_of_cell? w _ hx0)).trans hx0
      simp only [Int.toNat_natCast] at hx0
      generalize hy : l0[kk]'hlt = y at hx0
      have HE := Aside0.mk hy; clear hy
      replace p1 := eq_true p1
      by_cases hq : impl_isFinite_1.f y = true
      · have HQ1 := Aside0.mk hq; clear hq
        go_wp2_with fail
        refine (impl_isFinite_1.calls y true _ HQ1.out).mono ?_
        rintro e w' ⟨rfl, ⟨nd, rfl⟩⟩
        go_wp2
        go_ret
        refine ⟨?_, by repeat (first | (with_reducible first | exact HB.out | apply below_alloc | apply pw_below_drewN | apply below_drew1) | exact HB.out)⟩
        rw [idxO_hit hlt (by rw [HE.out]; exact HQ1.out) (fun j hj => HN.out j (by omega) hj)]
        rfl
      · have HQ1 := Aside0.mk (Bool.eq_false_iff.mpr hq); clear hq
        go_wp2_with fail
        refine (impl_isFinite_1.calls y false _ HQ1.out).mono ?_
        rintro e w' ⟨rfl, ⟨nd, rfl⟩⟩
        go_wp2
        go_roundg (l0.length - (kk + 1))
        case measure => omega
        case rel =>
          refine ⟨kk + 1, by omega, by omega, by go_num, ⟨by repeat (first | (with_reducible first | exact HB.out | apply below_alloc | apply pw_below_drewN | apply below_drew1) | exact HB.out)⟩, ⟨fun j hj h => ?_⟩⟩
          by_cases e : j = kk
          · subst e; rw [HE.out]; exact HQ1.out
          · exact HN.out j hj (by omega)
    · have hltz : ¬ (kk : Int) < (l0.length : Int) := by omega
      have hke : kk = l0.length := by omega
      have HM := Aside0.mk (idxO_miss (p := impl_isFinite_1.f) (fun j hj => HN.out j hj (by omega)))
      clear hke HN
      go_wp2
      go_ret
      exact ⟨by rw [HM.out]; rfl, HB.out⟩
set_option maxHeartbeats 8000000 in
theorem slices_ContainsFunc_float64_float64.calls (A0 : Option Addr) (c0 : Nat) (l0 : List Nat) (w : World) (hr0 : Kd.C (Kd.scalar (Value.float .f64) (fun _ => rfl)) w A0 l0.length l0) (hc0 : l0.length ≤ c0) (r : Bool) (h : l0.any impl_isFinite_1.f = r) :
    Calls Try.prog 55 #[.slice A0 l0.length c0, .func (.func 56) #[] #[]] w fun e w' => e = .returned (.bool r) ∧ Below w.heap.size w w' := by
  subst h
  rw [← idxO_nonneg]
  have hi := idxO_range impl_isFinite_1.f l0
  have hl := hr0.2.1
  have HR := Aside0.mk hr0
  clear hr0
  go_enter Try.func55, Try.ntmps55
  go_wp2_with (first | (go_at_call 60; (with_reducible refine (slices_ContainsFunc_float64_float64.index A0 c0 l0 _ HR.out hc0).mono ?_); rintro e w' ⟨rfl, hb⟩))
  go_ret
  exact ⟨rfl, hb⟩


/-! ### impl_isFinite: function 38 -/
def impl_isFinite.f (l0 : List Nat) : Bool := !(l0.any impl_isFinite_1.f)
theorem impl_isFinite.calls (A0 : Option Addr) (c0 : Nat) (l0 : List Nat) (w : World) (hr0 : Kd.C (Kd.scalar (Value.float .f64) (fun _ => rfl)) w A0 l0.length l0) (hc0 : l0.length ≤ c0) (r : Bool) (h : impl_isFinite.f l0 = r) :
    Calls Try.prog 38 #[.slice A0 l0.length c0] w fun e w' => e = .returned (.bool r) ∧ Below w.heap.size w w' := by
  subst h
  unfold impl_isFinite.f
  obtain ⟨b, hb⟩ : ∃ b, l0.any impl_isFinite_1.f = b := ⟨_, rfl⟩
  have HA := Aside0.mk hb
  have HR := Aside0.mk hr0
  rw [hb]
  clear hb hr0
  go_enter Try.func38, Try.ntmps38
  go_wp2_with (first | (go_at_call 55; (with_reducible refine (slices_ContainsFunc_float64_float64.calls A0 c0 l0 _ HR.out hc0 b HA.out).mono ?_); rintro e w' ⟨rfl, hb⟩))
  go_ret
  exact ⟨rfl, hb⟩


/-! ### impl_GoodReal: function 15 -/
def impl_GoodReal.f (a : Nat) : Bool := impl_isFinite.f [a] && ((FloatKind.f64.format.order a 0 != some .eq) || !(math_Signbit.f a))
set_option maxHeartbeats 8000000 in
theorem impl_GoodReal.calls (a : Nat) (r : Bool) (w : World) (h : impl_GoodReal.f a = r) :
    Calls Try.prog 15 #[.float .f64 a] w fun e w' => e = .returned (.bool r) ∧ Below w.heap.size w w' := by
  subst h
  unfold impl_GoodReal.f
  have HB := Aside0.mk (Below.refl w.heap.size w)
  obtain ⟨y, hy⟩ : ∃ y_ : List Nat, y_ = [a] := ⟨_, rfl⟩
  obtain ⟨bf, hf⟩ : ∃ b, impl_isFinite.f y = b := ⟨_, rfl⟩
  obtain ⟨bs, hs⟩ : ∃ b, math_Signbit.f a = b := ⟨_, rfl⟩
  rw [← hy, hf, hs]
  have Ny := Aside0.mk hy
  have AF := Aside0.mk hf
  have AS := Aside0.mk hs
  clear hy hf hs
  cases bf <;> cases h0 : (FloatKind.f64.format.order a 0 != some .eq) <;> cases bs
  all_goals
    go_enter Try.func15, Try.ntmps15
    go_wp2_with (first | ((with_reducible refine gate_dst (N := 4) rfl ?_); refine Kd.R_lit (Kd.scalar (Value.float .f64) (fun _ => rfl)) _ 22 ?hg (N := 4) ?hd (xs := ([a] : List Nat)) (inner := [.float .f64 a]) (ok := fun _ => True) (okp := fun _ => True) ?hr ?hp (fun _ hk => hk) trivial (Below.refl _ _) (Nat.le_refl _) (by simp) ?_; (case hd => rfl); (case hg => rfl); (case hr => first | (go_simp; done) | (go_simp; rfl)); (case hp => exact (Reps.one (show Kd.M (Kd.scalar (Value.float .f64) (fun _ => rfl)) _ _ _ a [.float .f64 a] from rfl) (Reps.none _ _))); intro v1 w1 ho hb hg_ hnew_; clear hg_ hnew_; (first | rw [← Ny.out] at ho | (simp only [Int.reduceToNat] at ho; rw [← Ny.out] at ho)); have n1_ := Aside0.mk (below_step (by repeat (first | (with_reducible first | exact HB.out | apply below_alloc | apply pw_below_drewN | apply below_drew1) | exact HB.out)) hb); have HO := Aside0.mk ho; clear HB; have HB := n1_; clear n1_; clear hb ho; obtain ⟨Ao, co, eo⟩ := Kd.R_slice HO.out; subst eo) | (go_at_call 38; (with_reducible first | refine (impl_isFinite.calls Ao co y _ (Kd.R_reads' HO.out).2.2 (Kd.R_reads' HO.out).2.1 true AF.out).mono ?_ | refine (impl_isFinite.calls Ao co y _ (Kd.R_reads' HO.out).2.2 (Kd.R_reads' HO.out).2.1 false AF.out).mono ?_); rintro e w' ⟨rfl, hb⟩; have n1_ := Aside0.mk (below_step (by repeat (first | (with_reducible first | exact HB.out | apply below_alloc | apply pw_below_drewN | apply below_drew1) | exact HB.out)) hb); clear HB hb; have HB := n1_; clear n1_) | (go_at_call 37; (with_reducible first | refine (math_Signbit.calls a true _ AS.out).mono ?_ | refine (math_Signbit.calls a false _ AS.out).mono ?_); rintro e w' ⟨rfl, ⟨nd, rfl⟩⟩))
    go_ret
    exact ⟨by first | rfl | (simp; done), by repeat (first | (with_reducible first | exact HB.out | apply below_alloc | apply pw_below_drewN | apply below_drew1) | exact HB.out)⟩


/-! ### impl_areGood_1: function 57 -/
def impl_areGood_1.f (a : Nat) : Bool := !(impl_GoodReal.f a)
set_option maxHeartbeats 8000000 in
theorem impl_areGood_1.calls (a : Nat) (r : Bool) (w : World) (h : impl_areGood_1.f a = r) :
    Calls Try.prog 57 #[.float .f64 a] w fun e w' => e = .returned (.bool r) ∧ Below w.heap.size w w' := by
  subst h
  unfold impl_areGood_1.f
  have HB := Aside0.mk (Below.refl w.heap.size w)
  obtain ⟨b, hb⟩ : ∃ b, impl_GoodReal.f a = b := ⟨_, rfl⟩
  have AB := Aside0.mk hb
  rw [hb]
  clear hb
  go_enter Try.func57, Try.ntmps57
  go_wp2_with (go_at_call 15; (with_reducible first | refine (impl_GoodReal.calls a b _ AB.out).mono ?_); rintro e w' ⟨rfl, hb⟩; have n0_ := Aside0.mk (below_step (by repeat (first | (with_reducible first | exact HB.out | apply below_alloc | apply pw_below_drewN | apply below_drew1) | exact HB.out)) hb); clear HB hb; have HB := n0_; clear n0_)
  go_ret
  exact ⟨by first | rfl | (simp; done), by repeat (first | (with_reducible first | exact HB.out | apply below_alloc | apply pw_below_drewN | apply below_drew1) | exact HB.out)⟩


/-! ### impl_areGood: function 43 -/
theorem impl_areGood.at_ {w : World} {A : Option Addr} {n : Nat} {xs : List Nat} (h : Kd.C (Kd.scalar (Value.float .f64) (fun _ => rfl)) w A n xs) (i : Int) (h0 : 0 ≤ i) (h1 : i < n) : ∃ ad, A = some ad ∧ w.cell? (ad.add i.toNat) = some (.float .f64 (rdOf 0 xs i)) :=
  ReadsOf.at_ (Kd.reads_of_C (enc := Value.float .f64) (d := (0 : Nat)) (h1 := fun _ => rfl) h) i h0 h1
set_option maxHeartbeats 8000000 in
set_option maxRecDepth 100000 in
theorem impl_areGood.index (A0 : Option Addr) (c0 : Nat) (l0 : List Nat) (w : World) (hr0 : Kd.C (Kd.scalar (Value.float .f64) (fun _ => rfl)) w A0 l0.length l0) (hc0 : l0.length ≤ c0) :
    Calls Try.prog 60 #[.slice A0 l0.length c0, .func (.func 57) #[] #[]] w fun e w' => e = .returned (.int .i64 (idxO impl_areGood_1.f l0)) ∧ Below w.heap.size w w' := by
  have hn : l0.length ≤ 9223372036854775807 := hr0.2.1
  have eg := Go.Proofs.enters_of Try.func57 (by kernel_rfl) rfl
  have HR0 := Aside0.mk hr0
  clear hr0
  go_enter Try.func60, Try.ntmps60
  go_wp2
  go_loopg [5, 8] l0.length (fun gg _ s8 wr => ∃ kk : Nat, kk ≤ l0.length ∧ l0.length - kk ≤ gg ∧ s8 = .int .i64 (kk : Int) ∧ Aside0 (Below w.heap.size w wr) ∧ Aside0 (∀ j (hj : j < l0.length), j < kk → impl_areGood_1.f (l0[j]'hj) = false))
  case atStart => exact ⟨0, Nat.zero_le _, by omega, rfl, ⟨Below.refl _ w⟩, ⟨fun j hj h => absurd h (Nat.not_lt_zero _)⟩⟩
  case round =>
    obtain ⟨kk, hkk, hg, rfl, HB, HN⟩ := hrel
    by_cases hlt : kk < l0.length
    · have hltz : (kk : Int) < (l0.length : Int) := by omega
      have p1 : 0 ≤ (kk : Int) := by omega
      obtain ⟨ad1, e1, hx0⟩ := impl_areGood.at_ HR0.out (kk : Int) p1 hltz
      have hy : rdOf 0 l0 (kk : Int) = l0[kk]'hlt := by simp [rdOf, hlt]
      cases e1
      rw [hy] at hx0; clear hy
      replace hx0 := (HB.out.cell (World.block_lt_of_cell? w _ hx0)).trans hx0
      simp only [Int.toNat_natCast] at hx0
      generalize hy : l0[kk]'hlt = y at hx0
      have HE := Aside0.mk hy; clear hy
      replace p1 := eq_true p1
      by_cases hq : impl_areGood_1.f y = true
      · have HQ1 := Aside0.mk hq; clear hq
        go_wp2_with fail
        refine (impl_areGood_1.calls y true _ HQ1.out).mono ?_
        rintro e w' ⟨rfl, hb⟩
        have n0_ := Aside0.mk (below_step (by repeat (first | (with_reducible first | exact HB.out | apply below_alloc | apply pw_below_drewN | apply below_drew1) | exact HB.out)) hb); clear HB hb; have HB := n0_; clear n0_
        go_wp2
        go_ret
        refine ⟨?_, by repeat (first | (with_reducible first | exact HB.out | apply below_alloc | apply pw_below_drewN | apply below_drew1) | exact HB.out)⟩
        rw [idxO_hit hlt (by rw [HE.out]; exact HQ1.out) (fun j hj => HN.out j (by omega) hj)]
        rfl
      · have HQ1 := Aside0.mk (Bool.eq_false_iff.mpr hq); clear hq
        go_wp2_with fail
        refine (impl_areGood_1.calls y false _ HQ1.out).mono ?_
        rintro e w' ⟨rfl, hb⟩
        have n0_ := Aside0.mk (below_step (by repeat (first | (with_reducible first | exact HB.out | apply below_alloc | apply pw_below_drewN | apply below_drew1) | exact HB.out)) hb); clear HB hb; have HB := n0_; clear n0_
        go_wp2
        go_roundg (l0.length - (kk + 1))
        case measure => omega
        case rel =>
          refine ⟨kk + 1, by omega, by omega, by go_num, ⟨by repeat (first | (with_reducible first | exact HB.out | apply below_alloc | apply pw_below_drewN | apply below_drew1) | exact HB.out)⟩, ⟨fun j hj h => ?_⟩⟩
          by_cases e : j = kk
          · subst e; rw [HE.out]; exact HQ1.out
          · exact HN.out j hj (by omega)
    · have hltz : ¬ (kk : Int) < (l0.length : Int) := by omega
      have hke : kk = l0.length := by omega
      have HM := Aside0.mk (idxO_miss (p := impl_areGood_1.f) (fun j hj => HN.out j hj (by omega)))
      clear hke HN
      go_wp2
      go_ret
      exact ⟨by rw [HM.out]; rfl, HB.out⟩
set_option maxHeartbeats 8000000 in
theorem impl_areGood.contains (A0 : Option Addr) (c0 : Nat) (l0 : List Nat) (w : World) (hr0 : Kd.C (Kd.scalar (Value.float .f64) (fun _ => rfl)) w A0 l0.length l0) (hc0 : l0.length ≤ c0) (r : Bool) (h : l0.any impl_areGood_1.f = r) :
    Calls Try.prog 55 #[.slice A0 l0.length c0, .func (.func 57) #[] #[]] w fun e w' => e = .returned (.bool r) ∧ Below w.heap.size w w' := by
  subst h
  rw [← idxO_nonneg]
  have hi := idxO_range impl_areGood_1.f l0
  have hl := hr0.2.1
  have HR := Aside0.mk hr0
  clear hr0
  go_enter Try.func55, Try.ntmps55
  go_wp2_with (first | (go_at_call 60; (with_reducible refine (impl_areGood.index A0 c0 l0 _ HR.out hc0).mono ?_); rintro e w' ⟨rfl, hb⟩))
  go_ret
  exact ⟨rfl, hb⟩
def impl_areGood.f (l0 : List Nat) : Bool := !(l0.any impl_areGood_1.f)
theorem impl_areGood.calls (A0 : Option Addr) (c0 : Nat) (l0 : List Nat) (w : World) (hr0 : Kd.C (Kd.scalar (Value.float .f64) (fun _ => rfl)) w A0 l0.length l0) (hc0 : l0.length ≤ c0) (r : Bool) (h : impl_areGood.f l0 = r) :
    Calls Try.prog 43 #[.slice A0 l0.length c0] w fun e w' => e = .returned (.bool r) ∧ Below w.heap.size w w' := by
  subst h
  unfold impl_areGood.f
  obtain ⟨b, hb⟩ : ∃ b, l0.any impl_areGood_1.f = b := ⟨_, rfl⟩
  have HA := Aside0.mk hb
  have HR := Aside0.mk hr0
  rw [hb]
  clear hb hr0
  go_enter Try.func43, Try.ntmps43
  go_wp2_with (first | (go_at_call 55; (with_reducible refine (impl_areGood.contains A0 c0 l0 _ HR.out hc0 b HA.out).mono ?_); rintro e w' ⟨rfl, hb⟩))
  go_ret
  exact ⟨rfl, hb⟩


/-! ### impl_mul: function 44 -/
theorem impl_mul.calls (a b r : Nat) (w : World) (h : floatBits .mul .f64 a b = some r) :
    Calls Try.prog 44 #[.float .f64 a, .float .f64 b] w fun e w' => e = .returned (.float .f64 r) ∧ Drawn0 w w' := by
  have hm := fun w => run_float_arith (P := Try.prog) w .mul 22 .f64 a b r h
  clear h
  go_enter Try.func44, Try.ntmps44
  go_wp2
  go_ret
  exact ⟨by first | rfl | (simp; done), by repeat (first | exact Drawn0.refl _ | apply Drawn0.step)⟩
theorem impl_mul.nan (a b : Nat) (w : World) (h : floatBits .mul .f64 a b = none) :
    Calls Try.prog 44 #[.float .f64 a, .float .f64 b] w fun e w' => ∃ v, math_IsNaN.f v = true ∧ e = .returned (.float .f64 v) ∧ Drawn0 w w' := by
  have hm := fun w => spec_l2Finite.runNone (P := Try.prog) w .mul (by simp) 22 a b h
  clear h
  go_enter Try.func44, Try.ntmps44
  go_wp2
  go_ret
  exact ⟨_, spec_l2Finite.nanCut _ _ _, by first | rfl | (simp; done), by repeat (first | exact Drawn0.refl _ | apply Drawn0.step)⟩


/-! ### impl_plain: function 45 -/
def impl_plain.f (a : Nat) : Nat := if (FloatKind.f64.format.order a 0 == some .eq) = true then 0 else a
theorem impl_plain.calls (a : Nat) (r : Nat) (w : World) (h : impl_plain.f a = r) :
    Calls Try.prog 45 #[.float .f64 a] w fun e w' => e = .returned (.float .f64 r) ∧ Drawn0 w w' := by
  subst h
  unfold impl_plain.f
  cases h0 : (FloatKind.f64.format.order a 0 == some .eq)
  all_goals
    go_enter Try.func45, Try.ntmps45
    go_wp2
    go_ret
    exact ⟨by first | rfl | (simp; done), by repeat (first | exact Drawn0.refl _ | apply Drawn0.step)⟩


/-! ### impl_Blend: function 22 -/
theorem impl_Blend.first {d : Nat} (h : impl_isFinite_1.f d = true) (m x : Nat) : impl_isFinite.f [d, m, x] = false := by unfold impl_isFinite.f; rw [List.any_cons, h]; rfl
def impl_Blend.f (a b part : Nat) : Option (Nat × Bool) :=
  if impl_areGood.f [a, b, part] = false then some (0, false) else
  if (FloatKind.f64.format.order part 0 == some .lt) = true then some (0, false) else if (FloatKind.f64.format.order part 4607182418800017408 == some .gt) = true then some (0, false) else
  (floatBits .sub .f64 b a).bind fun d => if impl_isFinite_1.f d = true then some (0, false) else
  (floatBits .mul .f64 d part).bind fun m => (floatBits .add .f64 a m).bind fun x => if impl_isFinite.f [d, m, x] = false then some (0, false) else some (impl_plain.f x, true)
set_option maxHeartbeats 8000000 in
theorem impl_Blend.calls (a b part : Nat) (r1 : Nat) (r2 : Bool) (w : World) (h : impl_Blend.f a b part = some (r1, r2)) :
    Calls Try.prog 22 #[.float .f64 a, .float .f64 b, .float .f64 part] w fun e w' => e = .returned (.tuple #[.float .f64 r1, .bool r2]) ∧ Below w.heap.size w w' := by
  unfold impl_Blend.f at h
  have HB := Aside0.mk (Below.refl w.heap.size w)
  split at h
  · next c =>
    have AA := Aside0.mk c
    cases h
    clear c
    go_enter Try.func22, Try.ntmps22
    go_wp2_with (first | ((with_reducible refine gate_dst (N := 13) rfl ?_); refine Kd.R_lit (Kd.scalar (Value.float .f64) (fun _ => rfl)) _ 22 ?hg (N := 13) ?hd (xs := ([a, b, part] : List Nat)) (inner := [.float .f64 a, .float .f64 b, .float .f64 part]) (ok := fun _ => True) (okp := fun _ => True) ?hr ?hp (fun _ hk => hk) trivial (Below.refl _ _) (Nat.le_refl _) (by simp) ?_; (case hd => rfl); (case hg => rfl); (case hr => first | (go_simp; done) | (go_simp; rfl)); (case hp => exact (Reps.one (show Kd.M (Kd.scalar (Value.float .f64) (fun _ => rfl)) _ _ _ a [.float .f64 a] from rfl) (Reps.one (show Kd.M (Kd.scalar (Value.float .f64) (fun _ => rfl)) _ _ _ b [.float .f64 b] from rfl) (Reps.one (show Kd.M (Kd.scalar (Value.float .f64) (fun _ => rfl)) _ _ _ part [.float .f64 part] from rfl) (Reps.none _ _))))); intro v1 w1 ho hb hg_ hnew_; clear hg_ hnew_; (first | generalize hy_ : ([a, b, part] : List Nat) = y at ho | (simp only [Int.reduceToNat] at ho; generalize hy_ : ([a, b, part] : List Nat) = y at ho)); have Ny := Aside0.mk hy_; clear hy_; have HO := Aside0.mk ho; have n1_ := Aside0.mk (below_step (by repeat (first | (with_reducible first | exact HB.out | apply below_alloc | apply pw_below_drewN | apply below_drew1) | exact HB.out)) hb); clear HB; have HB := n1_; clear n1_ hb ho; obtain ⟨Ao, co, eo⟩ := Kd.R_slice HO.out; subst eo) | ((with_reducible refine gate_dst (N := 35) rfl ?_); refine Kd.R_lit (Kd.scalar (Value.float .f64) (fun _ => rfl)) _ 22 ?hg (N := 35) ?hd (xs := ([d, m, x] : List Nat)) (inner := [.float .f64 d, .float .f64 m, .float .f64 x]) (ok := fun _ => True) (okp := fun _ => True) ?hr ?hp (fun _ hk => hk) trivial (Below.refl _ _) (Nat.le_refl _) (by simp) ?_; (case hd => rfl); (case hg => rfl); (case hr => first | (go_simp; done) | (go_simp; rfl)); (case hp => exact (Reps.one (show Kd.M (Kd.scalar (Value.float .f64) (fun _ => rfl)) _ _ _ d [.float .f64 d] from rfl) (Reps.one (show Kd.M (Kd.scalar (Value.float .f64) (fun _ => rfl)) _ _ _ m [.float .f64 m] from rfl) (Reps.one (show Kd.M (Kd.scalar (Value.float .f64) (fun _ => rfl)) _ _ _ x [.float .f64 x] from rfl) (Reps.none _ _))))); intro v1 w1 ho hb hg_ hnew_; clear hg_ hnew_; (first | generalize hy_ : ([d, m, x] : List Nat) = y at ho | (simp only [Int.reduceToNat] at ho; generalize hy_ : ([d, m, x] : List Nat) = y at ho)); have Ny := Aside0.mk hy_; clear hy_; have HO := Aside0.mk ho; have n1_ := Aside0.mk (below_step (by repeat (first | (with_reducible first | exact HB.out | apply below_alloc | apply pw_below_drewN | apply below_drew1) | exact HB.out)) hb); clear HB; have HB := n1_; clear n1_ hb ho; obtain ⟨Ao, co, eo⟩ := Kd.R_slice HO.out; subst eo) | (go_at_call 43; (with_reducible first | refine (impl_areGood.calls Ao co y _ (Kd.R_reads' HO.out).2.2 (Kd.R_reads' HO.out).2.1 true (by rw [← Ny.out]; exact AA.out)).mono ?_ | refine (impl_areGood.calls Ao co y _ (Kd.R_reads' HO.out).2.2 (Kd.R_reads' HO.out).2.1 false (by rw [← Ny.out]; exact AA.out)).mono ?_); rintro e w' ⟨rfl, hb⟩; have n0_ := Aside0.mk (below_step (by repeat (first | (with_reducible first | exact HB.out | apply below_alloc | apply pw_below_drewN | apply below_drew1) | exact HB.out)) hb); clear HB hb; have HB := n0_; clear n0_) | (go_at_call 38; (with_reducible first | refine (impl_isFinite.calls Ao co y _ (Kd.R_reads' HO.out).2.2 (Kd.R_reads' HO.out).2.1 true (by rw [← Ny.out]; exact AX.out)).mono ?_ | refine (impl_isFinite.calls Ao co y _ (Kd.R_reads' HO.out).2.2 (Kd.R_reads' HO.out).2.1 false (by rw [← Ny.out]; exact AX.out)).mono ?_ | refine (impl_isFinite.calls Ao co y _ (Kd.R_reads' HO.out).2.2 (Kd.R_reads' HO.out).2.1 false (by rw [← Ny.out]; exact (impl_Blend.first AD.out _ _))).mono ?_); rintro e w' ⟨rfl, hb⟩; have n0_ := Aside0.mk (below_step (by repeat (first | (with_reducible first | exact HB.out | apply below_alloc | apply pw_below_drewN | apply below_drew1) | exact HB.out)) hb); clear HB hb; have HB := n0_; clear n0_) | (go_at_call 44; (with_reducible first | refine (impl_mul.calls d part m _ AM.out).mono ?_); rintro e w' ⟨rfl, ⟨nd, rfl⟩⟩) | (go_at_call 44; (with_reducible refine (impl_mul.nan d part _ AN.out).mono ?_); rintro e w' ⟨m, hv, rfl, ⟨nd, rfl⟩⟩; have hx : ∀ (w : World), (binOp .add 22 (.float .f64 a) (.float .f64 m)).run Try.prog w = .ok (.float .f64 (Question.cut (.nanBits .f64 a m) (w.tape w.drawn (.nanBits .f64 a m)))) w.drew := (fun w => spec_l2Finite.runNone w .add (by simp) 22 a _ (spec_l2Finite.addRight hv)); clear hv) | (go_at_call 45; (with_reducible first | refine (impl_plain.calls x _ _ AQ.out).mono ?_); rintro e w' ⟨rfl, ⟨nd, rfl⟩⟩))
    go_ret2
    exact ⟨by first | rfl | (simp; done), by repeat (first | (with_reducible first | exact HB.out | apply below_alloc | apply pw_below_drewN | apply below_drew1) | exact HB.out)⟩
  next c =>
  have AA := Aside0.mk (by simpa using c : impl_areGood.f [a, b, part] = true)
  clear c
  split at h
  · next q1 =>
    cases h
    go_enter Try.func22, Try.ntmps22
    go_wp2_with (first | ((with_reducible refine gate_dst (N := 13) rfl ?_); refine Kd.R_lit (Kd.scalar (Value.float .f64) (fun _ => rfl)) _ 22 ?hg (N := 13) ?hd (xs := ([a, b, part] : List Nat)) (inner := [.float .f64 a, .float .f64 b, .float .f64 part]) (ok := fun _ => True) (okp := fun _ => True) ?hr ?hp (fun _ hk => hk) trivial (Below.refl _ _) (Nat.le_refl _) (by simp) ?_; (case hd => rfl); (case hg => rfl); (case hr => first | (go_simp; done) | (go_simp; rfl)); (case hp => exact (Reps.one (show Kd.M (Kd.scalar (Value.float .f64) (fun _ => rfl)) _ _ _ a [.float .f64 a] from rfl) (Reps.one (show Kd.M (Kd.scalar (Value.float .f64) (fun _ => rfl)) _ _ _ b [.float .f64 b] from rfl) (Reps.one (show Kd.M (Kd.scalar (Value.float .f64) (fun _ => rfl)) _ _ _ part [.float .f64 part] from rfl) (Reps.none _ _))))); intro v1 w1 ho hb hg_ hnew_; clear hg_ hnew_; (first | generalize hy_ : ([a, b, part] : List Nat) = y at ho | (simp only [Int.reduceToNat] at ho; generalize hy_ : ([a, b, part] : List Nat) = y at ho)); have Ny := Aside0.mk hy_; clear hy_; have HO := Aside0.mk ho; have n1_ := Aside0.mk (below_step (by repeat (first | (with_reducible first | exact HB.out | apply below_alloc | apply pw_below_drewN | apply below_drew1) | exact HB.out)) hb); clear HB; have HB := n1_; clear n1_ hb ho; obtain ⟨Ao, co, eo⟩ := Kd.R_slice HO.out; subst eo) | ((with_reducible refine gate_dst (N := 35) rfl ?_); refine Kd.R_lit (Kd.scalar (Value.float .f64) (fun _ => rfl)) _ 22 ?hg (N := 35) ?hd (xs := ([d, m, x] : List Nat)) (inner := [.float .f64 d, .float .f64 m, .float .f64 x]) (ok := fun _ => True) (okp := fun _ => True) ?hr ?hp (fun _ hk => hk) trivial (Below.refl _ _) (Nat.le_refl _) (by simp) ?_; (case hd => rfl); (case hg => rfl); (case hr => first | (go_simp; done) | (go_simp; rfl)); (case hp => exact (Reps.one (show Kd.M (Kd.scalar (Value.float .f64) (fun _ => rfl)) _ _ _ d [.float .f64 d] from rfl) (Reps.one (show Kd.M (Kd.scalar (Value.float .f64) (fun _ => rfl)) _ _ _ m [.float .f64 m] from rfl) (Reps.one (show Kd.M (Kd.scalar (Value.float .f64) (fun _ => rfl)) _ _ _ x [.float .f64 x] from rfl) (Reps.none _ _))))); intro v1 w1 ho hb hg_ hnew_; clear hg_ hnew_; (first | generalize hy_ : ([d, m, x] : List Nat) = y at ho | (simp only [Int.reduceToNat] at ho; generalize hy_ : ([d, m, x] : List Nat) = y at ho)); have Ny := Aside0.mk hy_; clear hy_; have HO := Aside0.mk ho; have n1_ := Aside0.mk (below_step (by repeat (first | (with_reducible first | exact HB.out | apply below_alloc | apply pw_below_drewN | apply below_drew1) | exact HB.out)) hb); clear HB; have HB := n1_; clear n1_ hb ho; obtain ⟨Ao, co, eo⟩ := Kd.R_slice HO.out; subst eo) | (go_at_call 43; (with_reducible first | refine (impl_areGood.calls Ao co y _ (Kd.R_reads' HO.out).2.2 (Kd.R_reads' HO.out).2.1 true (by rw [← Ny.out]; exact AA.out)).mono ?_ | refine (impl_areGood.calls Ao co y _ (Kd.R_reads' HO.out).2.2 (Kd.R_reads' HO.out).2.1 false (by rw [← Ny.out]; exact AA.out)).mono ?_); rintro e w' ⟨rfl, hb⟩; have n0_ := Aside0.mk (below_step (by repeat (first | (with_reducible first | exact HB.out | apply below_alloc | apply pw_below_drewN | apply below_drew1) | exact HB.out)) hb); clear HB hb; have HB := n0_; clear n0_) | (go_at_call 38; (with_reducible first | refine (impl_isFinite.calls Ao co y _ (Kd.R_reads' HO.out).2.2 (Kd.R_reads' HO.out).2.1 true (by rw [← Ny.out]; exact AX.out)).mono ?_ | refine (impl_isFinite.calls Ao co y _ (Kd.R_reads' HO.out).2.2 (Kd.R_reads' HO.out).2.1 false (by rw [← Ny.out]; exact AX.out)).mono ?_ | refine (impl_isFinite.calls Ao co y _ (Kd.R_reads' HO.out).2.2 (Kd.R_reads' HO.out).2.1 false (by rw [← Ny.out]; exact (impl_Blend.first AD.out _ _))).mono ?_); rintro e w' ⟨rfl, hb⟩; have n0_ := Aside0.mk (below_step (by repeat (first | (with_reducible first | exact HB.out | apply below_alloc | apply pw_below_drewN | apply below_drew1) | exact HB.out)) hb); clear HB hb; have HB := n0_; clear n0_) | (go_at_call 44; (with_reducible first | refine (impl_mul.calls d part m _ AM.out).mono ?_); rintro e w' ⟨rfl, ⟨nd, rfl⟩⟩) | (go_at_call 44; (with_reducible refine (impl_mul.nan d part _ AN.out).mono ?_); rintro e w' ⟨m, hv, rfl, ⟨nd, rfl⟩⟩; have hx : ∀ (w : World), (binOp .add 22 (.float .f64 a) (.float .f64 m)).run Try.prog w = .ok (.float .f64 (Question.cut (.nanBits .f64 a m) (w.tape w.drawn (.nanBits .f64 a m)))) w.drew := (fun w => spec_l2Finite.runNone w .add (by simp) 22 a _ (spec_l2Finite.addRight hv)); clear hv) | (go_at_call 45; (with_reducible first | refine (impl_plain.calls x _ _ AQ.out).mono ?_); rintro e w' ⟨rfl, ⟨nd, rfl⟩⟩))
    go_ret2
    exact ⟨by first | rfl | (simp; done), by repeat (first | (with_reducible first | exact HB.out | apply below_alloc | apply pw_below_drewN | apply below_drew1) | exact HB.out)⟩
  next c =>
  have q1 : (FloatKind.f64.format.order part 0 == some .lt) = false := Bool.eq_false_iff.mpr c
  clear c
  split at h
  · next q2 =>
    cases h
    go_enter Try.func22, Try.ntmps22
    go_wp2_with (first | ((with_reducible refine gate_dst (N := 13) rfl ?_); refine Kd.R_lit (Kd.scalar (Value.float .f64) (fun _ => rfl)) _ 22 ?hg (N := 13) ?hd (xs := ([a, b, part] : List Nat)) (inner := [.float .f64 a, .float .f64 b, .float .f64 part]) (ok := fun _ => True) (okp := fun _ => True) ?hr ?hp (fun _ hk => hk) trivial (Below.refl _ _) (Nat.le_refl _) (by simp) ?_; (case hd => rfl); (case hg => rfl); (case hr => first | (go_simp; done) | (go_simp; rfl)); (case hp => exact (Reps.one (show Kd.M (Kd.scalar (Value.float .f64) (fun _ => rfl)) _ _ _ a [.float .f64 a] from rfl) (Reps.one (show Kd.M (Kd.scalar (Value.float .f64) (fun _ => rfl)) _ _ _ b [.float .f64 b] from rfl) (Reps.one (show Kd.M (Kd.scalar (Value.float .f64) (fun _ => rfl)) _ _ _ part [.float .f64 part] from rfl) (Reps.none _ _))))); intro v1 w1 ho hb hg_ hnew_; clear hg_ hnew_; (first | generalize hy_ : ([a, b, part] : List Nat) = y at ho | (simp only [Int.reduceToNat] at ho; generalize hy_ : ([a, b, part] : List Nat) = y at ho)); have Ny := Aside0.mk hy_; clear hy_; have HO := Aside0.mk ho; have n1_ := Aside0.mk (below_step (by repeat (first | (with_reducible first | exact HB.out | apply below_alloc | apply pw_below_drewN | apply below_drew1) | exact HB.out)) hb); clear HB; have HB := n1_; clear n1_ hb ho; obtain ⟨Ao, co, eo⟩ := Kd.R_slice HO.out; subst eo) | ((with_reducible refine gate_dst (N := 35) rfl ?_); refine Kd.R_lit (Kd.scalar (Value.float .f64) (fun _ => rfl)) _ 22 ?hg (N := 35) ?hd (xs := ([d, m, x] : List Nat)) (inner := [.float .f64 d, .float .f64 m, .float .f64 x]) (ok := fun _ => True) (okp := fun _ => True) ?hr ?hp (fun _ hk => hk) trivial (Below.refl _ _) (Nat.le_refl _) (by simp) ?_; (case hd => rfl); (case hg => rfl); (case hr => first | (go_simp; done) | (go_simp; rfl)); (case hp => exact (Reps.one (show Kd.M (Kd.scalar (Value.float .f64) (fun _ => rfl)) _ _ _ d [.float .f64 d] from rfl) (Reps.one (show Kd.M (Kd.scalar (Value.float .f64) (fun _ => rfl)) _ _ _ m [.float .f64 m] from rfl) (Reps.one (show Kd.M (Kd.scalar (Value.float .f64) (fun _ => rfl)) _ _ _ x [.float .f64 x] from rfl) (Reps.none _ _))))); intro v1 w1 ho hb hg_ hnew_; clear hg_ hnew_; (first | generalize hy_ : ([d, m, x] : List Nat) = y at ho | (simp only [Int.reduceToNat] at ho; generalize hy_ : ([d, m, x] : List Nat) = y at ho)); have Ny := Aside0.mk hy_; clear hy_; have HO := Aside0.mk ho; have n1_ := Aside0.mk (below_step (by repeat (first | (with_reducible first | exact HB.out | apply below_alloc | apply pw_below_drewN | apply below_drew1) | exact HB.out)) hb); clear HB; have HB := n1_; clear n1_ hb ho; obtain ⟨Ao, co, eo⟩ := Kd.R_slice HO.out; subst eo) | (go_at_call 43; (with_reducible first | refine (impl_areGood.calls Ao co y _ (Kd.R_reads' HO.out).2.2 (Kd.R_reads' HO.out).2.1 true (by rw [← Ny.out]; exact AA.out)).mono ?_ | refine (impl_areGood.calls Ao co y _ (Kd.R_reads' HO.out).2.2 (Kd.R_reads' HO.out).2.1 false (by rw [← Ny.out]; exact AA.out)).mono ?_); rintro e w' ⟨rfl, hb⟩; have n0_ := Aside0.mk (below_step (by repeat (first | (with_reducible first | exact HB.out | apply below_alloc | apply pw_below_drewN | apply below_drew1) | exact HB.out)) hb); clear HB hb; have HB := n0_; clear n0_) | (go_at_call 38; (with_reducible first | refine (impl_isFinite.calls Ao co y _ (Kd.R_reads' HO.out).2.2 (Kd.R_reads' HO.out).2.1 true (by rw [← Ny.out]; exact AX.out)).mono ?_ | refine (impl_isFinite.calls Ao co y _ (Kd.R_reads' HO.out).2.2 (Kd.R_reads' HO.out).2.1 false (by rw [← Ny.out]; exact AX.out)).mono ?_ | refine (impl_isFinite.calls Ao co y _ (Kd.R_reads' HO.out).2.2 (Kd.R_reads' HO.out).2.1 false (by rw [← Ny.out]; exact (impl_Blend.first AD.out _ _))).mono ?_); rintro e w' ⟨rfl, hb⟩; have n0_ := Aside0.mk (below_step (by repeat (first | (with_reducible first | exact HB.out | apply below_alloc | apply pw_below_drewN | apply below_drew1) | exact HB.out)) hb); clear HB hb; have HB := n0_; clear n0_) | (go_at_call 44; (with_reducible first | refine (impl_mul.calls d part m _ AM.out).mono ?_); rintro e w' ⟨rfl, ⟨nd, rfl⟩⟩) | (go_at_call 44; (with_reducible refine (impl_mul.nan d part _ AN.out).mono ?_); rintro e w' ⟨m, hv, rfl, ⟨nd, rfl⟩⟩; have hx : ∀ (w : World), (binOp .add 22 (.float .f64 a) (.float .f64 m)).run Try.prog w = .ok (.float .f64 (Question.cut (.nanBits .f64 a m) (w.tape w.drawn (.nanBits .f64 a m)))) w.drew := (fun w => spec_l2Finite.runNone w .add (by simp) 22 a _ (spec_l2Finite.addRight hv)); clear hv) | (go_at_call 45; (with_reducible first | refine (impl_plain.calls x _ _ AQ.out).mono ?_); rintro e w' ⟨rfl, ⟨nd, rfl⟩⟩))
    go_ret2
    exact ⟨by first | rfl | (simp; done), by repeat (first | (with_reducible first | exact HB.out | apply below_alloc | apply pw_below_drewN | apply below_drew1) | exact HB.out)⟩
  next c =>
  have q2 : (FloatKind.f64.format.order part 4607182418800017408 == some .gt) = false := Bool.eq_false_iff.mpr c
  clear c
  obtain ⟨d, hd, h⟩ := Option.bind_eq_some_iff.mp h
  replace hd := fun w => run_float_arith (P := Try.prog) w .sub 22 .f64 b a d hd
  split at h
  · next c =>
    have AD := Aside0.mk c
    cases h
    clear c
    rcases hm : floatBits .mul .f64 d part with _ | m
    · have AN := Aside0.mk hm
      clear hm
      go_enter Try.func22, Try.ntmps22
      go_wp2_with (first | ((with_reducible refine gate_dst (N := 13) rfl ?_); refine Kd.R_lit (Kd.scalar (Value.float .f64) (fun _ => rfl)) _ 22 ?hg (N := 13) ?hd (xs := ([a, b, part] : List Nat)) (inner := [.float .f64 a, .float .f64 b, .float .f64 part]) (ok := fun _ => True) (okp := fun _ => True) ?hr ?hp (fun _ hk => hk) trivial (Below.refl _ _) (Nat.le_refl _) (by simp) ?_; (case hd => rfl); (case hg => rfl); (case hr => first | (go_simp; done) | (go_simp; rfl)); (case hp => exact (Reps.one (show Kd.M (Kd.scalar (Value.float .f64) (fun _ => rfl)) _ _ _ a [.float .f64 a] from rfl) (Reps.one (show Kd.M (Kd.scalar (Value.float .f64) (fun _ => rfl)) _ _ _ b [.float .f64 b] from rfl) (Reps.one (show Kd.M (Kd.scalar (Value.float .f64) (fun _ => rfl)) _ _ _ part [.float .f64 part] from rfl) (Reps.none _ _))))); intro v1 w1 ho hb hg_ hnew_; clear hg_ hnew_; (first | generalize hy_ : ([a, b, part] : List Nat) = y at ho | (simp only [Int.reduceToNat] at ho; generalize hy_ : ([a, b, part] : List Nat) = y at ho)); have Ny := Aside0.mk hy_; clear hy_; have HO := Aside0.mk ho; have n1_ := Aside0.mk (below_step (by repeat (first | (with_reducible first | exact HB.out | apply below_alloc | apply pw_below_drewN | apply below_drew1) | exact HB.out)) hb); clear HB; have HB := n1_; clear n1_ hb ho; obtain ⟨Ao, co, eo⟩ := Kd.R_slice HO.out; subst eo) | ((with_reducible refine gate_dst (N := 35) rfl ?_); generalize Question.cut _ _ = x; refine Kd.R_lit (Kd.scalar (Value.float .f64) (fun _ => rfl)) _ 22 ?hg (N := 35) ?hd (xs := ([d, m, x] : List Nat)) (inner := [.float .f64 d, .float .f64 m, .float .f64 x]) (ok := fun _ => True) (okp := fun _ => True) ?hr ?hp (fun _ hk => hk) trivial (Below.refl _ _) (Nat.le_refl _) (by simp) ?_; (case hd => rfl); (case hg => rfl); (case hr => first | (go_simp; done) | (go_simp; rfl)); (case hp => exact (Reps.one (show Kd.M (Kd.scalar (Value.float .f64) (fun _ => rfl)) _ _ _ d [.float .f64 d] from rfl) (Reps.one (show Kd.M (Kd.scalar (Value.float .f64) (fun _ => rfl)) _ _ _ m [.float .f64 m] from rfl) (Reps.one (show Kd.M (Kd.scalar (Value.float .f64) (fun _ => rfl)) _ _ _ x [.float .f64 x] from rfl) (Reps.none _ _))))); intro v1 w1 ho hb hg_ hnew_; clear hg_ hnew_; (first | generalize hy_ : ([d, m, x] : List Nat) = y at ho | (simp only [Int.reduceToNat] at ho; generalize hy_ : ([d, m, x] : List Nat) = y at ho)); have Ny := Aside0.mk hy_; clear hy_; have HO := Aside0.mk ho; have n1_ := Aside0.mk (below_step (by repeat (first | (with_reducible first | exact HB.out | apply below_alloc | apply pw_below_drewN | apply below_drew1) | exact HB.out)) hb); clear HB; have HB := n1_; clear n1_ hb ho; obtain ⟨Ao, co, eo⟩ := Kd.R_slice HO.out; subst eo) | (go_at_call 43; (with_reducible first | refine (impl_areGood.calls Ao co y _ (Kd.R_reads' HO.out).2.2 (Kd.R_reads' HO.out).2.1 true (by rw [← Ny.out]; exact AA.out)).mono ?_ | refine (impl_areGood.calls Ao co y _ (Kd.R_reads' HO.out).2.2 (Kd.R_reads' HO.out).2.1 false (by rw [← Ny.out]; exact AA.out)).mono ?_); rintro e w' ⟨rfl, hb⟩; have n0_ := Aside0.mk (below_step (by repeat (first | (with_reducible first | exact HB.out | apply below_alloc | apply pw_below_drewN | apply below_drew1) | exact HB.out)) hb); clear HB hb; have HB := n0_; clear n0_) | (go_at_call 38; (with_reducible first | refine (impl_isFinite.calls Ao co y _ (Kd.R_reads' HO.out).2.2 (Kd.R_reads' HO.out).2.1 true (by rw [← Ny.out]; exact AX.out)).mono ?_ | refine (impl_isFinite.calls Ao co y _ (Kd.R_reads' HO.out).2.2 (Kd.R_reads' HO.out).2.1 false (by rw [← Ny.out]; exact AX.out)).mono ?_ | refine (impl_isFinite.calls Ao co y _ (Kd.R_reads' HO.out).2.2 (Kd.R_reads' HO.out).2.1 false (by rw [← Ny.out]; exact (impl_Blend.first AD.out _ _))).mono ?_); rintro e w' ⟨rfl, hb⟩; have n0_ := Aside0.mk (below_step (by repeat (first | (with_reducible first | exact HB.out | apply below_alloc | apply pw_below_drewN | apply below_drew1) | exact HB.out)) hb); clear HB hb; have HB := n0_; clear n0_) | (go_at_call 44; (with_reducible first | refine (impl_mul.calls d part m _ AM.out).mono ?_); rintro e w' ⟨rfl, ⟨nd, rfl⟩⟩) | (go_at_call 44; (with_reducible refine (impl_mul.nan d part _ AN.out).mono ?_); rintro e w' ⟨m, hv, rfl, ⟨nd, rfl⟩⟩; have hx : ∀ (w : World), (binOp .add 22 (.float .f64 a) (.float .f64 m)).run Try.prog w = .ok (.float .f64 (Question.cut (.nanBits .f64 a m) (w.tape w.drawn (.nanBits .f64 a m)))) w.drew := (fun w => spec_l2Finite.runNone w .add (by simp) 22 a _ (spec_l2Finite.addRight hv)); clear hv) | (go_at_call 45; (with_reducible first | refine (impl_plain.calls x _ _ AQ.out).mono ?_); rintro e w' ⟨rfl, ⟨nd, rfl⟩⟩))
      go_ret2
      exact ⟨by first | rfl | (simp; done), by repeat (first | (with_reducible first | exact HB.out | apply below_alloc | apply pw_below_drewN | apply below_drew1) | exact HB.out)⟩
    · have AM := Aside0.mk hm
      clear hm
      rcases hx : floatBits .add .f64 a m with _ | x
      · replace hx := fun w => spec_l2Finite.runNone (P := Try.prog) w .add (by simp) 22 a m hx
        go_enter Try.func22, Try.ntmps22
        go_wp2_with (first | ((with_reducible refine gate_dst (N := 13) rfl ?_); refine Kd.R_lit (Kd.scalar (Value.float .f64) (fun _ => rfl)) _ 22 ?hg (N := 13) ?hd (xs := ([a, b, part] : List Nat)) (inner := [.float .f64 a, .float .f64 b, .float .f64 part]) (ok := fun _ => True) (okp := fun _ => True) ?hr ?hp (fun _ hk => hk) trivial (Below.refl _ _) (Nat.le_refl _) (by simp) ?_; (case hd => rfl); (case hg => rfl); (case hr => first | (go_simp; done) | (go_simp; rfl)); (case hp => exact (Reps.one (show Kd.M (Kd.scalar (Value.float .f64) (fun _ => rfl)) _ _ _ a [.float .f64 a] from rfl) (Reps.one (show Kd.M (Kd.scalar (Value.float .f64) (fun _ => rfl)) _ _ _ b [.float .f64 b] from rfl) (Reps.one (show Kd.M (Kd.scalar (Value.float .f64) (fun _ => rfl)) _ _ _ part [.float .f64 part] from rfl) (Reps.none _ _))))); intro v1 w1 ho hb hg_ hnew_; clear hg_ hnew_; (first | generalize hy_ : ([a, b, part] : List Nat) = y at ho | (simp only [Int.reduceToNat] at ho; generalize hy_ : ([a, b, part] : List Nat) = y at ho)); have Ny := Aside0.mk hy_; clear hy_; have HO := Aside0.mk ho; have n1_ := Aside0.mk (below_step (by repeat (first | (with_reducible first | exact HB.out | apply below_alloc | apply pw_below_drewN | apply below_drew1) | exact HB.out)) hb); clear HB; have HB := n1_; clear n1_ hb ho; obtain ⟨Ao, co, eo⟩ := Kd.R_slice HO.out; subst eo) | ((with_reducible refine gate_dst (N := 35) rfl ?_); generalize Question.cut _ _ = x; refine Kd.R_lit (Kd.scalar (Value.float .f64) (fun _ => rfl)) _ 22 ?hg (N := 35) ?hd (xs := ([d, m, x] : List Nat)) (inner := [.float .f64 d, .float .f64 m, .float .f64 x]) (ok := fun _ => True) (okp := fun _ => True) ?hr ?hp (fun _ hk => hk) trivial (Below.refl _ _) (Nat.le_refl _) (by simp) ?_; (case hd => rfl); (case hg => rfl); (case hr => first | (go_simp; done) | (go_simp; rfl)); (case hp => exact (Reps.one (show Kd.M (Kd.scalar (Value.float .f64) (fun _ => rfl)) _ _ _ d [.float .f64 d] from rfl) (Reps.one (show Kd.M (Kd.scalar (Value.float .f64) (fun _ => rfl)) _ _ _ m [.float .f64 m] from rfl) (Reps.one (show Kd.M (Kd.scalar (Value.float .f64) (fun _ => rfl)) _ _ _ x [.float .f64 x] from rfl) (Reps.none _ _))))); intro v1 w1 ho hb hg_ hnew_; clear hg_ hnew_; (first | generalize hy_ : ([d, m, x] : List Nat) = y at ho | (simp only [Int.reduceToNat] at ho; generalize hy_ : ([d, m, x] : List Nat) = y at ho)); have Ny := Aside0.mk hy_; clear hy_; have HO := Aside0.mk ho; have n1_ := Aside0.mk (below_step (by repeat (first | (with_reducible first | exact HB.out | apply below_alloc | apply pw_below_drewN | apply below_drew1) | exact HB.out)) hb); clear HB; have HB := n1_; clear n1_ hb ho; obtain ⟨Ao, co, eo⟩ := Kd.R_slice HO.out; subst eo) | (go_at_call 43; (with_reducible first | refine (impl_areGood.calls Ao co y _ (Kd.R_reads' HO.out).2.2 (Kd.R_reads' HO.out).2.1 true (by rw [← Ny.out]; exact AA.out)).mono ?_ | refine (impl_areGood.calls Ao co y _ (Kd.R_reads' HO.out).2.2 (Kd.R_reads' HO.out).2.1 false (by rw [← Ny.out]; exact AA.out)).mono ?_); rintro e w' ⟨rfl, hb⟩; have n0_ := Aside0.mk (below_step (by repeat (first | (with_reducible first | exact HB.out | apply below_alloc | apply pw_below_drewN | apply below_drew1) | exact HB.out)) hb); clear HB hb; have HB := n0_; clear n0_) | (go_at_call 38; (with_reducible first | refine (impl_isFinite.calls Ao co y _ (Kd.R_reads' HO.out).2.2 (Kd.R_reads' HO.out).2.1 true (by rw [← Ny.out]; exact AX.out)).mono ?_ | refine (impl_isFinite.calls Ao co y _ (Kd.R_reads' HO.out).2.2 (Kd.R_reads' HO.out).2.1 false (by rw [← Ny.out]; exact AX.out)).mono ?_ | refine (impl_isFinite.calls Ao co y _ (Kd.R_reads' HO.out).2.2 (Kd.R_reads' HO.out).2.1 false (by rw [← Ny.out]; exact (impl_Blend.first AD.out _ _))).mono ?_); rintro e w' ⟨rfl, hb⟩; have n0_ := Aside0.mk (below_step (by repeat (first | (with_reducible first | exact HB.out | apply below_alloc | apply pw_below_drewN | apply below_drew1) | exact HB.out)) hb); clear HB hb; have HB := n0_; clear n0_) | (go_at_call 44; (with_reducible first | refine (impl_mul.calls d part m _ AM.out).mono ?_); rintro e w' ⟨rfl, ⟨nd, rfl⟩⟩) | (go_at_call 44; (with_reducible refine (impl_mul.nan d part _ AN.out).mono ?_); rintro e w' ⟨m, hv, rfl, ⟨nd, rfl⟩⟩; have hx : ∀ (w : World), (binOp .add 22 (.float .f64 a) (.float .f64 m)).run Try.prog w = .ok (.float .f64 (Question.cut (.nanBits .f64 a m) (w.tape w.drawn (.nanBits .f64 a m)))) w.drew := (fun w => spec_l2Finite.runNone w .add (by simp) 22 a _ (spec_l2Finite.addRight hv)); clear hv) | (go_at_call 45; (with_reducible first | refine (impl_plain.calls x _ _ AQ.out).mono ?_); rintro e w' ⟨rfl, ⟨nd, rfl⟩⟩))
        go_ret2
        exact ⟨by first | rfl | (simp; done), by repeat (first | (with_reducible first | exact HB.out | apply below_alloc | apply pw_below_drewN | apply below_drew1) | exact HB.out)⟩
      · replace hx := fun w => run_float_arith (P := Try.prog) w .add 22 .f64 a m x hx
        go_enter Try.func22, Try.ntmps22
        go_wp2_with (first | ((with_reducible refine gate_dst (N := 13) rfl ?_); refine Kd.R_lit (Kd.scalar (Value.float .f64) (fun _ => rfl)) _ 22 ?hg (N := 13) ?hd (xs := ([a, b, part] : List Nat)) (inner := [.float .f64 a, .float .f64 b, .float .f64 part]) (ok := fun _ => True) (okp := fun _ => True) ?hr ?hp (fun _ hk => hk) trivial (Below.refl _ _) (Nat.le_refl _) (by simp) ?_; (case hd => rfl); (case hg => rfl); (case hr => first | (go_simp; done) | (go_simp; rfl)); (case hp => exact (Reps.one (show Kd.M (Kd.scalar (Value.float .f64) (fun _ => rfl)) _ _ _ a [.float .f64 a] from rfl) (Reps.one (show Kd.M (Kd.scalar (Value.float .f64) (fun _ => rfl)) _ _ _ b [.float .f64 b] from rfl) (Reps.one (show Kd.M (Kd.scalar (Value.float .f64) (fun _ => rfl)) _ _ _ part [.float .f64 part] from rfl) (Reps.none _ _))))); intro v1 w1 ho hb hg_ hnew_; clear hg_ hnew_; (first | generalize hy_ : ([a, b, part] : List Nat) = y at ho | (simp only [Int.reduceToNat] at ho; generalize hy_ : ([a, b, part] : List Nat) = y at ho)); have Ny := Aside0.mk hy_; clear hy_; have HO := Aside0.mk ho; have n1_ := Aside0.mk (below_step (by repeat (first | (with_reducible first | exact HB.out | apply below_alloc | apply pw_below_drewN | apply below_drew1) | exact HB.out)) hb); clear HB; have HB := n1_; clear n1_ hb ho; obtain ⟨Ao, co, eo⟩ := Kd.R_slice HO.out; subst eo) | ((with_reducible refine gate_dst (N := 35) rfl ?_); refine Kd.R_lit (Kd.scalar (Value.float .f64) (fun _ => rfl)) _ 22 ?hg (N := 35) ?hd (xs := ([d, m, x] : List Nat)) (inner := [.float .f64 d, .float .f64 m, .float .f64 x]) (ok := fun _ => True) (okp := fun _ => True) ?hr ?hp (fun _ hk => hk) trivial (Below.refl _ _) (Nat.le_refl _) (by simp) ?_; (case hd => rfl); (case hg => rfl); (case hr => first | (go_simp; done) | (go_simp; rfl)); (case hp => exact (Reps.one (show Kd.M (Kd.scalar (Value.float .f64) (fun _ => rfl)) _ _ _ d [.float .f64 d] from rfl) (Reps.one (show Kd.M (Kd.scalar (Value.float .f64) (fun _ => rfl)) _ _ _ m [.float .f64 m] from rfl) (Reps.one (show Kd.M (Kd.scalar (Value.float .f64) (fun _ => rfl)) _ _ _ x [.float .f64 x] from rfl) (Reps.none _ _))))); intro v1 w1 ho hb hg_ hnew_; clear hg_ hnew_; (first | generalize hy_ : ([d, m, x] : List Nat) = y at ho | (simp only [Int.reduceToNat] at ho; generalize hy_ : ([d, m, x] : List Nat) = y at ho)); have Ny := Aside0.mk hy_; clear hy_; have HO := Aside0.mk ho; have n1_ := Aside0.mk (below_step (by repeat (first | (with_reducible first | exact HB.out | apply below_alloc | apply pw_below_drewN | apply below_drew1) | exact HB.out)) hb); clear HB; have HB := n1_; clear n1_ hb ho; obtain ⟨Ao, co, eo⟩ := Kd.R_slice HO.out; subst eo) | (go_at_call 43; (with_reducible first | refine (impl_areGood.calls Ao co y _ (Kd.R_reads' HO.out).2.2 (Kd.R_reads' HO.out).2.1 true (by rw [← Ny.out]; exact AA.out)).mono ?_ | refine (impl_areGood.calls Ao co y _ (Kd.R_reads' HO.out).2.2 (Kd.R_reads' HO.out).2.1 false (by rw [← Ny.out]; exact AA.out)).mono ?_); rintro e w' ⟨rfl, hb⟩; have n0_ := Aside0.mk (below_step (by repeat (first | (with_reducible first | exact HB.out | apply below_alloc | apply pw_below_drewN | apply below_drew1) | exact HB.out)) hb); clear HB hb; have HB := n0_; clear n0_) | (go_at_call 38; (with_reducible first | refine (impl_isFinite.calls Ao co y _ (Kd.R_reads' HO.out).2.2 (Kd.R_reads' HO.out).2.1 true (by rw [← Ny.out]; exact AX.out)).mono ?_ | refine (impl_isFinite.calls Ao co y _ (Kd.R_reads' HO.out).2.2 (Kd.R_reads' HO.out).2.1 false (by rw [← Ny.out]; exact AX.out)).mono ?_ | refine (impl_isFinite.calls Ao co y _ (Kd.R_reads' HO.out).2.2 (Kd.R_reads' HO.out).2.1 false (by rw [← Ny.out]; exact (impl_Blend.first AD.out _ _))).mono ?_); rintro e w' ⟨rfl, hb⟩; have n0_ := Aside0.mk (below_step (by repeat (first | (with_reducible first | exact HB.out | apply below_alloc | apply pw_below_drewN | apply below_drew1) | exact HB.out)) hb); clear HB hb; have HB := n0_; clear n0_) | (go_at_call 44; (with_reducible first | refine (impl_mul.calls d part m _ AM.out).mono ?_); rintro e w' ⟨rfl, ⟨nd, rfl⟩⟩) | (go_at_call 44; (with_reducible refine (impl_mul.nan d part _ AN.out).mono ?_); rintro e w' ⟨m, hv, rfl, ⟨nd, rfl⟩⟩; have hx : ∀ (w : World), (binOp .add 22 (.float .f64 a) (.float .f64 m)).run Try.prog w = .ok (.float .f64 (Question.cut (.nanBits .f64 a m) (w.tape w.drawn (.nanBits .f64 a m)))) w.drew := (fun w => spec_l2Finite.runNone w .add (by simp) 22 a _ (spec_l2Finite.addRight hv)); clear hv) | (go_at_call 45; (with_reducible first | refine (impl_plain.calls x _ _ AQ.out).mono ?_); rintro e w' ⟨rfl, ⟨nd, rfl⟩⟩))
        go_ret2
        exact ⟨by first | rfl | (simp; done), by repeat (first | (with_reducible first | exact HB.out | apply below_alloc | apply pw_below_drewN | apply below_drew1) | exact HB.out)⟩
  next c =>
  clear c
  obtain ⟨m, hm, h⟩ := Option.bind_eq_some_iff.mp h
  obtain ⟨x, hx, h⟩ := Option.bind_eq_some_iff.mp h
  have AM := Aside0.mk hm
  clear hm
  replace hx := fun w => run_float_arith (P := Try.prog) w .add 22 .f64 a m x hx
  split at h
  · next c =>
    have AX := Aside0.mk c
    cases h
    clear c
    go_enter Try.func22, Try.ntmps22
    go_wp2_with (first | ((with_reducible refine gate_dst (N := 13) rfl ?_); refine Kd.R_lit (Kd.scalar (Value.float .f64) (fun _ => rfl)) _ 22 ?hg (N := 13) ?hd (xs := ([a, b, part] : List Nat)) (inner := [.float .f64 a, .float .f64 b, .float .f64 part]) (ok := fun _ => True) (okp := fun _ => True) ?hr ?hp (fun _ hk => hk) trivial (Below.refl _ _) (Nat.le_refl _) (by simp) ?_; (case hd => rfl); (case hg => rfl); (case hr => first | (go_simp; done) | (go_simp; rfl)); (case hp => exact (Reps.one (show Kd.M (Kd.scalar (Value.float .f64) (fun _ => rfl)) _ _ _ a [.float .f64 a] from rfl) (Reps.one (show Kd.M (Kd.scalar (Value.float .f64) (fun _ => rfl)) _ _ _ b [.float .f64 b] from rfl) (Reps.one (show Kd.M (Kd.scalar (Value.float .f64) (fun _ => rfl)) _ _ _ part [.float .f64 part] from rfl) (Reps.none _ _))))); intro v1 w1 ho hb hg_ hnew_; clear hg_ hnew_; (first | generalize hy_ : ([a, b, part] : List Nat) = y at ho | (simp only [Int.reduceToNat] at ho; generalize hy_ : ([a, b, part] : List Nat) = y at ho)); have Ny := Aside0.mk hy_; clear hy_; have HO := Aside0.mk ho; have n1_ := Aside0.mk (below_step (by repeat (first | (with_reducible first | exact HB.out | apply below_alloc | apply pw_below_drewN | apply below_drew1) | exact HB.out)) hb); clear HB; have HB := n1_; clear n1_ hb ho; obtain ⟨Ao, co, eo⟩ := Kd.R_slice HO.out; subst eo) | ((with_reducible refine gate_dst (N := 35) rfl ?_); refine Kd.R_lit (Kd.scalar (Value.float .f64) (fun _ => rfl)) _ 22 ?hg (N := 35) ?hd (xs := ([d, m, x] : List Nat)) (inner := [.float .f64 d, .float .f64 m, .float .f64 x]) (ok := fun _ => True) (okp := fun _ => True) ?hr ?hp (fun _ hk => hk) trivial (Below.refl _ _) (Nat.le_refl _) (by simp) ?_; (case hd => rfl); (case hg => rfl); (case hr => first | (go_simp; done) | (go_simp; rfl)); (case hp => exact (Reps.one (show Kd.M (Kd.scalar (Value.float .f64) (fun _ => rfl)) _ _ _ d [.float .f64 d] from rfl) (Reps.one (show Kd.M (Kd.scalar (Value.float .f64) (fun _ => rfl)) _ _ _ m [.float .f64 m] from rfl) (Reps.one (show Kd.M (Kd.scalar (Value.float .f64) (fun _ => rfl)) _ _ _ x [.float .f64 x] from rfl) (Reps.none _ _))))); intro v1 w1 ho hb hg_ hnew_; clear hg_ hnew_; (first | generalize hy_ : ([d, m, x] : List Nat) = y at ho | (simp only [Int.reduceToNat] at ho; generalize hy_ : ([d, m, x] : List Nat) = y at ho)); have Ny := Aside0.mk hy_; clear hy_; have HO := Aside0.mk ho; have n1_ := Aside0.mk (below_step (by repeat (first | (with_reducible first | exact HB.out | apply below_alloc | apply pw_below_drewN | apply below_drew1) | exact HB.out)) hb); clear HB; have HB := n1_; clear n1_ hb ho; obtain ⟨Ao, co, eo⟩ := Kd.R_slice HO.out; subst eo) | (go_at_call 43; (with_reducible first | refine (impl_areGood.calls Ao co y _ (Kd.R_reads' HO.out).2.2 (Kd.R_reads' HO.out).2.1 true (by rw [← Ny.out]; exact AA.out)).mono ?_ | refine (impl_areGood.calls Ao co y _ (Kd.R_reads' HO.out).2.2 (Kd.R_reads' HO.out).2.1 false (by rw [← Ny.out]; exact AA.out)).mono ?_); rintro e w' ⟨rfl, hb⟩; have n0_ := Aside0.mk (below_step (by repeat (first | (with_reducible first | exact HB.out | apply below_alloc | apply pw_below_drewN | apply below_drew1) | exact HB.out)) hb); clear HB hb; have HB := n0_; clear n0_) | (go_at_call 38; (with_reducible first | refine (impl_isFinite.calls Ao co y _ (Kd.R_reads' HO.out).2.2 (Kd.R_reads' HO.out).2.1 true (by rw [← Ny.out]; exact AX.out)).mono ?_ | refine (impl_isFinite.calls Ao co y _ (Kd.R_reads' HO.out).2.2 (Kd.R_reads' HO.out).2.1 false (by rw [← Ny.out]; exact AX.out)).mono ?_ | refine (impl_isFinite.calls Ao co y _ (Kd.R_reads' HO.out).2.2 (Kd.R_reads' HO.out).2.1 false (by rw [← Ny.out]; exact (impl_Blend.first AD.out _ _))).mono ?_); rintro e w' ⟨rfl, hb⟩; have n0_ := Aside0.mk (below_step (by repeat (first | (with_reducible first | exact HB.out | apply below_alloc | apply pw_below_drewN | apply below_drew1) | exact HB.out)) hb); clear HB hb; have HB := n0_; clear n0_) | (go_at_call 44; (with_reducible first | refine (impl_mul.calls d part m _ AM.out).mono ?_); rintro e w' ⟨rfl, ⟨nd, rfl⟩⟩) | (go_at_call 44; (with_reducible refine (impl_mul.nan d part _ AN.out).mono ?_); rintro e w' ⟨m, hv, rfl, ⟨nd, rfl⟩⟩; have hx : ∀ (w : World), (binOp .add 22 (.float .f64 a) (.float .f64 m)).run Try.prog w = .ok (.float .f64 (Question.cut (.nanBits .f64 a m) (w.tape w.drawn (.nanBits .f64 a m)))) w.drew := (fun w => spec_l2Finite.runNone w .add (by simp) 22 a _ (spec_l2Finite.addRight hv)); clear hv) | (go_at_call 45; (with_reducible first | refine (impl_plain.calls x _ _ AQ.out).mono ?_); rintro e w' ⟨rfl, ⟨nd, rfl⟩⟩))
    go_ret2
    exact ⟨by first | rfl | (simp; done), by repeat (first | (with_reducible first | exact HB.out | apply below_alloc | apply pw_below_drewN | apply below_drew1) | exact HB.out)⟩
  next c =>
  have AX := Aside0.mk (by simpa using c : impl_isFinite.f [d, m, x] = true)
  clear c
  obtain ⟨p, hp⟩ : ∃ p, impl_plain.f x = p := ⟨_, rfl⟩
  rw [hp] at h
  have AQ := Aside0.mk hp
  clear hp
  cases h
  go_enter Try.func22, Try.ntmps22
  go_wp2_with (first | ((with_reducible refine gate_dst (N := 13) rfl ?_); refine Kd.R_lit (Kd.scalar (Value.float .f64) (fun _ => rfl)) _ 22 ?hg (N := 13) ?hd (xs := ([a, b, part] : List Nat)) (inner := [.float .f64 a, .float .f64 b, .float .f64 part]) (ok := fun _ => True) (okp := fun _ => True) ?hr ?hp (fun _ hk => hk) trivial (Below.refl _ _) (Nat.le_refl _) (by simp) ?_; (case hd => rfl); (case hg => rfl); (case hr => first | (go_simp; done) | (go_simp; rfl)); (case hp => exact (Reps.one (show Kd.M (Kd.scalar (Value.float .f64) (fun _ => rfl)) _ _ _ a [.float .f64 a] from rfl) (Reps.one (show Kd.M (Kd.scalar (Value.float .f64) (fun _ => rfl)) _ _ _ b [.float .f64 b] from rfl) (Reps.one (show Kd.M (Kd.scalar (Value.float .f64) (fun _ => rfl)) _ _ _ part [.float .f64 part] from rfl) (Reps.none _ _))))); intro v1 w1 ho hb hg_ hnew_; clear hg_ hnew_; (first | generalize hy_ : ([a, b, part] : List Nat) = y at ho | (simp only [Int.reduceToNat] at ho; generalize hy_ : ([a, b, part] : List Nat) = y at ho)); have Ny := Aside0.mk hy_; clear hy_; have HO := Aside0.mk ho; have n1_ := Aside0.mk (below_step (by repeat (first | (with_reducible first | exact HB.out | apply below_alloc | apply pw_below_drewN | apply below_drew1) | exact HB.out)) hb); clear HB; have HB := n1_; clear n1_ hb ho; obtain ⟨Ao, co, eo⟩ := Kd.R_slice HO.out; subst eo) | ((with_reducible refine gate_dst (N := 35) rfl ?_); refine Kd.R_lit (Kd.scalar (Value.float .f64) (fun _ => rfl)) _ 22 ?hg (N := 35) ?hd (xs := ([d, m, x] : List Nat)) (inner := [.float .f64 d, .float .f64 m, .float .f64 x]) (ok := fun _ => True) (okp := fun _ => True) ?hr ?hp (fun _ hk => hk) trivial (Below.refl _ _) (Nat.le_refl _) (by simp) ?_; (case hd => rfl); (case hg => rfl); (case hr => first | (go_simp; done) | (go_simp; rfl)); (case hp => exact (Reps.one (show Kd.M (Kd.scalar (Value.float .f64) (fun _ => rfl)) _ _ _ d [.float .f64 d] from rfl) (Reps.one (show Kd.M (Kd.scalar (Value.float .f64) (fun _ => rfl)) _ _ _ m [.float .f64 m] from rfl) (Reps.one (show Kd.M (Kd.scalar (Value.float .f64) (fun _ => rfl)) _ _ _ x [.float .f64 x] from rfl) (Reps.none _ _))))); intro v1 w1 ho hb hg_ hnew_; clear hg_ hnew_; (first | generalize hy_ : ([d, m, x] : List Nat) = y at ho | (simp only [Int.reduceToNat] at ho; generalize hy_ : ([d, m, x] : List Nat) = y at ho)); have Ny := Aside0.mk hy_; clear hy_; have HO := Aside0.mk ho; have n1_ := Aside0.mk (below_step (by repeat (first | (with_reducible first | exact HB.out | apply below_alloc | apply pw_below_drewN | apply below_drew1) | exact HB.out)) hb); clear HB; have HB := n1_; clear n1_ hb ho; obtain ⟨Ao, co, eo⟩ := Kd.R_slice HO.out; subst eo) | (go_at_call 43; (with_reducible first | refine (impl_areGood.calls Ao co y _ (Kd.R_reads' HO.out).2.2 (Kd.R_reads' HO.out).2.1 true (by rw [← Ny.out]; exact AA.out)).mono ?_ | refine (impl_areGood.calls Ao co y _ (Kd.R_reads' HO.out).2.2 (Kd.R_reads' HO.out).2.1 false (by rw [← Ny.out]; exact AA.out)).mono ?_); rintro e w' ⟨rfl, hb⟩; have n0_ := Aside0.mk (below_step (by repeat (first | (with_reducible first | exact HB.out | apply below_alloc | apply pw_below_drewN | apply below_drew1) | exact HB.out)) hb); clear HB hb; have HB := n0_; clear n0_) | (go_at_call 38; (with_reducible first | refine (impl_isFinite.calls Ao co y _ (Kd.R_reads' HO.out).2.2 (Kd.R_reads' HO.out).2.1 true (by rw [← Ny.out]; exact AX.out)).mono ?_ | refine (impl_isFinite.calls Ao co y _ (Kd.R_reads' HO.out).2.2 (Kd.R_reads' HO.out).2.1 false (by rw [← Ny.out]; exact AX.out)).mono ?_ | refine (impl_isFinite.calls Ao co y _ (Kd.R_reads' HO.out).2.2 (Kd.R_reads' HO.out).2.1 false (by rw [← Ny.out]; exact (impl_Blend.first AD.out _ _))).mono ?_); rintro e w' ⟨rfl, hb⟩; have n0_ := Aside0.mk (below_step (by repeat (first | (with_reducible first | exact HB.out | apply below_alloc | apply pw_below_drewN | apply below_drew1) | exact HB.out)) hb); clear HB hb; have HB := n0_; clear n0_) | (go_at_call 44; (with_reducible first | refine (impl_mul.calls d part m _ AM.out).mono ?_); rintro e w' ⟨rfl, ⟨nd, rfl⟩⟩) | (go_at_call 44; (with_reducible refine (impl_mul.nan d part _ AN.out).mono ?_); rintro e w' ⟨m, hv, rfl, ⟨nd, rfl⟩⟩; have hx : ∀ (w : World), (binOp .add 22 (.float .f64 a) (.float .f64 m)).run Try.prog w = .ok (.float .f64 (Question.cut (.nanBits .f64 a m) (w.tape w.drawn (.nanBits .f64 a m)))) w.drew := (fun w => spec_l2Finite.runNone w .add (by simp) 22 a _ (spec_l2Finite.addRight hv)); clear hv) | (go_at_call 45; (with_reducible first | refine (impl_plain.calls x _ _ AQ.out).mono ?_); rintro e w' ⟨rfl, ⟨nd, rfl⟩⟩))
  go_ret2
  exact ⟨by first | rfl | (simp; done), by repeat (first | (with_reducible first | exact HB.out | apply below_alloc | apply pw_below_drewN | apply below_drew1) | exact HB.out)⟩


/-! ### laws_FnExactBlend: function 7 -/
def laws_FnExactBlend.f (a0 a1 a2 : Nat) : Option (Bool) := (spec_Blend.f a0 a1 a2).bind fun x => if impl_Blend.f a0 a1 a2 = some x ∧ (FloatKind.f64.format.order x.1 x.1 == some .eq) = true then some true else none
set_option maxHeartbeats 8000000 in
theorem laws_FnExactBlend.calls (a0 : Nat) (a1 : Nat) (a2 : Nat) (r : Bool) (w : World) (h : laws_FnExactBlend.f a0 a1 a2 = some r) :
    Calls Try.prog 7 #[.float .f64 a0, .float .f64 a1, .float .f64 a2] w fun e w' => e = .returned (.bool r) ∧ Below w.heap.size w w' := by
  unfold laws_FnExactBlend.f at h
  obtain ⟨⟨x1, x2⟩, hx, h⟩ := Option.bind_eq_some_iff.mp h
  split at h
  case isFalse => cases h
  case isTrue hc =>
    obtain ⟨he, ho⟩ := hc
    obtain rfl : true = r := Option.some.inj h
    clear h
    have HB := Aside0.mk (Below.refl w.heap.size w)
    have AX := Aside0.mk hx
    have AY := Aside0.mk he
    have AS : Aside0 (laws_sameFloat.f x1 x1 = some true) := ⟨by unfold laws_sameFloat.f; rw [if_pos ⟨rfl, ho⟩]⟩
    clear hx he ho
    cases x2
    all_goals
      go_enter Try.func7, Try.ntmps7
      go_wp2_with (first | (go_at_call 21; (with_reducible first | refine (spec_Blend.calls a0 a1 a2 _ _ _ AX.out).mono ?_); rintro e w' ⟨rfl, hb⟩; have n0_ := Aside0.mk (below_step (by repeat (first | (with_reducible first | exact HB.out | apply below_alloc | apply pw_below_drewN | apply below_drew1) | exact HB.out)) hb); clear HB hb; have HB := n0_; clear n0_) | (go_at_call 22; (with_reducible first | refine (impl_Blend.calls a0 a1 a2 _ _ _ AY.out).mono ?_); rintro e w' ⟨rfl, hb⟩; have n0_ := Aside0.mk (below_step (by repeat (first | (with_reducible first | exact HB.out | apply below_alloc | apply pw_below_drewN | apply below_drew1) | exact HB.out)) hb); clear HB hb; have HB := n0_; clear n0_) | (go_at_call 20; (with_reducible first | refine (laws_sameFloat.calls x1 x1 true _ AS.out).mono ?_); rintro e w' ⟨rfl, hb⟩; have n0_ := Aside0.mk (below_step (by repeat (first | (with_reducible first | exact HB.out | apply below_alloc | apply pw_below_drewN | apply below_drew1) | exact HB.out)) hb); clear HB hb; have HB := n0_; clear n0_))
      go_ret
      exact ⟨by first | rfl | (simp; done), by repeat (first | (with_reducible first | exact HB.out | apply below_alloc | apply pw_below_drewN | apply below_drew1) | exact HB.out)⟩

end Go.Proofs.Ytijmnkfmkpejmaa.PFnExactBlend
