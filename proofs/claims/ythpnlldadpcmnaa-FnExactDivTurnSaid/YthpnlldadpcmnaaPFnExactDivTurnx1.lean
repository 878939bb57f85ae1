/- The machine's side of a law, function by function: a Lean function with the Go function's answers and the proof that the Go code comes to them. No condition. Written by this session's program over the kit's print, this session's own contracts set in. -/
import Derived.Test.YthpnlldadpcmnaaPFnExactDivTurnx0
namespace Go.Proofs.Ythpnlldadpcmnaa.PFnExactDivTurn
open Go.RowKit Go.Proofs.YthpnlldadpcmnaaW.PrintWords Go.Proofs.YthpnlldadpcmnaaW.PrintLast Go.Proofs.YthpnlldadpcmnaaW.PrintMore
attribute [local go_sem] max2_int min2_int max_two min_two max_three min_three max_four min_four   -- for this text's walks alone
set_option linter.unusedVariables false
set_option linter.unusedSimpArgs false


/-! ### math_IsNaN: function 20 -/
/-- Is a float none? -/
def math_IsNaN.g (a0 : Nat) : Bool := FloatKind.f64.format.order a0 a0 != some .eq
theorem math_IsNaN.run (a0 : Nat) (r : Bool) (w : World) (h : math_IsNaN.g a0 = r) :
  Calls Try.prog 20 #[.float .f64 a0] w fun e w' => e = .returned (.bool r) ∧ Drawn0 w w' := by
 subst h
 go_enter Try.func20, Try.ntmps20
 go_wp2
 go_ret
 exact ⟨rfl, by repeat (first | exact Drawn0.refl _ | apply Drawn0.step)⟩

def math_IsNaN.f (a : Nat) : Option (Bool) := some (math_IsNaN.g a)
theorem math_IsNaN.calls (a : Nat) (r : Bool) (w : World) (h : math_IsNaN.f a = some r) :
  Calls Try.prog 20 #[.float .f64 a] w fun e w' => e = .returned (.bool r) ∧ Below w.heap.size w w' := (math_IsNaN.run a r w (Option.some.inj h)).mono (by rintro e w1 ⟨h1, hb⟩; exact ⟨h1, by first | exact hb | (obtain ⟨nd, rfl⟩ := hb; repeat (first | exact Below.refl _ _ | apply below_alloc | apply pw_below_drewN | apply below_drew1))⟩)


/-! ### math_Abs: function 38 -/
def math_Abs.f (a : Nat) : Nat := (Go.bits .andNot .u64 (a : Int) 9223372036854775808).toNat
theorem math_Abs.bits (a : Nat) (w : World) : (callFunc 41 #[.float .f64 a]).run Try.prog w = .ok (.value (.int .u64 (a : Int))) w := by
 rw [run_callFunc_extern Try.func41 (by kernel_rfl) (by kernel_rfl) (by kernel_rfl) (e := Extern.MathFloatBits.float64bits) (by kernel_rfl)]
 rfl
theorem math_Abs.back (n : Int) (w : World) : (callFunc 42 #[.int .u64 n]).run Try.prog w = .ok (.value (.float .f64 n.toNat)) w := by
 rw [run_callFunc_extern Try.func42 (by kernel_rfl) (by kernel_rfl) (by kernel_rfl) (e := Extern.MathFloatBits.float64frombits) (by kernel_rfl)]
 rfl
theorem math_Abs.calls (a : Nat) (r : Nat) (w : World) (h : math_Abs.f a = r) :
  Calls Try.prog 38 #[.float .f64 a] w fun e w' => e = .returned (.float .f64 r) ∧ Drawn0 w w' := by
 subst h
 unfold math_Abs.f
 have h1 := math_Abs.bits a
 have h2 := math_Abs.back
 go_enter Try.func38, Try.ntmps38
 go_wp2
 go_ret
 exact ⟨by first | rfl | (simp; done), by repeat (first | exact Drawn0.refl _ | apply Drawn0.step)⟩


/-! ### math_IsInf: function 29 -/
def math_IsInf.g (a : Nat) : Bool := FloatKind.f64.format.order (math_Abs.f a) 9218868437227405311 == some .gt
theorem math_IsInf.run (a : Nat) (r : Bool) (w : World) (h : math_IsInf.g a = r) :
  Calls Try.prog 29 #[.float .f64 a, .int .i64 0] w fun e w' => e = .returned (.bool r) ∧ Drawn0 w w' := by
 subst h
 unfold math_IsInf.g
 obtain ⟨b, hb⟩ : ∃ b, math_Abs.f a = b := ⟨_, rfl⟩
 have HA := Aside0.mk hb
 rw [hb]
 clear hb
 go_enter Try.func29, Try.ntmps29
 go_wp2_with (first | (go_at_call 38; (with_reducible refine (math_Abs.calls a b _ HA.out).mono ?_); rintro e w' ⟨rfl, ⟨nd, rfl⟩⟩))
 go_ret
 exact ⟨by first | rfl | (simp; done), by repeat (first | exact Drawn0.refl _ | apply Drawn0.step)⟩


/-! ### math_Signbit: function 33 -/
def math_Signbit.f (a : Nat) : Bool := decide (wrap64 (a : Int) < 0)
theorem math_Signbit.bits (a : Nat) (w : World) : (callFunc 41 #[.float .f64 a]).run Try.prog w = .ok (.value (.int .u64 (a : Int))) w := by
 rw [run_callFunc_extern Try.func41 (by kernel_rfl) (by kernel_rfl) (by kernel_rfl) (e := Extern.MathFloatBits.float64bits) (by kernel_rfl)]
 rfl
theorem math_Signbit.calls (a : Nat) (r : Bool) (w : World) (h : math_Signbit.f a = r) :
  Calls Try.prog 33 #[.float .f64 a] w fun e w' => e = .returned (.bool r) ∧ Drawn0 w w' := by
 subst h
 unfold math_Signbit.f
 have h1 := math_Signbit.bits a
 go_enter Try.func33, Try.ntmps33
 go_wp2
 go_ret
 exact ⟨by first | rfl | (simp [i64_w]; done) | (simp; done), by repeat (first | exact Drawn0.refl _ | apply Drawn0.step)⟩


/-! ### spec_GoodReal: function 21 -/
def spec_GoodReal.g (a : Nat) : Bool := !(math_IsNaN.g a) && (!(math_IsInf.g a) && !((FloatKind.f64.format.order a 0 == some .eq) && math_Signbit.f a))
set_option maxHeartbeats 8000000 in
theorem spec_GoodReal.run (a : Nat) (r : Bool) (w : World) (h : spec_GoodReal.g a = r) :
  Calls Try.prog 21 #[.float .f64 a] w fun e w' => e = .returned (.bool r) ∧ Below w.heap.size w w' := by
 subst h
 unfold spec_GoodReal.g
 obtain ⟨bn, hn⟩ : ∃ b, math_IsNaN.g a = b := ⟨_, rfl⟩
 obtain ⟨bi, hi⟩ : ∃ b, math_IsInf.g a = b := ⟨_, rfl⟩
 obtain ⟨bs, hs⟩ : ∃ b, math_Signbit.f a = b := ⟨_, rfl⟩
 rw [hn, hi, hs]
 have AN := Aside0.mk hn
 have AI := Aside0.mk hi
 have AS := Aside0.mk hs
 clear hn hi hs
 cases bn <;> cases bi <;> cases h0 : (FloatKind.f64.format.order a 0 == some .eq) <;> cases bs
 all_goals
  go_enter Try.func21, Try.ntmps21
  go_wp2_with (first | (go_at_call 20; (with_reducible first | refine (math_IsNaN.run a true _ AN.out).mono ?_ | refine (math_IsNaN.run a false _ AN.out).mono ?_); rintro e w' ⟨rfl, ⟨nd, rfl⟩⟩) | (go_at_call 29; (with_reducible first | refine (math_IsInf.run a true _ AI.out).mono ?_ | refine (math_IsInf.run a false _ AI.out).mono ?_); rintro e w' ⟨rfl, ⟨nd, rfl⟩⟩) | (go_at_call 33; (with_reducible first | refine (math_Signbit.calls a true _ AS.out).mono ?_ | refine (math_Signbit.calls a false _ AS.out).mono ?_); rintro e w' ⟨rfl, ⟨nd, rfl⟩⟩))
  go_ret
  exact ⟨by first | rfl | (simp; done), by repeat (first | exact Below.refl _ _ | apply below_alloc | apply pw_below_drewN | apply below_drew1)⟩

def spec_GoodReal.f (a : Nat) : Option (Bool) := some (spec_GoodReal.g a)
theorem spec_GoodReal.calls (a : Nat) (r : Bool) (w : World) (h : spec_GoodReal.f a = some r) :
  Calls Try.prog 21 #[.float .f64 a] w fun e w' => e = .returned (.bool r) ∧ Below w.heap.size w w' := (spec_GoodReal.run a r w (Option.some.inj h)).mono (by rintro e w1 ⟨h1, hb⟩; exact ⟨h1, by first | exact hb | (obtain ⟨nd, rfl⟩ := hb; repeat (first | exact Below.refl _ _ | apply below_alloc | apply pw_below_drewN | apply below_drew1))⟩)

/-! ### spec_l2Good: function 14 -/
def spec_l2Good.f (a0_0 : Nat) (a0_1 : Nat) : Option (Bool) := (spec_GoodReal.f a0_0).bind fun t102 => (if t102 = true then ((spec_GoodReal.f a0_1).bind fun t103 => (some t103)) else (some false))
set_option maxHeartbeats 8000000 in
set_option maxRecDepth 100000 in
theorem spec_l2Good.calls (a0_0 : Nat) (a0_1 : Nat) (r : Bool) (w : World) (h : spec_l2Good.f a0_0 a0_1 = some r) :
  Calls Try.prog 14 #[.agg #[.float .f64 a0_0, .float .f64 a0_1]] w fun e w' => e = .returned (.bool r) ∧ Below w.heap.size w w' := by
 have hu25 := Try.underlying25
 have HB := Aside0.mk (Below.refl w.heap.size w)
 have H : ((spec_GoodReal.f a0_0).bind fun t102 => (if t102 = true then ((spec_GoodReal.f a0_1).bind fun t103 => (some t103)) else (some false))) = some r := h
 clear h
 replace H := Option.bind_eq_some_iff.mp H
 obtain ⟨t102, A20, H⟩ := H
 replace H : (if t102 = true then ((spec_GoodReal.f a0_1).bind fun t103 => (some t103)) else (some false)) = some r := H
 have A2 := Aside0.mk A20
 clear A20
 by_cases c3 : t102 = true
 ·subst c3
  have H1 : ((spec_GoodReal.f a0_1).bind fun t103 => (some t103)) = some r := by rw [if_pos rfl] at H; exact H
  clear H
  have H := H1
  clear H1
  replace H := Option.bind_eq_some_iff.mp H
  obtain ⟨t103, A40, H⟩ := H
  replace H : (some t103) = some r := H
  have A4 := Aside0.mk A40
  clear A40
  obtain rfl := Option.some.inj H
  go_enter Try.func14, Try.ntmps14
  go_wp2_with (first | ((with_reducible refine gate_dst (N := 1) rfl ?_); refine box_event ?hg (N := 1) ?hd (cs := #[.float .f64 a0_0, .float .f64 a0_1]) (t := 25) ?hr ?_; (case hd => rfl); (case hg => rfl); (case hr => first | (go_simp; done) | (go_simp; rfl)); intro gb101 hg w5 hbox hb; have n0_ := Aside0.mk (below_step blw hb); have n1_ := Aside0.mk (hbox); have n2_ := Aside0.mk ((by rw [hg]; exact (below_size blw) : w.heap.size ≤ gb101)); have n3_ := Aside0.mk ((by rw [hg]; exact (below_size blw) : w.heap.size ≤ gb101)); clear HB; have HB := n0_; have BK101 := n1_; have GW101 := n2_; have GE101 := n3_; clear n0_ n1_ n2_ n3_; clear hb hbox hg; have hcz6_0 : w5.cell? ⟨gb101, 0, none⟩ = some (.float .f64 a0_0) := (blk_cell BK101.out 0).trans rfl; have hcz6_1 : w5.cell? ⟨gb101, 1, none⟩ = some (.float .f64 a0_1) := (blk_cell BK101.out 1).trans rfl; have hfz6_0 := blk_frozen BK101.out 0; have hfz6_1 := blk_frozen BK101.out 1) | ((with_reducible refine gate_callee (f := 21) rfl ?_); refine goesL_ (some 5) rfl rfl Try.func21 (by kernel_rfl) rfl #[.float .f64 a0_0] rfl (by (try simp only [List.map_toArray, List.map_cons, List.map_nil]); first | done | rfl | (simp only [List.length_drop, List.length_take]; rfl)) ?_; (with_reducible refine (spec_GoodReal.calls a0_0 true _ A2.out).mono ?_); rintro e w7 ⟨rfl, hb⟩; refine ⟨_, rfl, ?_⟩; have n0_ := Aside0.mk (blk_below (g := gb101) (o := .cells #[.float .f64 a0_0, .float .f64 a0_1] 25 (0, 0)) bkw hb); have n1_ := Aside0.mk (below_step blw hb); clear BK101; clear HB; have BK101 := n0_; have HB := n1_; clear n0_ n1_; (try clear hb); (try clear hb2); (try clear hk); (try clear hi); have hcz8_0 : w7.cell? ⟨gb101, 0, none⟩ = some (.float .f64 a0_0) := (blk_cell BK101.out 0).trans rfl; have hcz8_1 : w7.cell? ⟨gb101, 1, none⟩ = some (.float .f64 a0_1) := (blk_cell BK101.out 1).trans rfl; have hfz8_0 := blk_frozen BK101.out 0; have hfz8_1 := blk_frozen BK101.out 1) | (go_at_call 21; (with_reducible refine (spec_GoodReal.calls a0_1 t103 _ A4.out).mono ?_); rintro e w9 ⟨rfl, hb⟩; have n0_ := Aside0.mk (blk_below (g := gb101) (o := .cells #[.float .f64 a0_0, .float .f64 a0_1] 25 (0, 0)) bkw hb); have n1_ := Aside0.mk (below_step blw hb); clear BK101; clear HB; have BK101 := n0_; have HB := n1_; clear n0_ n1_; (try clear hb); (try clear hb2); (try clear hk); (try clear hi)))
  go_ret
  exact ⟨by first | rfl | (simp [errW_none, errW_some] <;> rfl) | (simp [*, errW_none, errW_some] <;> rfl), blw⟩
 ·replace c3 := Bool.eq_false_iff.mpr c3
  subst c3
  have H1 : (some false) = some r := by rw [if_neg (show ¬ (false = true) by decide)] at H; exact H
  clear H
  have H := H1
  clear H1
  obtain rfl := Option.some.inj H
  go_enter Try.func14, Try.ntmps14
  go_wp2_with (first | ((with_reducible refine gate_dst (N := 1) rfl ?_); refine box_event ?hg (N := 1) ?hd (cs := #[.float .f64 a0_0, .float .f64 a0_1]) (t := 25) ?hr ?_; (case hd => rfl); (case hg => rfl); (case hr => first | (go_simp; done) | (go_simp; rfl)); intro gb101 hg w10 hbox hb; have n0_ := Aside0.mk (below_step blw hb); have n1_ := Aside0.mk (hbox); have n2_ := Aside0.mk ((by rw [hg]; exact (below_size blw) : w.heap.size ≤ gb101)); have n3_ := Aside0.mk ((by rw [hg]; exact (below_size blw) : w.heap.size ≤ gb101)); clear HB; have HB := n0_; have BK101 := n1_; have GW101 := n2_; have GE101 := n3_; clear n0_ n1_ n2_ n3_; clear hb hbox hg; have hcz11_0 : w10.cell? ⟨gb101, 0, none⟩ = some (.float .f64 a0_0) := (blk_cell BK101.out 0).trans rfl; have hcz11_1 : w10.cell? ⟨gb101, 1, none⟩ = some (.float .f64 a0_1) := (blk_cell BK101.out 1).trans rfl; have hfz11_0 := blk_frozen BK101.out 0; have hfz11_1 := blk_frozen BK101.out 1) | ((with_reducible refine gate_callee (f := 21) rfl ?_); refine goesL_ (some 5) rfl rfl Try.func21 (by kernel_rfl) rfl #[.float .f64 a0_0] rfl (by (try simp only [List.map_toArray, List.map_cons, List.map_nil]); first | done | rfl | (simp only [List.length_drop, List.length_take]; rfl)) ?_; (with_reducible refine (spec_GoodReal.calls a0_0 false _ A2.out).mono ?_); rintro e w12 ⟨rfl, hb⟩; refine ⟨_, rfl, ?_⟩; have n0_ := Aside0.mk (blk_below (g := gb101) (o := .cells #[.float .f64 a0_0, .float .f64 a0_1] 25 (0, 0)) bkw hb); have n1_ := Aside0.mk (below_step blw hb); clear BK101; clear HB; have BK101 := n0_; have HB := n1_; clear n0_ n1_; (try clear hb); (try clear hb2); (try clear hk); (try clear hi)))
  go_ret
  exact ⟨by first | rfl | (simp [errW_none, errW_some] <;> rfl) | (simp [*, errW_none, errW_some] <;> rfl), blw⟩


/-! ### spec_l2Finite: function 15 -/
theorem spec_l2Finite.nanCut (x y t : Nat) : math_IsNaN.g (Question.cut (.nanBits .f64 x y) t) = true := by
 have e : ∃ s u, Ieee.double.read (Question.cut (.nanBits .f64 x y) t) = .nan s u := by
  show ∃ s u, Ieee.double.read (t % 2 * 2 ^ 63 + 0x7ff0000000000000 + 1 + t / 2 % (2 ^ 52 - 1)) = .nan s u
  generalize hu : t / 2 % (2 ^ 52 - 1) = u
  have hu' : u < 2 ^ 52 - 1 := by rw [← hu]; exact Nat.mod_lt _ (by decide)
  have e0 : Ieee.double.signWeight = 9223372036854775808 := by decide
  have e1 : Ieee.double.infRung = 9218868437227405312 := by decide
  have e2 : Ieee.double.binade = 4503599627370496 := by decide
  have em : (t % 2 * 2 ^ 63 + 0x7ff0000000000000 + 1 + u) % 9223372036854775808 = 0x7ff0000000000000 + 1 + u := by omega
  unfold Ieee.Format.read
  simp only [e0, e1, e2, em]
  rw [if_neg (by omega), if_neg (by omega), if_neg (by omega)]
  exact ⟨_, _, rfl⟩
 obtain ⟨s, u, e⟩ := e
 unfold math_IsNaN.g
 show ((Ieee.double.read (Question.cut (.nanBits .f64 x y) t)).order (Ieee.double.read (Question.cut (.nanBits .f64 x y) t)) != some .eq) = true
 rw [e]
 rfl
theorem spec_l2Finite.readNaN {x : Nat} (h : math_IsNaN.g x = true) : ∃ s u, Ieee.double.read x = .nan s u := by
 unfold math_IsNaN.g at h
 replace h : ((Ieee.double.read x).order (Ieee.double.read x) != some .eq) = true := h
 cases hx : Ieee.double.read x with
 | nan s u => exact ⟨s, u, rfl⟩
 | infinity s => rw [hx] at h; simp [Ieee.Datum.order, compare, compareOfLessAndEq] at h
 | number s m e => rw [hx] at h; simp [Ieee.Datum.order, compare, compareOfLessAndEq] at h
theorem spec_l2Finite.addRight {x y : Nat} (h : math_IsNaN.g y = true) : floatBits .add .f64 x y = none := by
 obtain ⟨s, u, e⟩ := spec_l2Finite.readNaN h
 show Ieee.Format.add Ieee.double x y = none
 unfold Ieee.Format.add
 rw [e]
 cases Ieee.double.read x <;> rfl
theorem spec_l2Finite.runNone {P : Program} (w : World) (op : BinOp) (hop : op = .add ∨ op = .sub ∨ op = .mul ∨ op = .quo) (t : TypeId) (x y : Nat) (h : floatBits op .f64 x y = none) :
  (binOp op t (.float .f64 x) (.float .f64 y)).run P w = .ok (.float .f64 (Question.cut (.nanBits .f64 x y) (w.tape w.drawn (.nanBits .f64 x y)))) w.drew := by
 unfold floatBits at h
 rcases hop with rfl | rfl | rfl | rfl <;> simp only at h <;> simp [binOp, Op.floatArith, h, Question.forced]
def spec_l2Finite.g (a : Nat) : Bool := !(math_IsNaN.g a) && !(math_IsInf.g a)
theorem spec_l2Finite.run (a : Nat) (r : Bool) (w : World) (h : spec_l2Finite.g a = r) :
  Calls Try.prog 15 #[.float .f64 a] w fun e w' => e = .returned (.bool r) ∧ Drawn0 w w' := by
 subst h
 unfold spec_l2Finite.g
 obtain ⟨bn, hn⟩ : ∃ b, math_IsNaN.g a = b := ⟨_, rfl⟩
 obtain ⟨bi, hi⟩ : ∃ b, math_IsInf.g a = b := ⟨_, rfl⟩
 have AN := Aside0.mk hn
 have AI := Aside0.mk hi
 rw [hn, hi]
 clear hn hi
 cases bn <;> cases bi
 all_goals
  go_enter Try.func15, Try.ntmps15
  go_wp2_with (first | (go_at_call 20; (with_reducible first | refine (math_IsNaN.run a true _ AN.out).mono ?_ | refine (math_IsNaN.run a false _ AN.out).mono ?_); rintro e w' ⟨rfl, ⟨nd, rfl⟩⟩) | (go_at_call 29; (with_reducible first | refine (math_IsInf.run a true _ AI.out).mono ?_ | refine (math_IsInf.run a false _ AI.out).mono ?_); rintro e w' ⟨rfl, ⟨nd, rfl⟩⟩))
  go_ret
  exact ⟨by first | rfl | (simp; done), by repeat (first | exact Drawn0.refl _ | apply Drawn0.step)⟩

def spec_l2Finite.f (a : Nat) : Option (Bool) := some (spec_l2Finite.g a)
theorem spec_l2Finite.calls (a : Nat) (r : Bool) (w : World) (h : spec_l2Finite.f a = some r) :
  Calls Try.prog 15 #[.float .f64 a] w fun e w' => e = .returned (.bool r) ∧ Below w.heap.size w w' := (spec_l2Finite.run a r w (Option.some.inj h)).mono (by rintro e w1 ⟨h1, hb⟩; exact ⟨h1, by first | exact hb | (obtain ⟨nd, rfl⟩ := hb; repeat (first | exact Below.refl _ _ | apply below_alloc | apply pw_below_drewN | apply below_drew1))⟩)


/-! ### spec_l2Plain: function 23 -/
def spec_l2Plain.g (a : Nat) : Nat := if (FloatKind.f64.format.order a 0 == some .eq) = true then 0 else a
theorem spec_l2Plain.run (a : Nat) (r : Nat) (w : World) (h : spec_l2Plain.g a = r) :
  Calls Try.prog 23 #[.float .f64 a] w fun e w' => e = .returned (.float .f64 r) ∧ Drawn0 w w' := by
 subst h
 unfold spec_l2Plain.g
 cases h0 : (FloatKind.f64.format.order a 0 == some .eq)
 all_goals
  go_enter Try.func23, Try.ntmps23
  go_wp2
  go_ret
  exact ⟨by first | rfl | (simp; done), by repeat (first | exact Drawn0.refl _ | apply Drawn0.step)⟩

def spec_l2Plain.f (a : Nat) : Option (Nat) := some (spec_l2Plain.g a)
theorem spec_l2Plain.calls (a : Nat) (r : Nat) (w : World) (h : spec_l2Plain.f a = some r) :
  Calls Try.prog 23 #[.float .f64 a] w fun e w' => e = .returned (.float .f64 r) ∧ Below w.heap.size w w' := (spec_l2Plain.run a r w (Option.some.inj h)).mono (by rintro e w1 ⟨h1, hb⟩; exact ⟨h1, by first | exact hb | (obtain ⟨nd, rfl⟩ := hb; repeat (first | exact Below.refl _ _ | apply below_alloc | apply pw_below_drewN | apply below_drew1))⟩)

/-! ### spec_l2Turn: function 16 -/
def spec_l2Turn.j0 : Nat → Nat → Nat → Bool → Option (Nat × Nat × Bool)
 | 0, _, _, _ => none
 | k + 1, x0, x1, x13 => if x13 = true then (some (0, 0, false)) else ((spec_l2Plain.f x0).bind fun t107 => ((spec_l2Plain.f x1).bind fun t108 => (some (t107, t108, true))))
def spec_l2Turn.f (k : Nat) (a0 : Nat) (a1 : Nat) : Option (Nat × Nat × Bool) := (spec_l2Finite.f a0).bind fun t105 => (if t105 = true then ((spec_l2Finite.f a1).bind fun t106 => (spec_l2Turn.j0 k a0 a1 (!t106))) else (spec_l2Turn.j0 k a0 a1 true))
theorem spec_l2Turn.mono_l : ∀ k, (∀ y0 y1 y2, LeO (spec_l2Turn.j0 k y0 y1 y2) (spec_l2Turn.j0 (k + 1) y0 y1 y2))
 | 0 => fun _ _ _ r h => by simp [spec_l2Turn.j0] at h
 | k + 1 => by
  have ih0 := spec_l2Turn.mono_l k
  ·intro y0 y1 y2
   unfold spec_l2Turn.j0
   repeat' first
   | (with_reducible exact ih0 _ _ _)
   | (with_reducible exact LeO.refl _)
   | (with_reducible exact LeO.none _)
   | (with_reducible refine LeO.ite ?_ ?_)
   | (with_reducible refine LeO.bind ?_ (fun _ => ?_))
   | exact ih0 _ _ _
   | exact LeO.none _
   | refine LeO.ite ?_ ?_
   | refine LeO.bind ?_ (fun _ => ?_)
theorem spec_l2Turn.mono : ∀ a0 a1 k, LeO (spec_l2Turn.f k a0 a1) (spec_l2Turn.f (k + 1) a0 a1) := by
 intro a0 a1 k
 have ih0 := spec_l2Turn.mono_l k
 unfold spec_l2Turn.f
 repeat' first
   | (with_reducible exact ih0 _ _ _)
   | (with_reducible exact LeO.refl _)
   | (with_reducible exact LeO.none _)
   | (with_reducible refine LeO.ite ?_ ?_)
   | (with_reducible refine LeO.bind ?_ (fun _ => ?_))
   | exact ih0 _ _ _
   | exact LeO.none _
   | refine LeO.ite ?_ ?_
   | refine LeO.bind ?_ (fun _ => ?_)
set_option maxHeartbeats 8000000 in
set_option maxRecDepth 100000 in
theorem spec_l2Turn.calls (k : Nat) (a0 : Nat) (a1 : Nat) (r1 : Nat) (r2 : Nat) (r3 : Bool) (w : World) (h : spec_l2Turn.f k a0 a1 = some (r1, r2, r3)) :
  Calls Try.prog 16 #[.float .f64 a0, .float .f64 a1] w fun e w' => e = .returned (.tuple #[.agg #[.float .f64 r1, .float .f64 r2], .bool r3]) ∧ Below w.heap.size w w' := by
 have hu25 := Try.underlying25
 have HB := Aside0.mk (Below.refl w.heap.size w)
 have hsf_ : ∀ (w_ : World) (a_ : Addr) (x_ : Nat), Sem.run Try.prog (store a_ (.float .f64 x_)) w_ = stored Try.prog w_ a_ (.float .f64 x_) .plain := fun w_ a_ x_ => run_store Try.prog w_ a_ _ .plain rfl
 have H : ((spec_l2Finite.f a0).bind fun t105 => (if t105 = true then ((spec_l2Finite.f a1).bind fun t106 => (spec_l2Turn.j0 k a0 a1 (!t106))) else (spec_l2Turn.j0 k a0 a1 true))) = some (r1, r2, r3) := h
 clear h
 have HC3 := Aside0.mk H
 clear H
 go_enter Try.func16, Try.ntmps16
 go_upto_region 1 with (first | ((with_reducible refine gate_dst (N := 4) rfl ?_); refine box_event ?hg (N := 4) ?hd (cs := #[.float .f64 0, .float .f64 0]) (t := 25) ?hr ?_; (case hd => rfl); (case hg => rfl); (case hr => first | (go_simp; done) | (go_simp; rfl)); intro gb104 hg w4 hbox hb; have n0_ := Aside0.mk (below_step blw hb); have n1_ := Aside0.mk (hbox); have n2_ := Aside0.mk ((by rw [hg]; exact (below_size blw) : w.heap.size ≤ gb104)); have n3_ := Aside0.mk ((by rw [hg]; exact (below_size blw) : w.heap.size ≤ gb104)); clear HB; have HB := n0_; have BK104 := n1_; have GW104 := n2_; have GE104 := n3_; clear n0_ n1_ n2_ n3_; clear hb hbox hg))
 (try simp only [Act.put, List.setIfInBounds_toArray, List.set_cons_zero, List.set_cons_succ])
 go_cut [13] (fun v13 wc => ∃ (kq : Nat) (x13_2 : Bool), v13 = .bool x13_2 ∧ Aside0 (spec_l2Turn.j0 kq a0 a1 x13_2 = some (r1, r2, r3)) ∧ Aside0 (kq ≤ k) ∧ Aside0 (wc.heap[gb104]? = some (.cells #[.float .f64 0, .float .f64 0] 25 (0, 0))) ∧ Aside0 (Below w.heap.size w wc))
 case first =>
  have H := HC3.out
  clear HC3
  replace H := Option.bind_eq_some_iff.mp H
  obtain ⟨t105, A50, H⟩ := H
  replace H : (if t105 = true then ((spec_l2Finite.f a1).bind fun t106 => (spec_l2Turn.j0 k a0 a1 (!t106))) else (spec_l2Turn.j0 k a0 a1 true)) = some (r1, r2, r3) := H
  have A5 := Aside0.mk A50
  clear A50
  by_cases c6 : t105 = true
  ·subst c6
   have H1 : ((spec_l2Finite.f a1).bind fun t106 => (spec_l2Turn.j0 k a0 a1 (!t106))) = some (r1, r2, r3) := by rw [if_pos rfl] at H; exact H
   clear H
   have H := H1
   clear H1
   replace H := Option.bind_eq_some_iff.mp H
   obtain ⟨t106, A70, H⟩ := H
   replace H : (spec_l2Turn.j0 k a0 a1 (!t106)) = some (r1, r2, r3) := H
   have A7 := Aside0.mk A70
   clear A70
   have H' := Aside0.mk H
   clear H
   go_wp2_with (first | ((with_reducible refine gate_callee (f := 15) rfl ?_); refine goesL_ (some 7) rfl rfl Try.func15 (by kernel_rfl) rfl #[.float .f64 a0] rfl (by (try simp only [List.map_toArray, List.map_cons, List.map_nil]); first | done | rfl | (simp only [List.length_drop, List.length_take]; rfl)) ?_; (with_reducible refine (spec_l2Finite.calls a0 true _ A5.out).mono ?_); rintro e w8 ⟨rfl, hb⟩; refine ⟨_, rfl, ?_⟩; have n0_ := Aside0.mk (blk_below (g := gb104) (o := .cells #[.float .f64 0, .float .f64 0] 25 (0, 0)) bkw hb); have n1_ := Aside0.mk (below_step blw hb); clear BK104; clear HB; have BK104 := n0_; have HB := n1_; clear n0_ n1_; (try clear hb); (try clear hb2); (try clear hk); (try clear hi)) | (go_at_call 15; (with_reducible refine (spec_l2Finite.calls a1 t106 _ A7.out).mono ?_); rintro e w9 ⟨rfl, hb⟩; have n0_ := Aside0.mk (blk_below (g := gb104) (o := .cells #[.float .f64 0, .float .f64 0] 25 (0, 0)) bkw hb); have n1_ := Aside0.mk (below_step blw hb); clear BK104; clear HB; have BK104 := n0_; have HB := n1_; clear n0_ n1_; (try clear hb); (try clear hb2); (try clear hk); (try clear hi)))
   go_meet
   case rel => exact ⟨_, (!t106), (by first | rfl | (simp; done) | (simp [*]; done)), H', ⟨by first | omega | exact Nat.le_refl _⟩, ⟨by (with_reducible repeat (first | refine blk_drewN ?_ _ | refine blk_drew ?_ | refine blk_alloc ?_ _)); exact BK104.out⟩, ⟨blw⟩⟩
  ·replace c6 := Bool.eq_false_iff.mpr c6
   subst c6
   have H1 : (spec_l2Turn.j0 k a0 a1 true) = some (r1, r2, r3) := by rw [if_neg (show ¬ (false = true) by decide)] at H; exact H
   clear H
   have H := H1
   clear H1
   have H' := Aside0.mk H
   clear H
   go_wp2_with (first | ((with_reducible refine gate_callee (f := 15) rfl ?_); refine goesL_ (some 7) rfl rfl Try.func15 (by kernel_rfl) rfl #[.float .f64 a0] rfl (by (try simp only [List.map_toArray, List.map_cons, List.map_nil]); first | done | rfl | (simp only [List.length_drop, List.length_take]; rfl)) ?_; (with_reducible refine (spec_l2Finite.calls a0 false _ A5.out).mono ?_); rintro e w10 ⟨rfl, hb⟩; refine ⟨_, rfl, ?_⟩; have n0_ := Aside0.mk (blk_below (g := gb104) (o := .cells #[.float .f64 0, .float .f64 0] 25 (0, 0)) bkw hb); have n1_ := Aside0.mk (below_step blw hb); clear BK104; clear HB; have BK104 := n0_; have HB := n1_; clear n0_ n1_; (try clear hb); (try clear hb2); (try clear hk); (try clear hi)))
   go_meet
   case rel => exact ⟨_, (true), (by first | rfl | (simp; done) | (simp [*]; done)), H', ⟨by first | omega | exact Nat.le_refl _⟩, ⟨by (with_reducible repeat (first | refine blk_drewN ?_ _ | refine blk_drew ?_ | refine blk_alloc ?_ _)); exact BK104.out⟩, ⟨blw⟩⟩
 case rest =>
  clear HC3
  try clear c1
  try clear p2
  try clear c6
  obtain ⟨kq, x13_2, rfl, HA, HJ2, BK104, HB⟩ := hcut
  cases kq with
  | zero => exact absurd HA.out (by simp [spec_l2Turn.j0])
  | succ kj2 =>
   have H := HA.out
   clear HA
   simp only [spec_l2Turn.j0] at H
   by_cases c11 : x13_2 = true
   ·subst c11
    have H1 : (some (0, 0, false)) = some (r1, r2, r3) := by rw [if_pos rfl] at H; exact H
    clear H
    have H := H1
    clear H1
    simp only [Option.some.injEq, Prod.mk.injEq] at H
    obtain ⟨rfl, rfl, rfl⟩ := H
    have hcz12_0 : wc.cell? ⟨gb104, 0, none⟩ = some (.float .f64 0) := (blk_cell BK104.out 0).trans rfl
    have hcz12_1 : wc.cell? ⟨gb104, 1, none⟩ = some (.float .f64 0) := (blk_cell BK104.out 1).trans rfl
    have hfz12_0 := blk_frozen BK104.out 0
    have hfz12_1 := blk_frozen BK104.out 1
    go_wp2
    refine bodyPost_ret (results_ct rfl _ _ gb104 25 #[.float .f64 0, .float .f64 0] (0, 0) _ rfl (by (with_reducible repeat (first | refine blk_drewN ?_ _ | refine blk_drew ?_ | refine blk_alloc ?_ _)); refine blk_put (cs := #[.float .f64 0, .float .f64 0]) ?_ 1 _ rfl; (with_reducible repeat (first | refine blk_drewN ?_ _ | refine blk_drew ?_ | refine blk_alloc ?_ _)); refine blk_put (cs := #[.float .f64 0, .float .f64 0]) ?_ 0 _ rfl; (with_reducible repeat (first | refine blk_drewN ?_ _ | refine blk_drew ?_ | refine blk_alloc ?_ _)); exact BK104.out) Try.underlying25 rfl (by kernel_rfl)) rfl ?_
    exact ⟨by first | rfl | (simp [errW_none, errW_some] <;> rfl) | (simp [*, errW_none, errW_some] <;> rfl), blw⟩
   ·replace c11 := Bool.eq_false_iff.mpr c11
    subst c11
    have H1 : ((spec_l2Plain.f a0).bind fun t107 => ((spec_l2Plain.f a1).bind fun t108 => (some (t107, t108, true)))) = some (r1, r2, r3) := by rw [if_neg (show ¬ (false = true) by decide)] at H; exact H
    clear H
    have H := H1
    clear H1
    replace H := Option.bind_eq_some_iff.mp H
    obtain ⟨t107, A130, H⟩ := H
    replace H : ((spec_l2Plain.f a1).bind fun t108 => (some (t107, t108, true))) = some (r1, r2, r3) := H
    have A13 := Aside0.mk A130
    clear A130
    replace H := Option.bind_eq_some_iff.mp H
    obtain ⟨t108, A140, H⟩ := H
    replace H : (some (t107, t108, true)) = some (r1, r2, r3) := H
    have A14 := Aside0.mk A140
    clear A140
    simp only [Option.some.injEq, Prod.mk.injEq] at H
    obtain ⟨rfl, rfl, rfl⟩ := H
    go_wp2_with (first | ((with_reducible refine gate_callee (f := 23) rfl ?_); refine goesL_ (some 16) rfl rfl Try.func23 (by kernel_rfl) rfl #[.float .f64 a0] rfl (by (try simp only [List.map_toArray, List.map_cons, List.map_nil]); first | done | rfl | (simp only [List.length_drop, List.length_take]; rfl)) ?_; (with_reducible refine (spec_l2Plain.calls a0 t107 _ A13.out).mono ?_); rintro e w15 ⟨rfl, hb⟩; refine ⟨_, rfl, ?_⟩; have n0_ := Aside0.mk (blk_below (g := gb104) (o := .cells #[.float .f64 0, .float .f64 0] 25 (0, 0)) bkw hb); have n1_ := Aside0.mk (below_step blw hb); clear BK104; clear HB; have BK104 := n0_; have HB := n1_; clear n0_ n1_; (try clear hb); (try clear hb2); (try clear hk); (try clear hi)) | ((with_reducible refine gate_callee (f := 23) rfl ?_); refine goesL_ (some 18) rfl rfl Try.func23 (by kernel_rfl) rfl #[.float .f64 a1] rfl (by (try simp only [List.map_toArray, List.map_cons, List.map_nil]); first | done | rfl | (simp only [List.length_drop, List.length_take]; rfl)) ?_; (with_reducible refine (spec_l2Plain.calls a1 t108 _ A14.out).mono ?_); rintro e w16 ⟨rfl, hb⟩; refine ⟨_, rfl, ?_⟩; have n0_ := Aside0.mk (blk_below (g := gb104) (o := .cells #[.float .f64 0, .float .f64 0] 25 (0, 0)) bkw hb); have n1_ := Aside0.mk (below_step blw hb); clear BK104; clear HB; have BK104 := n0_; have HB := n1_; clear n0_ n1_; (try clear hb); (try clear hb2); (try clear hk); (try clear hi); have hcz17_0 : w16.cell? ⟨gb104, 0, none⟩ = some (.float .f64 0) := (blk_cell BK104.out 0).trans rfl; have hcz17_1 : w16.cell? ⟨gb104, 1, none⟩ = some (.float .f64 0) := (blk_cell BK104.out 1).trans rfl; have hfz17_0 := blk_frozen BK104.out 0; have hfz17_1 := blk_frozen BK104.out 1))
    refine bodyPost_ret (results_ct rfl _ _ gb104 25 #[.float .f64 t107, .float .f64 t108] (0, 0) _ rfl (by (with_reducible repeat (first | refine blk_drewN ?_ _ | refine blk_drew ?_ | refine blk_alloc ?_ _)); refine blk_put (cs := #[.float .f64 t107, .float .f64 0]) ?_ 1 _ rfl; (with_reducible repeat (first | refine blk_drewN ?_ _ | refine blk_drew ?_ | refine blk_alloc ?_ _)); refine blk_put (cs := #[.float .f64 0, .float .f64 0]) ?_ 0 _ rfl; (with_reducible repeat (first | refine blk_drewN ?_ _ | refine blk_drew ?_ | refine blk_alloc ?_ _)); exact BK104.out) Try.underlying25 rfl (by kernel_rfl)) rfl ?_
    exact ⟨by first | rfl | (simp [errW_none, errW_some] <;> rfl) | (simp [*, errW_none, errW_some] <;> rfl), blw⟩


theorem spec_l2Finite.nanf {v : Nat} (hv : math_IsNaN.g v = true) : spec_l2Finite.f v = some false := by
 unfold spec_l2Finite.f spec_l2Finite.g
 rw [hv]; rfl
/-! ### spec_DivTurn: function 5 -/
mutual
def spec_DivTurn.j0 : Nat → Bool → Nat → Nat → Nat → Nat → Option (Nat × Nat × Bool)
 | 0, _, _, _, _, _ => none
 | k + 1, x22, x110000, x110001, x111000, x111001 => if x22 = true then (some (0, 0, false)) else ((floatBits .mul .f64 x111000 x111000).bind fun t114 => ((floatBits .mul .f64 x111001 x111001).bind fun t115 => ((floatBits .add .f64 t114 t115).bind fun t116 => (if (FloatKind.f64.format.order t116 0 == some .eq) = true then (spec_DivTurn.j1 k t116 true x110000 x110001 x111000 x111001) else ((spec_l2Finite.f t116).bind fun t117 => (spec_DivTurn.j1 k t116 (!t117) x110000 x110001 x111000 x111001))))))
def spec_DivTurn.j1 : Nat → Nat → Bool → Nat → Nat → Nat → Nat → Option (Nat × Nat × Bool)
 | 0, _, _, _, _, _, _ => none
 | k + 1, x8, x43, x110000, x110001, x111000, x111001 => if x43 = true then (some (0, 0, false)) else ((floatBits .mul .f64 x110000 x111000).bind fun t118 => ((floatBits .mul .f64 x110001 x111001).bind fun t119 => ((floatBits .mul .f64 x110001 x111000).bind fun t120 => ((floatBits .mul .f64 x110000 x111001).bind fun t121 => (bindN (floatBits .add .f64 t118 t119) (some (0, 0, false)) fun t122 => (bindN (floatBits .sub .f64 t120 t121) (some (0, 0, false)) fun t123 => ((spec_l2Finite.f t122).bind fun t124 => (if t124 = true then ((spec_l2Finite.f t123).bind fun t125 => (if t125 = true then ((floatBits .quo .f64 t122 x8).bind fun t126 => ((floatBits .quo .f64 t123 x8).bind fun t127 => ((spec_l2Turn.f k t126 t127).bind fun bt128 => (some (bt128.1, bt128.2.1, bt128.2.2))))) else (some (0, 0, false)))) else (some (0, 0, false))))))))))
end
def spec_DivTurn.f (k : Nat) (a0_0 : Nat) (a0_1 : Nat) (a1_0 : Nat) (a1_1 : Nat) : Option (Nat × Nat × Bool) := (spec_l2Good.f a0_0 a0_1).bind fun t112 => (if t112 = true then ((spec_l2Good.f a1_0 a1_1).bind fun t113 => (spec_DivTurn.j0 k (!t113) a0_0 a0_1 a1_0 a1_1)) else (spec_DivTurn.j0 k true a0_0 a0_1 a1_0 a1_1))
theorem spec_DivTurn.mono_l : ∀ k, (∀ y0 y1 y2 y3 y4, LeO (spec_DivTurn.j0 k y0 y1 y2 y3 y4) (spec_DivTurn.j0 (k + 1) y0 y1 y2 y3 y4)) ∧ (∀ y0 y1 y2 y3 y4 y5, LeO (spec_DivTurn.j1 k y0 y1 y2 y3 y4 y5) (spec_DivTurn.j1 (k + 1) y0 y1 y2 y3 y4 y5))
 | 0 => ⟨fun _ _ _ _ _ r h => by simp [spec_DivTurn.j0] at h, fun _ _ _ _ _ _ r h => by simp [spec_DivTurn.j1] at h⟩
 | k + 1 => by
  obtain ⟨ih0, ih1⟩ := spec_DivTurn.mono_l k
  refine ⟨?_, ?_⟩
  ·intro y0 y1 y2 y3 y4
   unfold spec_DivTurn.j0
   repeat' first
   | (with_reducible exact ih0 _ _ _ _ _)
   | (with_reducible exact ih1 _ _ _ _ _ _)
   | (with_reducible exact spec_l2Turn.mono _ _ _)
   | (with_reducible exact LeO.refl _)
   | (with_reducible exact LeO.none _)
   | (with_reducible refine LeO.ite ?_ ?_)
   | (with_reducible refine LeO_bindN ?_ (fun _ => ?_))
   | (with_reducible refine LeO.bind ?_ (fun _ => ?_))
   | exact ih0 _ _ _ _ _
   | exact ih1 _ _ _ _ _ _
   | exact spec_l2Turn.mono _ _ _
   | exact LeO.none _
   | refine LeO.ite ?_ ?_
   | refine LeO.bind ?_ (fun _ => ?_)
  ·intro y0 y1 y2 y3 y4 y5
   unfold spec_DivTurn.j1
   repeat' first
   | (with_reducible exact ih0 _ _ _ _ _)
   | (with_reducible exact ih1 _ _ _ _ _ _)
   | (with_reducible exact spec_l2Turn.mono _ _ _)
   | (with_reducible exact LeO.refl _)
   | (with_reducible exact LeO.none _)
   | (with_reducible refine LeO.ite ?_ ?_)
   | (with_reducible refine LeO_bindN ?_ (fun _ => ?_))
   | (with_reducible refine LeO.bind ?_ (fun _ => ?_))
   | exact ih0 _ _ _ _ _
   | exact ih1 _ _ _ _ _ _
   | exact spec_l2Turn.mono _ _ _
   | exact LeO.none _
   | refine LeO.ite ?_ ?_
   | refine LeO.bind ?_ (fun _ => ?_)
theorem spec_DivTurn.mono : ∀ a0 a1 a2 a3 k, LeO (spec_DivTurn.f k a0 a1 a2 a3) (spec_DivTurn.f (k + 1) a0 a1 a2 a3) := by
 intro a0 a1 a2 a3 k
 obtain ⟨ih0, ih1⟩ := spec_DivTurn.mono_l k
 unfold spec_DivTurn.f
 repeat' first
   | (with_reducible exact ih0 _ _ _ _ _)
   | (with_reducible exact ih1 _ _ _ _ _ _)
   | (with_reducible exact spec_l2Turn.mono _ _ _)
   | (with_reducible exact LeO.refl _)
   | (with_reducible exact LeO.none _)
   | (with_reducible refine LeO.ite ?_ ?_)
   | (with_reducible refine LeO_bindN ?_ (fun _ => ?_))
   | (with_reducible refine LeO.bind ?_ (fun _ => ?_))
   | exact ih0 _ _ _ _ _
   | exact ih1 _ _ _ _ _ _
   | exact spec_l2Turn.mono _ _ _
   | exact LeO.none _
   | refine LeO.ite ?_ ?_
   | refine LeO.bind ?_ (fun _ => ?_)
set_option maxHeartbeats 8000000 in
set_option maxRecDepth 100000 in
theorem spec_DivTurn.calls (k : Nat) (a0_0 : Nat) (a0_1 : Nat) (a1_0 : Nat) (a1_1 : Nat) (r1 : Nat) (r2 : Nat) (r3 : Bool) (w : World) (h : spec_DivTurn.f k a0_0 a0_1 a1_0 a1_1 = some (r1, r2, r3)) :
  Calls Try.prog 5 #[.agg #[.float .f64 a0_0, .float .f64 a0_1], .agg #[.float .f64 a1_0, .float .f64 a1_1]] w fun e w' => e = .returned (.tuple #[.agg #[.float .f64 r1, .float .f64 r2], .bool r3]) ∧ Below w.heap.size w w' := by
 have hu25 := Try.underlying25
 have HB := Aside0.mk (Below.refl w.heap.size w)
 have hsf_ : ∀ (w_ : World) (a_ : Addr) (x_ : Nat), Sem.run Try.prog (store a_ (.float .f64 x_)) w_ = stored Try.prog w_ a_ (.float .f64 x_) .plain := fun w_ a_ x_ => run_store Try.prog w_ a_ _ .plain rfl
 have H : ((spec_l2Good.f a0_0 a0_1).bind fun t112 => (if t112 = true then ((spec_l2Good.f a1_0 a1_1).bind fun t113 => (spec_DivTurn.j0 k (!t113) a0_0 a0_1 a1_0 a1_1)) else (spec_DivTurn.j0 k true a0_0 a0_1 a1_0 a1_1))) = some (r1, r2, r3) := h
 clear h
 have HC3 := Aside0.mk H
 clear H
 go_enter Try.func5, Try.ntmps5
 go_upto_region 1 with (first | ((with_reducible refine gate_dst (N := 2) rfl ?_); refine box_event ?hg (N := 2) ?hd (cs := #[.float .f64 a0_0, .float .f64 a0_1]) (t := 25) ?hr ?_; (case hd => rfl); (case hg => rfl); (case hr => first | (go_simp; done) | (go_simp; rfl)); intro gb109 hg w4 hbox hb; have n0_ := Aside0.mk (below_step blw hb); have n1_ := Aside0.mk (hbox); have n2_ := Aside0.mk ((by rw [hg]; exact (below_size blw) : w.heap.size ≤ gb109)); have n3_ := Aside0.mk ((by rw [hg]; exact (below_size blw) : w.heap.size ≤ gb109)); clear HB; have HB := n0_; have BK109 := n1_; have GW109 := n2_; have GE109 := n3_; clear n0_ n1_ n2_ n3_; clear hb hbox hg) | ((with_reducible refine gate_dst (N := 3) rfl ?_); refine box_event ?hg (N := 3) ?hd (cs := #[.float .f64 a1_0, .float .f64 a1_1]) (t := 25) ?hr ?_; (case hd => rfl); (case hg => rfl); (case hr => first | (go_simp; done) | (go_simp; rfl)); intro gb110 hg w5 hbox hb; have n0_ := Aside0.mk (blk_below (g := gb109) (o := .cells #[.float .f64 a0_0, .float .f64 a0_1] 25 (0, 0)) bkw hb); have n1_ := Aside0.mk (below_step blw hb); have n2_ := Aside0.mk (hbox); have n3_ := Aside0.mk ((by rw [hg]; exact (below_size blw) : w.heap.size ≤ gb110)); have n4_ := Aside0.mk ((by rw [hg]; exact (below_size blw) : w.heap.size ≤ gb110)); have n5_ := Aside0.mk ((by rw [hg]; exact Nat.ne_of_lt (blk_lt (g := gb109) (o := .cells #[.float .f64 a0_0, .float .f64 a0_1] 25 (0, 0)) bkw) : gb109 ≠ gb110)); have n6_ := Aside0.mk ((by rw [hg]; exact Nat.ne_of_gt (blk_lt (g := gb109) (o := .cells #[.float .f64 a0_0, .float .f64 a0_1] 25 (0, 0)) bkw) : gb110 ≠ gb109)); clear BK109; clear HB; have BK109 := n0_; have HB := n1_; have BK110 := n2_; have GW110 := n3_; have GE110 := n4_; have NB109_110 := n5_; have NB110_109 := n6_; clear n0_ n1_ n2_ n3_ n4_ n5_ n6_; clear hb hbox hg) | ((with_reducible refine gate_dst (N := 4) rfl ?_); refine box_event ?hg (N := 4) ?hd (cs := #[.float .f64 0, .float .f64 0]) (t := 25) ?hr ?_; (case hd => rfl); (case hg => rfl); (case hr => first | (go_simp; done) | (go_simp; rfl)); intro gb111 hg w6 hbox hb; have n0_ := Aside0.mk (blk_below (g := gb109) (o := .cells #[.float .f64 a0_0, .float .f64 a0_1] 25 (0, 0)) bkw hb); have n1_ := Aside0.mk (blk_below (g := gb110) (o := .cells #[.float .f64 a1_0, .float .f64 a1_1] 25 (0, 0)) bkw hb); have n2_ := Aside0.mk (below_step blw hb); have n3_ := Aside0.mk (hbox); have n4_ := Aside0.mk ((by rw [hg]; exact (below_size blw) : w.heap.size ≤ gb111)); have n5_ := Aside0.mk ((by rw [hg]; exact (below_size blw) : w.heap.size ≤ gb111)); have n6_ := Aside0.mk ((by rw [hg]; exact Nat.ne_of_lt (blk_lt (g := gb109) (o := .cells #[.float .f64 a0_0, .float .f64 a0_1] 25 (0, 0)) bkw) : gb109 ≠ gb111)); have n7_ := Aside0.mk ((by rw [hg]; exact Nat.ne_of_gt (blk_lt (g := gb109) (o := .cells #[.float .f64 a0_0, .float .f64 a0_1] 25 (0, 0)) bkw) : gb111 ≠ gb109)); have n8_ := Aside0.mk ((by rw [hg]; exact Nat.ne_of_lt (blk_lt (g := gb110) (o := .cells #[.float .f64 a1_0, .float .f64 a1_1] 25 (0, 0)) bkw) : gb110 ≠ gb111)); have n9_ := Aside0.mk ((by rw [hg]; exact Nat.ne_of_gt (blk_lt (g := gb110) (o := .cells #[.float .f64 a1_0, .float .f64 a1_1] 25 (0, 0)) bkw) : gb111 ≠ gb110)); clear BK109; clear BK110; clear HB; have BK109 := n0_; have BK110 := n1_; have HB := n2_; have BK111 := n3_; have GW111 := n4_; have GE111 := n5_; have NB109_111 := n6_; have NB111_109 := n7_; have NB110_111 := n8_; have NB111_110 := n9_; clear n0_ n1_ n2_ n3_ n4_ n5_ n6_ n7_ n8_ n9_; clear hb hbox hg))
 (try simp only [Act.put, List.setIfInBounds_toArray, List.set_cons_zero, List.set_cons_succ])
 go_cut [22] (fun v22 wc => ∃ (kq : Nat) (x22_2 : Bool), v22 = .bool x22_2 ∧ Aside0 (spec_DivTurn.j0 kq x22_2 a0_0 a0_1 a1_0 a1_1 = some (r1, r2, r3)) ∧ Aside0 (kq ≤ k) ∧ Aside0 (wc.heap[gb109]? = some (.cells #[.float .f64 a0_0, .float .f64 a0_1] 25 (0, 0))) ∧ Aside0 (wc.heap[gb110]? = some (.cells #[.float .f64 a1_0, .float .f64 a1_1] 25 (0, 0))) ∧ Aside0 (wc.heap[gb111]? = some (.cells #[.float .f64 0, .float .f64 0] 25 (0, 0))) ∧ Aside0 (Below w.heap.size w wc))
 case first =>
  have H := HC3.out
  clear HC3
  replace H := Option.bind_eq_some_iff.mp H
  obtain ⟨t112, A70, H⟩ := H
  replace H : (if t112 = true then ((spec_l2Good.f a1_0 a1_1).bind fun t113 => (spec_DivTurn.j0 k (!t113) a0_0 a0_1 a1_0 a1_1)) else (spec_DivTurn.j0 k true a0_0 a0_1 a1_0 a1_1)) = some (r1, r2, r3) := H
  have A7 := Aside0.mk A70
  clear A70
  by_cases c8 : t112 = true
  ·subst c8
   have H1 : ((spec_l2Good.f a1_0 a1_1).bind fun t113 => (spec_DivTurn.j0 k (!t113) a0_0 a0_1 a1_0 a1_1)) = some (r1, r2, r3) := by rw [if_pos rfl] at H; exact H
   clear H
   have H := H1
   clear H1
   replace H := Option.bind_eq_some_iff.mp H
   obtain ⟨t113, A90, H⟩ := H
   replace H : (spec_DivTurn.j0 k (!t113) a0_0 a0_1 a1_0 a1_1) = some (r1, r2, r3) := H
   have A9 := Aside0.mk A90
   clear A90
   have H' := Aside0.mk H
   clear H
   have hnb10 := NB109_110.out
   have hnc10 := NB110_109.out
   have hnb11 := NB109_111.out
   have hnc11 := NB111_109.out
   have hcz12_0 : w6.cell? ⟨gb109, 0, none⟩ = some (.float .f64 a0_0) := (blk_cell BK109.out 0).trans rfl
   have hcz12_1 : w6.cell? ⟨gb109, 1, none⟩ = some (.float .f64 a0_1) := (blk_cell BK109.out 1).trans rfl
   have hfz12_0 := blk_frozen BK109.out 0
   have hfz12_1 := blk_frozen BK109.out 1
   go_wp2_with (first | ((with_reducible refine gate_callee (f := 14) rfl ?_); refine goesL_ (some 16) rfl rfl Try.func14 (by kernel_rfl) rfl #[.agg #[.float .f64 a0_0, .float .f64 a0_1]] rfl (by (try simp only [List.map_toArray, List.map_cons, List.map_nil]); first | done | rfl | (simp only [List.length_drop, List.length_take]; rfl)) ?_; (with_reducible refine (spec_l2Good.calls a0_0 a0_1 true _ A7.out).mono ?_); rintro e w13 ⟨rfl, hb⟩; refine ⟨_, rfl, ?_⟩; have n0_ := Aside0.mk (blk_below (g := gb109) (o := .cells #[.float .f64 a0_0, .float .f64 a0_1] 25 (0, 0)) bkw hb); have n1_ := Aside0.mk (blk_below (g := gb110) (o := .cells #[.float .f64 a1_0, .float .f64 a1_1] 25 (0, 0)) bkw hb); have n2_ := Aside0.mk (blk_below (g := gb111) (o := .cells #[.float .f64 0, .float .f64 0] 25 (0, 0)) bkw hb); have n3_ := Aside0.mk (below_step blw hb); clear BK109; clear BK110; clear BK111; clear HB; have BK109 := n0_; have BK110 := n1_; have BK111 := n2_; have HB := n3_; clear n0_ n1_ n2_ n3_; (try clear hb); (try clear hb2); (try clear hk); (try clear hi); have hnb14 := NB110_111.out; have hnc14 := NB111_110.out; have hcz15_0 : w13.cell? ⟨gb110, 0, none⟩ = some (.float .f64 a1_0) := (blk_cell BK110.out 0).trans rfl; have hcz15_1 : w13.cell? ⟨gb110, 1, none⟩ = some (.float .f64 a1_1) := (blk_cell BK110.out 1).trans rfl; have hfz15_0 := blk_frozen BK110.out 0; have hfz15_1 := blk_frozen BK110.out 1) | (go_at_call 14; (with_reducible refine (spec_l2Good.calls a1_0 a1_1 t113 _ A9.out).mono ?_); rintro e w16 ⟨rfl, hb⟩; have n0_ := Aside0.mk (blk_below (g := gb109) (o := .cells #[.float .f64 a0_0, .float .f64 a0_1] 25 (0, 0)) bkw hb); have n1_ := Aside0.mk (blk_below (g := gb110) (o := .cells #[.float .f64 a1_0, .float .f64 a1_1] 25 (0, 0)) bkw hb); have n2_ := Aside0.mk (blk_below (g := gb111) (o := .cells #[.float .f64 0, .float .f64 0] 25 (0, 0)) bkw hb); have n3_ := Aside0.mk (below_step blw hb); clear BK109; clear BK110; clear BK111; clear HB; have BK109 := n0_; have BK110 := n1_; have BK111 := n2_; have HB := n3_; clear n0_ n1_ n2_ n3_; (try clear hb); (try clear hb2); (try clear hk); (try clear hi)))
   go_meet
   case rel => exact ⟨_, (!t113), (by first | rfl | (simp; done) | (simp [*]; done)), H', ⟨by first | omega | exact Nat.le_refl _⟩, ⟨by (with_reducible repeat (first | refine blk_drewN ?_ _ | refine blk_drew ?_ | refine blk_alloc ?_ _)); exact BK109.out⟩, ⟨by (with_reducible repeat (first | refine blk_drewN ?_ _ | refine blk_drew ?_ | refine blk_alloc ?_ _)); exact BK110.out⟩, ⟨by (with_reducible repeat (first | refine blk_drewN ?_ _ | refine blk_drew ?_ | refine blk_alloc ?_ _)); exact BK111.out⟩, ⟨blw⟩⟩
  ·replace c8 := Bool.eq_false_iff.mpr c8
   subst c8
   have H1 : (spec_DivTurn.j0 k true a0_0 a0_1 a1_0 a1_1) = some (r1, r2, r3) := by rw [if_neg (show ¬ (false = true) by decide)] at H; exact H
   clear H
   have H := H1
   clear H1
   have H' := Aside0.mk H
   clear H
   have hnb17 := NB109_110.out
   have hnc17 := NB110_109.out
   have hnb18 := NB109_111.out
   have hnc18 := NB111_109.out
   have hcz19_0 : w6.cell? ⟨gb109, 0, none⟩ = some (.float .f64 a0_0) := (blk_cell BK109.out 0).trans rfl
   have hcz19_1 : w6.cell? ⟨gb109, 1, none⟩ = some (.float .f64 a0_1) := (blk_cell BK109.out 1).trans rfl
   have hfz19_0 := blk_frozen BK109.out 0
   have hfz19_1 := blk_frozen BK109.out 1
   go_wp2_with (first | ((with_reducible refine gate_callee (f := 14) rfl ?_); refine goesL_ (some 16) rfl rfl Try.func14 (by kernel_rfl) rfl #[.agg #[.float .f64 a0_0, .float .f64 a0_1]] rfl (by (try simp only [List.map_toArray, List.map_cons, List.map_nil]); first | done | rfl | (simp only [List.length_drop, List.length_take]; rfl)) ?_; (with_reducible refine (spec_l2Good.calls a0_0 a0_1 false _ A7.out).mono ?_); rintro e w20 ⟨rfl, hb⟩; refine ⟨_, rfl, ?_⟩; have n0_ := Aside0.mk (blk_below (g := gb109) (o := .cells #[.float .f64 a0_0, .float .f64 a0_1] 25 (0, 0)) bkw hb); have n1_ := Aside0.mk (blk_below (g := gb110) (o := .cells #[.float .f64 a1_0, .float .f64 a1_1] 25 (0, 0)) bkw hb); have n2_ := Aside0.mk (blk_below (g := gb111) (o := .cells #[.float .f64 0, .float .f64 0] 25 (0, 0)) bkw hb); have n3_ := Aside0.mk (below_step blw hb); clear BK109; clear BK110; clear BK111; clear HB; have BK109 := n0_; have BK110 := n1_; have BK111 := n2_; have HB := n3_; clear n0_ n1_ n2_ n3_; (try clear hb); (try clear hb2); (try clear hk); (try clear hi)))
   go_meet
   case rel => exact ⟨_, (true), (by first | rfl | (simp; done) | (simp [*]; done)), H', ⟨by first | omega | exact Nat.le_refl _⟩, ⟨by (with_reducible repeat (first | refine blk_drewN ?_ _ | refine blk_drew ?_ | refine blk_alloc ?_ _)); exact BK109.out⟩, ⟨by (with_reducible repeat (first | refine blk_drewN ?_ _ | refine blk_drew ?_ | refine blk_alloc ?_ _)); exact BK110.out⟩, ⟨by (with_reducible repeat (first | refine blk_drewN ?_ _ | refine blk_drew ?_ | refine blk_alloc ?_ _)); exact BK111.out⟩, ⟨blw⟩⟩
 case rest =>
  clear HC3
  try clear c1
  try clear p2
  try clear c5
  try clear c8
  try clear c10
  try clear c11
  try clear c14
  try clear c17
  try clear c18
  try clear hcz12_0
  try clear hcz12_1
  try clear hcz15_0
  try clear hcz15_1
  try clear hcz19_0
  try clear hcz19_1
  try clear hfz12_0
  try clear hfz12_1
  try clear hfz15_0
  try clear hfz15_1
  try clear hfz19_0
  try clear hfz19_1
  obtain ⟨kq, x22_2, rfl, HA, HJ2, BK109, BK110, BK111, HB⟩ := hcut
  cases kq with
  | zero => exact absurd HA.out (by simp [spec_DivTurn.j0])
  | succ kj2 =>
   have H := HA.out
   clear HA
   simp only [spec_DivTurn.j0] at H
   by_cases c21 : x22_2 = true
   ·subst c21
    have H1 : (some (0, 0, false)) = some (r1, r2, r3) := by rw [if_pos rfl] at H; exact H
    clear H
    have H := H1
    clear H1
    simp only [Option.some.injEq, Prod.mk.injEq] at H
    obtain ⟨rfl, rfl, rfl⟩ := H
    have hnb22 := NB111_109.out
    have hnc22 := NB109_111.out
    have hnb23 := NB111_110.out
    have hnc23 := NB110_111.out
    have hcz24_0 : wc.cell? ⟨gb111, 0, none⟩ = some (.float .f64 0) := (blk_cell BK111.out 0).trans rfl
    have hcz24_1 : wc.cell? ⟨gb111, 1, none⟩ = some (.float .f64 0) := (blk_cell BK111.out 1).trans rfl
    have hfz24_0 := blk_frozen BK111.out 0
    have hfz24_1 := blk_frozen BK111.out 1
    go_wp2
    refine bodyPost_ret (results_ct rfl _ _ gb111 25 #[.float .f64 0, .float .f64 0] (0, 0) _ rfl (by (with_reducible repeat (first | refine blk_drewN ?_ _ | refine blk_drew ?_ | refine blk_alloc ?_ _)); refine blk_put (cs := #[.float .f64 0, .float .f64 0]) ?_ 1 _ rfl; (with_reducible repeat (first | refine blk_drewN ?_ _ | refine blk_drew ?_ | refine blk_alloc ?_ _)); refine blk_put (cs := #[.float .f64 0, .float .f64 0]) ?_ 0 _ rfl; (with_reducible repeat (first | refine blk_drewN ?_ _ | refine blk_drew ?_ | refine blk_alloc ?_ _)); exact BK111.out) Try.underlying25 rfl (by kernel_rfl)) rfl ?_
    exact ⟨by first | rfl | (simp [errW_none, errW_some] <;> rfl) | (simp [*, errW_none, errW_some] <;> rfl), blw⟩
   ·replace c21 := Bool.eq_false_iff.mpr c21
    subst c21
    have H1 : ((floatBits .mul .f64 a1_0 a1_0).bind fun t114 => ((floatBits .mul .f64 a1_1 a1_1).bind fun t115 => ((floatBits .add .f64 t114 t115).bind fun t116 => (if (FloatKind.f64.format.order t116 0 == some .eq) = true then (spec_DivTurn.j1 kj2 t116 true a0_0 a0_1 a1_0 a1_1) else ((spec_l2Finite.f t116).bind fun t117 => (spec_DivTurn.j1 kj2 t116 (!t117) a0_0 a0_1 a1_0 a1_1)))))) = some (r1, r2, r3) := by rw [if_neg (show ¬ (false = true) by decide)] at H; exact H
    clear H
    have H := H1
    clear H1
    replace H := Option.bind_eq_some_iff.mp H
    obtain ⟨t114, A250, H⟩ := H
    replace H : ((floatBits .mul .f64 a1_1 a1_1).bind fun t115 => ((floatBits .add .f64 t114 t115).bind fun t116 => (if (FloatKind.f64.format.order t116 0 == some .eq) = true then (spec_DivTurn.j1 kj2 t116 true a0_0 a0_1 a1_0 a1_1) else ((spec_l2Finite.f t116).bind fun t117 => (spec_DivTurn.j1 kj2 t116 (!t117) a0_0 a0_1 a1_0 a1_1))))) = some (r1, r2, r3) := H
    have hfA25 := fun w => run_float_arith (P := Try.prog) w .mul 22 .f64 a1_0 a1_0 t114 A250
    clear A250
    replace H := Option.bind_eq_some_iff.mp H
    obtain ⟨t115, A260, H⟩ := H
    replace H : ((floatBits .add .f64 t114 t115).bind fun t116 => (if (FloatKind.f64.format.order t116 0 == some .eq) = true then (spec_DivTurn.j1 kj2 t116 true a0_0 a0_1 a1_0 a1_1) else ((spec_l2Finite.f t116).bind fun t117 => (spec_DivTurn.j1 kj2 t116 (!t117) a0_0 a0_1 a1_0 a1_1)))) = some (r1, r2, r3) := H
    have hfA26 := fun w => run_float_arith (P := Try.prog) w .mul 22 .f64 a1_1 a1_1 t115 A260
    clear A260
    replace H := Option.bind_eq_some_iff.mp H
    obtain ⟨t116, A270, H⟩ := H
    replace H : (if (FloatKind.f64.format.order t116 0 == some .eq) = true then (spec_DivTurn.j1 kj2 t116 true a0_0 a0_1 a1_0 a1_1) else ((spec_l2Finite.f t116).bind fun t117 => (spec_DivTurn.j1 kj2 t116 (!t117) a0_0 a0_1 a1_0 a1_1))) = some (r1, r2, r3) := H
    have hfA27 := fun w => run_float_arith (P := Try.prog) w .add 22 .f64 t114 t115 t116 A270
    clear A270
    have HC28 := Aside0.mk H
    clear H
    have hnb29 := NB110_109.out
    have hnc29 := NB109_110.out
    have hnb30 := NB110_111.out
    have hnc30 := NB111_110.out
    have hcz31_0 : wc.cell? ⟨gb110, 0, none⟩ = some (.float .f64 a1_0) := (blk_cell BK110.out 0).trans rfl
    have hcz31_1 : wc.cell? ⟨gb110, 1, none⟩ = some (.float .f64 a1_1) := (blk_cell BK110.out 1).trans rfl
    have hfz31_0 := blk_frozen BK110.out 0
    have hfz31_1 := blk_frozen BK110.out 1
    go_upto_region 6 with (fail)
    go_cut [43] (fun v43 wc => ∃ (kq : Nat) (x43_27 : Bool), v43 = .bool x43_27 ∧ Aside0 (spec_DivTurn.j1 kq t116 x43_27 a0_0 a0_1 a1_0 a1_1 = some (r1, r2, r3)) ∧ Aside0 (kq ≤ kj2) ∧ Aside0 (wc.heap[gb109]? = some (.cells #[.float .f64 a0_0, .float .f64 a0_1] 25 (0, 0))) ∧ Aside0 (wc.heap[gb110]? = some (.cells #[.float .f64 a1_0, .float .f64 a1_1] 25 (0, 0))) ∧ Aside0 (wc.heap[gb111]? = some (.cells #[.float .f64 0, .float .f64 0] 25 (0, 0))) ∧ Aside0 (Below w.heap.size w wc))
    case first =>
     have H := HC28.out
     clear HC28
     by_cases c32 : (FloatKind.f64.format.order t116 0 == some .eq) = true
     ·rw [if_pos c32] at H
      have c32b0 : (FloatKind.f64.format.order t116 0 == some .eq) = true := c32
      (try (have c32b1 : decide (FloatKind.f64.format.order t116 0 = some .eq) = true := by simpa using c32))
      (try (have c32b2 : (FloatKind.f64.format.order t116 0 == some .eq) = true := by simpa using c32))
      clear c32
      (first | rw [c32b0] | (simp only [i64_w, i32_w]; rw [c32b0]) | skip)
      have H' := Aside0.mk H
      clear H
      go_wp2
      go_meet
      case rel => exact ⟨_, (true), (by first | rfl | (simp; done) | (simp [*]; done)), H', ⟨by have := HJ2.out; first | omega | exact Nat.le_refl _⟩, ⟨by (with_reducible repeat (first | refine blk_drewN ?_ _ | refine blk_drew ?_ | refine blk_alloc ?_ _)); exact BK109.out⟩, ⟨by (with_reducible repeat (first | refine blk_drewN ?_ _ | refine blk_drew ?_ | refine blk_alloc ?_ _)); exact BK110.out⟩, ⟨by (with_reducible repeat (first | refine blk_drewN ?_ _ | refine blk_drew ?_ | refine blk_alloc ?_ _)); exact BK111.out⟩, ⟨blw⟩⟩
     ·rw [if_neg c32] at H
      have c32b0 : (FloatKind.f64.format.order t116 0 == some .eq) = false := by simpa using c32
      (try (have c32b1 : decide (FloatKind.f64.format.order t116 0 = some .eq) = false := by simpa using c32))
      (try (have c32b2 : (FloatKind.f64.format.order t116 0 == some .eq) = false := by simpa using c32))
      (try (have c32b3 : ¬ (FloatKind.f64.format.order t116 0 = some .eq) := by simpa using c32))
      clear c32
      (first | rw [c32b0] | (simp only [i64_w, i32_w]; rw [c32b0]) | skip)
      replace H := Option.bind_eq_some_iff.mp H
      obtain ⟨t117, A330, H⟩ := H
      replace H : (spec_DivTurn.j1 kj2 t116 (!t117) a0_0 a0_1 a1_0 a1_1) = some (r1, r2, r3) := H
      have A33 := Aside0.mk A330
      clear A330
      have H' := Aside0.mk H
      clear H
      go_wp2_with (first | (go_at_call 15; (with_reducible refine (spec_l2Finite.calls t116 t117 _ A33.out).mono ?_); rintro e w34 ⟨rfl, hb⟩; have n0_ := Aside0.mk (blk_below (g := gb109) (o := .cells #[.float .f64 a0_0, .float .f64 a0_1] 25 (0, 0)) bkw hb); have n1_ := Aside0.mk (blk_below (g := gb110) (o := .cells #[.float .f64 a1_0, .float .f64 a1_1] 25 (0, 0)) bkw hb); have n2_ := Aside0.mk (blk_below (g := gb111) (o := .cells #[.float .f64 0, .float .f64 0] 25 (0, 0)) bkw hb); have n3_ := Aside0.mk (below_step blw hb); clear BK109; clear BK110; clear BK111; clear HB; have BK109 := n0_; have BK110 := n1_; have BK111 := n2_; have HB := n3_; clear n0_ n1_ n2_ n3_; (try clear hb); (try clear hb2); (try clear hk); (try clear hi)))
      go_meet
      case rel => exact ⟨_, (!t117), (by first | rfl | (simp; done) | (simp [*]; done)), H', ⟨by have := HJ2.out; first | omega | exact Nat.le_refl _⟩, ⟨by (with_reducible repeat (first | refine blk_drewN ?_ _ | refine blk_drew ?_ | refine blk_alloc ?_ _)); exact BK109.out⟩, ⟨by (with_reducible repeat (first | refine blk_drewN ?_ _ | refine blk_drew ?_ | refine blk_alloc ?_ _)); exact BK110.out⟩, ⟨by (with_reducible repeat (first | refine blk_drewN ?_ _ | refine blk_drew ?_ | refine blk_alloc ?_ _)); exact BK111.out⟩, ⟨blw⟩⟩
    case rest =>
     clear HC28
     try clear c1
     try clear c2
     try clear p2
     try clear c3
     try clear c5
     try clear c8
     try clear c10
     try clear c11
     try clear c14
     try clear c17
     try clear c18
     try clear c21
     try clear c22
     try clear c23
     try clear c29
     try clear c30
     try clear c32
     try clear c32b0
     try clear c32b1
     try clear c32b2
     try clear hcz12_0
     try clear hcz12_1
     try clear hcz15_0
     try clear hcz15_1
     try clear hcz19_0
     try clear hcz19_1
     try clear hcz24_0
     try clear hcz24_1
     try clear hcz31_0
     try clear hcz31_1
     try clear hfz12_0
     try clear hfz12_1
     try clear hfz15_0
     try clear hfz15_1
     try clear hfz19_0
     try clear hfz19_1
     try clear hfz24_0
     try clear hfz24_1
     try clear hfz31_0
     try clear hfz31_1
     try clear p2
     obtain ⟨kq, x43_27, rfl, HA, HJ27, BK109, BK110, BK111, HB⟩ := hcut
     cases kq with
     | zero => exact absurd HA.out (by simp [spec_DivTurn.j1])
     | succ kj27 =>
      have H := HA.out
      clear HA
      simp only [spec_DivTurn.j1] at H
      by_cases c35 : x43_27 = true
      ·subst c35
       have H1 : (some (0, 0, false)) = some (r1, r2, r3) := by rw [if_pos rfl] at H; exact H
       clear H
       have H := H1
       clear H1
       simp only [Option.some.injEq, Prod.mk.injEq] at H
       obtain ⟨rfl, rfl, rfl⟩ := H
       have hnb36 := NB111_109.out
       have hnc36 := NB109_111.out
       have hnb37 := NB111_110.out
       have hnc37 := NB110_111.out
       have hcz38_0 : wc.cell? ⟨gb111, 0, none⟩ = some (.float .f64 0) := (blk_cell BK111.out 0).trans rfl
       have hcz38_1 : wc.cell? ⟨gb111, 1, none⟩ = some (.float .f64 0) := (blk_cell BK111.out 1).trans rfl
       have hfz38_0 := blk_frozen BK111.out 0
       have hfz38_1 := blk_frozen BK111.out 1
       go_wp2
       refine bodyPost_ret (results_ct rfl _ _ gb111 25 #[.float .f64 0, .float .f64 0] (0, 0) _ rfl (by (with_reducible repeat (first | refine blk_drewN ?_ _ | refine blk_drew ?_ | refine blk_alloc ?_ _)); refine blk_put (cs := #[.float .f64 0, .float .f64 0]) ?_ 1 _ rfl; (with_reducible repeat (first | refine blk_drewN ?_ _ | refine blk_drew ?_ | refine blk_alloc ?_ _)); refine blk_put (cs := #[.float .f64 0, .float .f64 0]) ?_ 0 _ rfl; (with_reducible repeat (first | refine blk_drewN ?_ _ | refine blk_drew ?_ | refine blk_alloc ?_ _)); exact BK111.out) Try.underlying25 rfl (by kernel_rfl)) rfl ?_
       exact ⟨by first | rfl | (simp [errW_none, errW_some] <;> rfl) | (simp [*, errW_none, errW_some] <;> rfl), blw⟩
      ·replace c35 := Bool.eq_false_iff.mpr c35
       subst c35
       have H1 : ((floatBits .mul .f64 a0_0 a1_0).bind fun t118 => ((floatBits .mul .f64 a0_1 a1_1).bind fun t119 => ((floatBits .mul .f64 a0_1 a1_0).bind fun t120 => ((floatBits .mul .f64 a0_0 a1_1).bind fun t121 => (bindN (floatBits .add .f64 t118 t119) (some (0, 0, false)) fun t122 => (bindN (floatBits .sub .f64 t120 t121) (some (0, 0, false)) fun t123 => ((spec_l2Finite.f t122).bind fun t124 => (if t124 = true then ((spec_l2Finite.f t123).bind fun t125 => (if t125 = true then ((floatBits .quo .f64 t122 t116).bind fun t126 => ((floatBits .quo .f64 t123 t116).bind fun t127 => ((spec_l2Turn.f kj27 t126 t127).bind fun bt128 => (some (bt128.1, bt128.2.1, bt128.2.2))))) else (some (0, 0, false)))) else (some (0, 0, false)))))))))) = some (r1, r2, r3) := by rw [if_neg (show ¬ (false = true) by decide)] at H; exact H
       clear H
       have H := H1
       clear H1
       replace H := Option.bind_eq_some_iff.mp H
       obtain ⟨t118, A390, H⟩ := H
       replace H : ((floatBits .mul .f64 a0_1 a1_1).bind fun t119 => ((floatBits .mul .f64 a0_1 a1_0).bind fun t120 => ((floatBits .mul .f64 a0_0 a1_1).bind fun t121 => (bindN (floatBits .add .f64 t118 t119) (some (0, 0, false)) fun t122 => (bindN (floatBits .sub .f64 t120 t121) (some (0, 0, false)) fun t123 => ((spec_l2Finite.f t122).bind fun t124 => (if t124 = true then ((spec_l2Finite.f t123).bind fun t125 => (if t125 = true then ((floatBits .quo .f64 t122 t116).bind fun t126 => ((floatBits .quo .f64 t123 t116).bind fun t127 => ((spec_l2Turn.f kj27 t126 t127).bind fun bt128 => (some (bt128.1, bt128.2.1, bt128.2.2))))) else (some (0, 0, false)))) else (some (0, 0, false))))))))) = some (r1, r2, r3) := H
       have hfA39 := fun w => run_float_arith (P := Try.prog) w .mul 22 .f64 a0_0 a1_0 t118 A390
       clear A390
       replace H := Option.bind_eq_some_iff.mp H
       obtain ⟨t119, A400, H⟩ := H
       replace H : ((floatBits .mul .f64 a0_1 a1_0).bind fun t120 => ((floatBits .mul .f64 a0_0 a1_1).bind fun t121 => (bindN (floatBits .add .f64 t118 t119) (some (0, 0, false)) fun t122 => (bindN (floatBits .sub .f64 t120 t121) (some (0, 0, false)) fun t123 => ((spec_l2Finite.f t122).bind fun t124 => (if t124 = true then ((spec_l2Finite.f t123).bind fun t125 => (if t125 = true then ((floatBits .quo .f64 t122 t116).bind fun t126 => ((floatBits .quo .f64 t123 t116).bind fun t127 => ((spec_l2Turn.f kj27 t126 t127).bind fun bt128 => (some (bt128.1, bt128.2.1, bt128.2.2))))) else (some (0, 0, false)))) else (some (0, 0, false)))))))) = some (r1, r2, r3) := H
       have hfA40 := fun w => run_float_arith (P := Try.prog) w .mul 22 .f64 a0_1 a1_1 t119 A400
       clear A400
       replace H := Option.bind_eq_some_iff.mp H
       obtain ⟨t120, A410, H⟩ := H
       replace H : ((floatBits .mul .f64 a0_0 a1_1).bind fun t121 => (bindN (floatBits .add .f64 t118 t119) (some (0, 0, false)) fun t122 => (bindN (floatBits .sub .f64 t120 t121) (some (0, 0, false)) fun t123 => ((spec_l2Finite.f t122).bind fun t124 => (if t124 = true then ((spec_l2Finite.f t123).bind fun t125 => (if t125 = true then ((floatBits .quo .f64 t122 t116).bind fun t126 => ((floatBits .quo .f64 t123 t116).bind fun t127 => ((spec_l2Turn.f kj27 t126 t127).bind fun bt128 => (some (bt128.1, bt128.2.1, bt128.2.2))))) else (some (0, 0, false)))) else (some (0, 0, false))))))) = some (r1, r2, r3) := H
       have hfA41 := fun w => run_float_arith (P := Try.prog) w .mul 22 .f64 a0_1 a1_0 t120 A410
       clear A410
       replace H := Option.bind_eq_some_iff.mp H
       obtain ⟨t121, A420, H⟩ := H
       replace H : (bindN (floatBits .add .f64 t118 t119) (some (0, 0, false)) fun t122 => (bindN (floatBits .sub .f64 t120 t121) (some (0, 0, false)) fun t123 => ((spec_l2Finite.f t122).bind fun t124 => (if t124 = true then ((spec_l2Finite.f t123).bind fun t125 => (if t125 = true then ((floatBits .quo .f64 t122 t116).bind fun t126 => ((floatBits .quo .f64 t123 t116).bind fun t127 => ((spec_l2Turn.f kj27 t126 t127).bind fun bt128 => (some (bt128.1, bt128.2.1, bt128.2.2))))) else (some (0, 0, false)))) else (some (0, 0, false)))))) = some (r1, r2, r3) := H
       have hfA42 := fun w => run_float_arith (P := Try.prog) w .mul 22 .f64 a0_0 a1_1 t121 A420
       clear A420
       replace H := bindN_open H
       rcases H with ⟨A430, H⟩ | ⟨t122, A430, H⟩
       ·have hfA43 := fun w => spec_l2Finite.runNone (P := Try.prog) w .add (by simp) 22 t118 t119 A430
        clear A430
        simp only [Option.some.injEq, Prod.mk.injEq] at H
        obtain ⟨rfl, rfl, rfl⟩ := H
        rcases A440 : floatBits .sub .f64 t120 t121 with _ | t123
        ·have hfA44 := fun w => spec_l2Finite.runNone (P := Try.prog) w .sub (by simp) 22 t120 t121 A440
         clear A440
         have hnb69 := NB109_110.out
         have hnc69 := NB110_109.out
         have hnb70 := NB109_111.out
         have hnc70 := NB111_109.out
         have hcz71_0 : wc.cell? ⟨gb109, 0, none⟩ = some (.float .f64 a0_0) := (blk_cell BK109.out 0).trans rfl
         have hcz71_1 : wc.cell? ⟨gb109, 1, none⟩ = some (.float .f64 a0_1) := (blk_cell BK109.out 1).trans rfl
         have hfz71_0 := blk_frozen BK109.out 0
         have hfz71_1 := blk_frozen BK109.out 1
         have hnb72 := NB110_111.out
         have hnc72 := NB111_110.out
         have hcz73_0 : wc.cell? ⟨gb110, 0, none⟩ = some (.float .f64 a1_0) := (blk_cell BK110.out 0).trans rfl
         have hcz73_1 : wc.cell? ⟨gb110, 1, none⟩ = some (.float .f64 a1_1) := (blk_cell BK110.out 1).trans rfl
         have hfz73_0 := blk_frozen BK110.out 0
         have hfz73_1 := blk_frozen BK110.out 1
         go_wp2_with (first | ((with_reducible refine gate_callee (f := 15) rfl ?_); refine goesL_ (some 72) rfl rfl Try.func15 (by kernel_rfl) rfl #[.float .f64 _] rfl (by (try simp only [List.map_toArray, List.map_cons, List.map_nil]); first | done | rfl | (simp only [List.length_drop, List.length_take]; rfl)) ?_; (with_reducible refine (spec_l2Finite.calls _ false _ (spec_l2Finite.nanf (spec_l2Finite.nanCut _ _ _))).mono ?_); rintro e w74 ⟨rfl, hb⟩; refine ⟨_, rfl, ?_⟩; have n0_ := Aside0.mk (blk_below (g := gb109) (o := .cells #[.float .f64 a0_0, .float .f64 a0_1] 25 (0, 0)) bkw hb); have n1_ := Aside0.mk (blk_below (g := gb110) (o := .cells #[.float .f64 a1_0, .float .f64 a1_1] 25 (0, 0)) bkw hb); have n2_ := Aside0.mk (blk_below (g := gb111) (o := .cells #[.float .f64 0, .float .f64 0] 25 (0, 0)) bkw hb); have n3_ := Aside0.mk (below_step blw hb); clear BK109; clear BK110; clear BK111; clear HB; have BK109 := n0_; have BK110 := n1_; have BK111 := n2_; have HB := n3_; clear n0_ n1_ n2_ n3_; (try clear hb); (try clear hb2); (try clear hk); (try clear hi); have hcz75_0 : w74.cell? ⟨gb111, 0, none⟩ = some (.float .f64 0) := (blk_cell BK111.out 0).trans rfl; have hcz75_1 : w74.cell? ⟨gb111, 1, none⟩ = some (.float .f64 0) := (blk_cell BK111.out 1).trans rfl; have hfz75_0 := blk_frozen BK111.out 0; have hfz75_1 := blk_frozen BK111.out 1))
         refine bodyPost_ret (results_ct rfl _ _ gb111 25 #[.float .f64 0, .float .f64 0] (0, 0) _ rfl (by (with_reducible repeat (first | refine blk_drewN ?_ _ | refine blk_drew ?_ | refine blk_alloc ?_ _)); refine blk_put (cs := #[.float .f64 0, .float .f64 0]) ?_ 1 _ rfl; (with_reducible repeat (first | refine blk_drewN ?_ _ | refine blk_drew ?_ | refine blk_alloc ?_ _)); refine blk_put (cs := #[.float .f64 0, .float .f64 0]) ?_ 0 _ rfl; (with_reducible repeat (first | refine blk_drewN ?_ _ | refine blk_drew ?_ | refine blk_alloc ?_ _)); exact BK111.out) Try.underlying25 rfl (by kernel_rfl)) rfl ?_
         exact ⟨by first | rfl | (simp [errW_none, errW_some] <;> rfl) | (simp [*, errW_none, errW_some] <;> rfl), blw⟩
        ·have hfA44 := fun w => run_float_arith (P := Try.prog) w .sub 22 .f64 t120 t121 t123 A440
         clear A440
         have hnb69 := NB109_110.out
         have hnc69 := NB110_109.out
         have hnb70 := NB109_111.out
         have hnc70 := NB111_109.out
         have hcz71_0 : wc.cell? ⟨gb109, 0, none⟩ = some (.float .f64 a0_0) := (blk_cell BK109.out 0).trans rfl
         have hcz71_1 : wc.cell? ⟨gb109, 1, none⟩ = some (.float .f64 a0_1) := (blk_cell BK109.out 1).trans rfl
         have hfz71_0 := blk_frozen BK109.out 0
         have hfz71_1 := blk_frozen BK109.out 1
         have hnb72 := NB110_111.out
         have hnc72 := NB111_110.out
         have hcz73_0 : wc.cell? ⟨gb110, 0, none⟩ = some (.float .f64 a1_0) := (blk_cell BK110.out 0).trans rfl
         have hcz73_1 : wc.cell? ⟨gb110, 1, none⟩ = some (.float .f64 a1_1) := (blk_cell BK110.out 1).trans rfl
         have hfz73_0 := blk_frozen BK110.out 0
         have hfz73_1 := blk_frozen BK110.out 1
         go_wp2_with (first | ((with_reducible refine gate_callee (f := 15) rfl ?_); refine goesL_ (some 72) rfl rfl Try.func15 (by kernel_rfl) rfl #[.float .f64 _] rfl (by (try simp only [List.map_toArray, List.map_cons, List.map_nil]); first | done | rfl | (simp only [List.length_drop, List.length_take]; rfl)) ?_; (with_reducible refine (spec_l2Finite.calls _ false _ (spec_l2Finite.nanf (spec_l2Finite.nanCut _ _ _))).mono ?_); rintro e w74 ⟨rfl, hb⟩; refine ⟨_, rfl, ?_⟩; have n0_ := Aside0.mk (blk_below (g := gb109) (o := .cells #[.float .f64 a0_0, .float .f64 a0_1] 25 (0, 0)) bkw hb); have n1_ := Aside0.mk (blk_below (g := gb110) (o := .cells #[.float .f64 a1_0, .float .f64 a1_1] 25 (0, 0)) bkw hb); have n2_ := Aside0.mk (blk_below (g := gb111) (o := .cells #[.float .f64 0, .float .f64 0] 25 (0, 0)) bkw hb); have n3_ := Aside0.mk (below_step blw hb); clear BK109; clear BK110; clear BK111; clear HB; have BK109 := n0_; have BK110 := n1_; have BK111 := n2_; have HB := n3_; clear n0_ n1_ n2_ n3_; (try clear hb); (try clear hb2); (try clear hk); (try clear hi); have hcz75_0 : w74.cell? ⟨gb111, 0, none⟩ = some (.float .f64 0) := (blk_cell BK111.out 0).trans rfl; have hcz75_1 : w74.cell? ⟨gb111, 1, none⟩ = some (.float .f64 0) := (blk_cell BK111.out 1).trans rfl; have hfz75_0 := blk_frozen BK111.out 0; have hfz75_1 := blk_frozen BK111.out 1))
         refine bodyPost_ret (results_ct rfl _ _ gb111 25 #[.float .f64 0, .float .f64 0] (0, 0) _ rfl (by (with_reducible repeat (first | refine blk_drewN ?_ _ | refine blk_drew ?_ | refine blk_alloc ?_ _)); refine blk_put (cs := #[.float .f64 0, .float .f64 0]) ?_ 1 _ rfl; (with_reducible repeat (first | refine blk_drewN ?_ _ | refine blk_drew ?_ | refine blk_alloc ?_ _)); refine blk_put (cs := #[.float .f64 0, .float .f64 0]) ?_ 0 _ rfl; (with_reducible repeat (first | refine blk_drewN ?_ _ | refine blk_drew ?_ | refine blk_alloc ?_ _)); exact BK111.out) Try.underlying25 rfl (by kernel_rfl)) rfl ?_
         exact ⟨by first | rfl | (simp [errW_none, errW_some] <;> rfl) | (simp [*, errW_none, errW_some] <;> rfl), blw⟩
       ·replace H : (bindN (floatBits .sub .f64 t120 t121) (some (0, 0, false)) fun t123 => ((spec_l2Finite.f t122).bind fun t124 => (if t124 = true then ((spec_l2Finite.f t123).bind fun t125 => (if t125 = true then ((floatBits .quo .f64 t122 t116).bind fun t126 => ((floatBits .quo .f64 t123 t116).bind fun t127 => ((spec_l2Turn.f kj27 t126 t127).bind fun bt128 => (some (bt128.1, bt128.2.1, bt128.2.2))))) else (some (0, 0, false)))) else (some (0, 0, false))))) = some (r1, r2, r3) := H
        have hfA43 := fun w => run_float_arith (P := Try.prog) w .add 22 .f64 t118 t119 t122 A430
        clear A430
        replace H := bindN_open H
        rcases H with ⟨A440, H⟩ | ⟨t123, A440, H⟩
        ·have hfA44 := fun w => spec_l2Finite.runNone (P := Try.prog) w .sub (by simp) 22 t120 t121 A440
         clear A440
         simp only [Option.some.injEq, Prod.mk.injEq] at H
         obtain ⟨rfl, rfl, rfl⟩ := H
         obtain ⟨t124, A450⟩ : ∃ b_, spec_l2Finite.f t122 = some b_ := ⟨_, rfl⟩
         have A45 := Aside0.mk A450
         clear A450
         by_cases cf_ : t124 = true
         ·subst cf_
          have hnb61 := NB109_110.out
          have hnc61 := NB110_109.out
          have hnb62 := NB109_111.out
          have hnc62 := NB111_109.out
          have hcz63_0 : wc.cell? ⟨gb109, 0, none⟩ = some (.float .f64 a0_0) := (blk_cell BK109.out 0).trans rfl
          have hcz63_1 : wc.cell? ⟨gb109, 1, none⟩ = some (.float .f64 a0_1) := (blk_cell BK109.out 1).trans rfl
          have hfz63_0 := blk_frozen BK109.out 0
          have hfz63_1 := blk_frozen BK109.out 1
          have hnb64 := NB110_111.out
          have hnc64 := NB111_110.out
          have hcz65_0 : wc.cell? ⟨gb110, 0, none⟩ = some (.float .f64 a1_0) := (blk_cell BK110.out 0).trans rfl
          have hcz65_1 : wc.cell? ⟨gb110, 1, none⟩ = some (.float .f64 a1_1) := (blk_cell BK110.out 1).trans rfl
          have hfz65_0 := blk_frozen BK110.out 0
          have hfz65_1 := blk_frozen BK110.out 1
          go_wp2_with (first | ((with_reducible refine gate_callee (f := 15) rfl ?_); refine goesL_ (some 72) rfl rfl Try.func15 (by kernel_rfl) rfl #[.float .f64 t122] rfl (by (try simp only [List.map_toArray, List.map_cons, List.map_nil]); first | done | rfl | (simp only [List.length_drop, List.length_take]; rfl)) ?_; (with_reducible refine (spec_l2Finite.calls t122 true _ A45.out).mono ?_); rintro e w66 ⟨rfl, hb⟩; refine ⟨_, rfl, ?_⟩; have n0_ := Aside0.mk (blk_below (g := gb109) (o := .cells #[.float .f64 a0_0, .float .f64 a0_1] 25 (0, 0)) bkw hb); have n1_ := Aside0.mk (blk_below (g := gb110) (o := .cells #[.float .f64 a1_0, .float .f64 a1_1] 25 (0, 0)) bkw hb); have n2_ := Aside0.mk (blk_below (g := gb111) (o := .cells #[.float .f64 0, .float .f64 0] 25 (0, 0)) bkw hb); have n3_ := Aside0.mk (below_step blw hb); clear BK109; clear BK110; clear BK111; clear HB; have BK109 := n0_; have BK110 := n1_; have BK111 := n2_; have HB := n3_; clear n0_ n1_ n2_ n3_; (try clear hb); (try clear hb2); (try clear hk); (try clear hi)) | (go_at_call 15; (with_reducible refine (spec_l2Finite.calls _ false _ (spec_l2Finite.nanf (spec_l2Finite.nanCut _ _ _))).mono ?_); rintro e w67 ⟨rfl, hb⟩; have n0_ := Aside0.mk (blk_below (g := gb109) (o := .cells #[.float .f64 a0_0, .float .f64 a0_1] 25 (0, 0)) bkw hb); have n1_ := Aside0.mk (blk_below (g := gb110) (o := .cells #[.float .f64 a1_0, .float .f64 a1_1] 25 (0, 0)) bkw hb); have n2_ := Aside0.mk (blk_below (g := gb111) (o := .cells #[.float .f64 0, .float .f64 0] 25 (0, 0)) bkw hb); have n3_ := Aside0.mk (below_step blw hb); clear BK109; clear BK110; clear BK111; clear HB; have BK109 := n0_; have BK110 := n1_; have BK111 := n2_; have HB := n3_; clear n0_ n1_ n2_ n3_; (try clear hb); (try clear hb2); (try clear hk); (try clear hi); have hcz68_0 : w67.cell? ⟨gb111, 0, none⟩ = some (.float .f64 0) := (blk_cell BK111.out 0).trans rfl; have hcz68_1 : w67.cell? ⟨gb111, 1, none⟩ = some (.float .f64 0) := (blk_cell BK111.out 1).trans rfl; have hfz68_0 := blk_frozen BK111.out 0; have hfz68_1 := blk_frozen BK111.out 1))
          refine bodyPost_ret (results_ct rfl _ _ gb111 25 #[.float .f64 0, .float .f64 0] (0, 0) _ rfl (by (with_reducible repeat (first | refine blk_drewN ?_ _ | refine blk_drew ?_ | refine blk_alloc ?_ _)); refine blk_put (cs := #[.float .f64 0, .float .f64 0]) ?_ 1 _ rfl; (with_reducible repeat (first | refine blk_drewN ?_ _ | refine blk_drew ?_ | refine blk_alloc ?_ _)); refine blk_put (cs := #[.float .f64 0, .float .f64 0]) ?_ 0 _ rfl; (with_reducible repeat (first | refine blk_drewN ?_ _ | refine blk_drew ?_ | refine blk_alloc ?_ _)); exact BK111.out) Try.underlying25 rfl (by kernel_rfl)) rfl ?_
          exact ⟨by first | rfl | (simp [errW_none, errW_some] <;> rfl) | (simp [*, errW_none, errW_some] <;> rfl), blw⟩
         ·replace cf_ := Bool.eq_false_iff.mpr cf_
          subst cf_
          have hnb69 := NB109_110.out
          have hnc69 := NB110_109.out
          have hnb70 := NB109_111.out
          have hnc70 := NB111_109.out
          have hcz71_0 : wc.cell? ⟨gb109, 0, none⟩ = some (.float .f64 a0_0) := (blk_cell BK109.out 0).trans rfl
          have hcz71_1 : wc.cell? ⟨gb109, 1, none⟩ = some (.float .f64 a0_1) := (blk_cell BK109.out 1).trans rfl
          have hfz71_0 := blk_frozen BK109.out 0
          have hfz71_1 := blk_frozen BK109.out 1
          have hnb72 := NB110_111.out
          have hnc72 := NB111_110.out
          have hcz73_0 : wc.cell? ⟨gb110, 0, none⟩ = some (.float .f64 a1_0) := (blk_cell BK110.out 0).trans rfl
          have hcz73_1 : wc.cell? ⟨gb110, 1, none⟩ = some (.float .f64 a1_1) := (blk_cell BK110.out 1).trans rfl
          have hfz73_0 := blk_frozen BK110.out 0
          have hfz73_1 := blk_frozen BK110.out 1
          go_wp2_with (first | ((with_reducible refine gate_callee (f := 15) rfl ?_); refine goesL_ (some 72) rfl rfl Try.func15 (by kernel_rfl) rfl #[.float .f64 t122] rfl (by (try simp only [List.map_toArray, List.map_cons, List.map_nil]); first | done | rfl | (simp only [List.length_drop, List.length_take]; rfl)) ?_; (with_reducible refine (spec_l2Finite.calls t122 false _ A45.out).mono ?_); rintro e w74 ⟨rfl, hb⟩; refine ⟨_, rfl, ?_⟩; have n0_ := Aside0.mk (blk_below (g := gb109) (o := .cells #[.float .f64 a0_0, .float .f64 a0_1] 25 (0, 0)) bkw hb); have n1_ := Aside0.mk (blk_below (g := gb110) (o := .cells #[.float .f64 a1_0, .float .f64 a1_1] 25 (0, 0)) bkw hb); have n2_ := Aside0.mk (blk_below (g := gb111) (o := .cells #[.float .f64 0, .float .f64 0] 25 (0, 0)) bkw hb); have n3_ := Aside0.mk (below_step blw hb); clear BK109; clear BK110; clear BK111; clear HB; have BK109 := n0_; have BK110 := n1_; have BK111 := n2_; have HB := n3_; clear n0_ n1_ n2_ n3_; (try clear hb); (try clear hb2); (try clear hk); (try clear hi); have hcz75_0 : w74.cell? ⟨gb111, 0, none⟩ = some (.float .f64 0) := (blk_cell BK111.out 0).trans rfl; have hcz75_1 : w74.cell? ⟨gb111, 1, none⟩ = some (.float .f64 0) := (blk_cell BK111.out 1).trans rfl; have hfz75_0 := blk_frozen BK111.out 0; have hfz75_1 := blk_frozen BK111.out 1))
          refine bodyPost_ret (results_ct rfl _ _ gb111 25 #[.float .f64 0, .float .f64 0] (0, 0) _ rfl (by (with_reducible repeat (first | refine blk_drewN ?_ _ | refine blk_drew ?_ | refine blk_alloc ?_ _)); refine blk_put (cs := #[.float .f64 0, .float .f64 0]) ?_ 1 _ rfl; (with_reducible repeat (first | refine blk_drewN ?_ _ | refine blk_drew ?_ | refine blk_alloc ?_ _)); refine blk_put (cs := #[.float .f64 0, .float .f64 0]) ?_ 0 _ rfl; (with_reducible repeat (first | refine blk_drewN ?_ _ | refine blk_drew ?_ | refine blk_alloc ?_ _)); exact BK111.out) Try.underlying25 rfl (by kernel_rfl)) rfl ?_
          exact ⟨by first | rfl | (simp [errW_none, errW_some] <;> rfl) | (simp [*, errW_none, errW_some] <;> rfl), blw⟩
        ·replace H : ((spec_l2Finite.f t122).bind fun t124 => (if t124 = true then ((spec_l2Finite.f t123).bind fun t125 => (if t125 = true then ((floatBits .quo .f64 t122 t116).bind fun t126 => ((floatBits .quo .f64 t123 t116).bind fun t127 => ((spec_l2Turn.f kj27 t126 t127).bind fun bt128 => (some (bt128.1, bt128.2.1, bt128.2.2))))) else (some (0, 0, false)))) else (some (0, 0, false)))) = some (r1, r2, r3) := H
         have hfA44 := fun w => run_float_arith (P := Try.prog) w .sub 22 .f64 t120 t121 t123 A440
         clear A440
         replace H := Option.bind_eq_some_iff.mp H
         obtain ⟨t124, A450, H⟩ := H
         replace H : (if t124 = true then ((spec_l2Finite.f t123).bind fun t125 => (if t125 = true then ((floatBits .quo .f64 t122 t116).bind fun t126 => ((floatBits .quo .f64 t123 t116).bind fun t127 => ((spec_l2Turn.f kj27 t126 t127).bind fun bt128 => (some (bt128.1, bt128.2.1, bt128.2.2))))) else (some (0, 0, false)))) else (some (0, 0, false))) = some (r1, r2, r3) := H
         have A45 := Aside0.mk A450
         clear A450
         by_cases c46 : t124 = true
         ·subst c46
          have H1 : ((spec_l2Finite.f t123).bind fun t125 => (if t125 = true then ((floatBits .quo .f64 t122 t116).bind fun t126 => ((floatBits .quo .f64 t123 t116).bind fun t127 => ((spec_l2Turn.f kj27 t126 t127).bind fun bt128 => (some (bt128.1, bt128.2.1, bt128.2.2))))) else (some (0, 0, false)))) = some (r1, r2, r3) := by rw [if_pos rfl] at H; exact H
          clear H
          have H := H1
          clear H1
          replace H := Option.bind_eq_some_iff.mp H
          obtain ⟨t125, A470, H⟩ := H
          replace H : (if t125 = true then ((floatBits .quo .f64 t122 t116).bind fun t126 => ((floatBits .quo .f64 t123 t116).bind fun t127 => ((spec_l2Turn.f kj27 t126 t127).bind fun bt128 => (some (bt128.1, bt128.2.1, bt128.2.2))))) else (some (0, 0, false))) = some (r1, r2, r3) := H
          have A47 := Aside0.mk A470
          clear A470
          by_cases c48 : t125 = true
          ·subst c48
           have H1 : ((floatBits .quo .f64 t122 t116).bind fun t126 => ((floatBits .quo .f64 t123 t116).bind fun t127 => ((spec_l2Turn.f kj27 t126 t127).bind fun bt128 => (some (bt128.1, bt128.2.1, bt128.2.2))))) = some (r1, r2, r3) := by rw [if_pos rfl] at H; exact H
           clear H
           have H := H1
           clear H1
           replace H := Option.bind_eq_some_iff.mp H
           obtain ⟨t126, A490, H⟩ := H
           replace H : ((floatBits .quo .f64 t123 t116).bind fun t127 => ((spec_l2Turn.f kj27 t126 t127).bind fun bt128 => (some (bt128.1, bt128.2.1, bt128.2.2)))) = some (r1, r2, r3) := H
           have hfA49 := fun w => run_float_arith (P := Try.prog) w .quo 22 .f64 t122 t116 t126 A490
           clear A490
           replace H := Option.bind_eq_some_iff.mp H
           obtain ⟨t127, A500, H⟩ := H
           replace H : ((spec_l2Turn.f kj27 t126 t127).bind fun bt128 => (some (bt128.1, bt128.2.1, bt128.2.2))) = some (r1, r2, r3) := H
           have hfA50 := fun w => run_float_arith (P := Try.prog) w .quo 22 .f64 t123 t116 t127 A500
           clear A500
           replace H := Option.bind_eq_some_iff.mp H
           obtain ⟨⟨t128, t129, t130⟩, A510, H⟩ := H
           replace H : (some (t128, t129, t130)) = some (r1, r2, r3) := H
           have A51 := Aside0.mk A510
           clear A510
           simp only [Option.some.injEq, Prod.mk.injEq] at H
           obtain ⟨rfl, rfl, rfl⟩ := H
           have hnb52 := NB109_110.out
           have hnc52 := NB110_109.out
           have hnb53 := NB109_111.out
           have hnc53 := NB111_109.out
           have hcz54_0 : wc.cell? ⟨gb109, 0, none⟩ = some (.float .f64 a0_0) := (blk_cell BK109.out 0).trans rfl
           have hcz54_1 : wc.cell? ⟨gb109, 1, none⟩ = some (.float .f64 a0_1) := (blk_cell BK109.out 1).trans rfl
           have hfz54_0 := blk_frozen BK109.out 0
           have hfz54_1 := blk_frozen BK109.out 1
           have hnb55 := NB110_111.out
           have hnc55 := NB111_110.out
           have hcz56_0 : wc.cell? ⟨gb110, 0, none⟩ = some (.float .f64 a1_0) := (blk_cell BK110.out 0).trans rfl
           have hcz56_1 : wc.cell? ⟨gb110, 1, none⟩ = some (.float .f64 a1_1) := (blk_cell BK110.out 1).trans rfl
           have hfz56_0 := blk_frozen BK110.out 0
           have hfz56_1 := blk_frozen BK110.out 1
           go_wp2_with (first | ((with_reducible refine gate_callee (f := 15) rfl ?_); refine goesL_ (some 72) rfl rfl Try.func15 (by kernel_rfl) rfl #[.float .f64 t122] rfl (by (try simp only [List.map_toArray, List.map_cons, List.map_nil]); first | done | rfl | (simp only [List.length_drop, List.length_take]; rfl)) ?_; (with_reducible refine (spec_l2Finite.calls t122 true _ A45.out).mono ?_); rintro e w57 ⟨rfl, hb⟩; refine ⟨_, rfl, ?_⟩; have n0_ := Aside0.mk (blk_below (g := gb109) (o := .cells #[.float .f64 a0_0, .float .f64 a0_1] 25 (0, 0)) bkw hb); have n1_ := Aside0.mk (blk_below (g := gb110) (o := .cells #[.float .f64 a1_0, .float .f64 a1_1] 25 (0, 0)) bkw hb); have n2_ := Aside0.mk (blk_below (g := gb111) (o := .cells #[.float .f64 0, .float .f64 0] 25 (0, 0)) bkw hb); have n3_ := Aside0.mk (below_step blw hb); clear BK109; clear BK110; clear BK111; clear HB; have BK109 := n0_; have BK110 := n1_; have BK111 := n2_; have HB := n3_; clear n0_ n1_ n2_ n3_; (try clear hb); (try clear hb2); (try clear hk); (try clear hi)) | (go_at_call 15; (with_reducible refine (spec_l2Finite.calls t123 true _ A47.out).mono ?_); rintro e w58 ⟨rfl, hb⟩; have n0_ := Aside0.mk (blk_below (g := gb109) (o := .cells #[.float .f64 a0_0, .float .f64 a0_1] 25 (0, 0)) bkw hb); have n1_ := Aside0.mk (blk_below (g := gb110) (o := .cells #[.float .f64 a1_0, .float .f64 a1_1] 25 (0, 0)) bkw hb); have n2_ := Aside0.mk (blk_below (g := gb111) (o := .cells #[.float .f64 0, .float .f64 0] 25 (0, 0)) bkw hb); have n3_ := Aside0.mk (below_step blw hb); clear BK109; clear BK110; clear BK111; clear HB; have BK109 := n0_; have BK110 := n1_; have BK111 := n2_; have HB := n3_; clear n0_ n1_ n2_ n3_; (try clear hb); (try clear hb2); (try clear hk); (try clear hi)) | ((with_reducible refine gate_callee (f := 16) rfl ?_); refine goesL_ (some 86) rfl rfl Try.func16 (by kernel_rfl) rfl #[.float .f64 t126, .float .f64 t127] rfl (by (try simp only [List.map_toArray, List.map_cons, List.map_nil]); first | done | rfl | (simp only [List.length_drop, List.length_take]; rfl)) ?_; (with_reducible refine (spec_l2Turn.calls kj27 t126 t127 t128 t129 t130 _ A51.out).mono ?_); rintro e w59 ⟨rfl, hb⟩; refine ⟨_, rfl, ?_⟩; have n0_ := Aside0.mk (blk_below (g := gb109) (o := .cells #[.float .f64 a0_0, .float .f64 a0_1] 25 (0, 0)) bkw hb); have n1_ := Aside0.mk (blk_below (g := gb110) (o := .cells #[.float .f64 a1_0, .float .f64 a1_1] 25 (0, 0)) bkw hb); have n2_ := Aside0.mk (blk_below (g := gb111) (o := .cells #[.float .f64 0, .float .f64 0] 25 (0, 0)) bkw hb); have n3_ := Aside0.mk (below_step blw hb); clear BK109; clear BK110; clear BK111; clear HB; have BK109 := n0_; have BK110 := n1_; have BK111 := n2_; have HB := n3_; clear n0_ n1_ n2_ n3_; (try clear hb); (try clear hb2); (try clear hk); (try clear hi); have hcz60_0 : w59.cell? ⟨gb111, 0, none⟩ = some (.float .f64 0) := (blk_cell BK111.out 0).trans rfl; have hcz60_1 : w59.cell? ⟨gb111, 1, none⟩ = some (.float .f64 0) := (blk_cell BK111.out 1).trans rfl; have hfz60_0 := blk_frozen BK111.out 0; have hfz60_1 := blk_frozen BK111.out 1))
           refine bodyPost_ret (results_ct rfl _ _ gb111 25 #[.float .f64 t128, .float .f64 t129] (0, 0) _ rfl (by (with_reducible repeat (first | refine blk_drewN ?_ _ | refine blk_drew ?_ | refine blk_alloc ?_ _)); refine blk_put (cs := #[.float .f64 t128, .float .f64 0]) ?_ 1 _ rfl; (with_reducible repeat (first | refine blk_drewN ?_ _ | refine blk_drew ?_ | refine blk_alloc ?_ _)); refine blk_put (cs := #[.float .f64 0, .float .f64 0]) ?_ 0 _ rfl; (with_reducible repeat (first | refine blk_drewN ?_ _ | refine blk_drew ?_ | refine blk_alloc ?_ _)); exact BK111.out) Try.underlying25 rfl (by kernel_rfl)) rfl ?_
           exact ⟨by first | rfl | (simp [errW_none, errW_some] <;> rfl) | (simp [*, errW_none, errW_some] <;> rfl), blw⟩
          ·replace c48 := Bool.eq_false_iff.mpr c48
           subst c48
           have H1 : (some (0, 0, false)) = some (r1, r2, r3) := by rw [if_neg (show ¬ (false = true) by decide)] at H; exact H
           clear H
           have H := H1
           clear H1
           simp only [Option.some.injEq, Prod.mk.injEq] at H
           obtain ⟨rfl, rfl, rfl⟩ := H
           have hnb61 := NB109_110.out
           have hnc61 := NB110_109.out
           have hnb62 := NB109_111.out
           have hnc62 := NB111_109.out
           have hcz63_0 : wc.cell? ⟨gb109, 0, none⟩ = some (.float .f64 a0_0) := (blk_cell BK109.out 0).trans rfl
           have hcz63_1 : wc.cell? ⟨gb109, 1, none⟩ = some (.float .f64 a0_1) := (blk_cell BK109.out 1).trans rfl
           have hfz63_0 := blk_frozen BK109.out 0
           have hfz63_1 := blk_frozen BK109.out 1
           have hnb64 := NB110_111.out
           have hnc64 := NB111_110.out
           have hcz65_0 : wc.cell? ⟨gb110, 0, none⟩ = some (.float .f64 a1_0) := (blk_cell BK110.out 0).trans rfl
           have hcz65_1 : wc.cell? ⟨gb110, 1, none⟩ = some (.float .f64 a1_1) := (blk_cell BK110.out 1).trans rfl
           have hfz65_0 := blk_frozen BK110.out 0
           have hfz65_1 := blk_frozen BK110.out 1
           go_wp2_with (first | ((with_reducible refine gate_callee (f := 15) rfl ?_); refine goesL_ (some 72) rfl rfl Try.func15 (by kernel_rfl) rfl #[.float .f64 t122] rfl (by (try simp only [List.map_toArray, List.map_cons, List.map_nil]); first | done | rfl | (simp only [List.length_drop, List.length_take]; rfl)) ?_; (with_reducible refine (spec_l2Finite.calls t122 true _ A45.out).mono ?_); rintro e w66 ⟨rfl, hb⟩; refine ⟨_, rfl, ?_⟩; have n0_ := Aside0.mk (blk_below (g := gb109) (o := .cells #[.float .f64 a0_0, .float .f64 a0_1] 25 (0, 0)) bkw hb); have n1_ := Aside0.mk (blk_below (g := gb110) (o := .cells #[.float .f64 a1_0, .float .f64 a1_1] 25 (0, 0)) bkw hb); have n2_ := Aside0.mk (blk_below (g := gb111) (o := .cells #[.float .f64 0, .float .f64 0] 25 (0, 0)) bkw hb); have n3_ := Aside0.mk (below_step blw hb); clear BK109; clear BK110; clear BK111; clear HB; have BK109 := n0_; have BK110 := n1_; have BK111 := n2_; have HB := n3_; clear n0_ n1_ n2_ n3_; (try clear hb); (try clear hb2); (try clear hk); (try clear hi)) | (go_at_call 15; (with_reducible refine (spec_l2Finite.calls t123 false _ A47.out).mono ?_); rintro e w67 ⟨rfl, hb⟩; have n0_ := Aside0.mk (blk_below (g := gb109) (o := .cells #[.float .f64 a0_0, .float .f64 a0_1] 25 (0, 0)) bkw hb); have n1_ := Aside0.mk (blk_below (g := gb110) (o := .cells #[.float .f64 a1_0, .float .f64 a1_1] 25 (0, 0)) bkw hb); have n2_ := Aside0.mk (blk_below (g := gb111) (o := .cells #[.float .f64 0, .float .f64 0] 25 (0, 0)) bkw hb); have n3_ := Aside0.mk (below_step blw hb); clear BK109; clear BK110; clear BK111; clear HB; have BK109 := n0_; have BK110 := n1_; have BK111 := n2_; have HB := n3_; clear n0_ n1_ n2_ n3_; (try clear hb); (try clear hb2); (try clear hk); (try clear hi); have hcz68_0 : w67.cell? ⟨gb111, 0, none⟩ = some (.float .f64 0) := (blk_cell BK111.out 0).trans rfl; have hcz68_1 : w67.cell? ⟨gb111, 1, none⟩ = some (.float .f64 0) := (blk_cell BK111.out 1).trans rfl; have hfz68_0 := blk_frozen BK111.out 0; have hfz68_1 := blk_frozen BK111.out 1))
           refine bodyPost_ret (results_ct rfl _ _ gb111 25 #[.float .f64 0, .float .f64 0] (0, 0) _ rfl (by (with_reducible repeat (first | refine blk_drewN ?_ _ | refine blk_drew ?_ | refine blk_alloc ?_ _)); refine blk_put (cs := #[.float .f64 0, .float .f64 0]) ?_ 1 _ rfl; (with_reducible repeat (first | refine blk_drewN ?_ _ | refine blk_drew ?_ | refine blk_alloc ?_ _)); refine blk_put (cs := #[.float .f64 0, .float .f64 0]) ?_ 0 _ rfl; (with_reducible repeat (first | refine blk_drewN ?_ _ | refine blk_drew ?_ | refine blk_alloc ?_ _)); exact BK111.out) Try.underlying25 rfl (by kernel_rfl)) rfl ?_
           exact ⟨by first | rfl | (simp [errW_none, errW_some] <;> rfl) | (simp [*, errW_none, errW_some] <;> rfl), blw⟩
         ·replace c46 := Bool.eq_false_iff.mpr c46
          subst c46
          have H1 : (some (0, 0, false)) = some (r1, r2, r3) := by rw [if_neg (show ¬ (false = true) by decide)] at H; exact H
          clear H
          have H := H1
          clear H1
          simp only [Option.some.injEq, Prod.mk.injEq] at H
          obtain ⟨rfl, rfl, rfl⟩ := H
          have hnb69 := NB109_110.out
          have hnc69 := NB110_109.out
          have hnb70 := NB109_111.out
          have hnc70 := NB111_109.out
          have hcz71_0 : wc.cell? ⟨gb109, 0, none⟩ = some (.float .f64 a0_0) := (blk_cell BK109.out 0).trans rfl
          have hcz71_1 : wc.cell? ⟨gb109, 1, none⟩ = some (.float .f64 a0_1) := (blk_cell BK109.out 1).trans rfl
          have hfz71_0 := blk_frozen BK109.out 0
          have hfz71_1 := blk_frozen BK109.out 1
          have hnb72 := NB110_111.out
          have hnc72 := NB111_110.out
          have hcz73_0 : wc.cell? ⟨gb110, 0, none⟩ = some (.float .f64 a1_0) := (blk_cell BK110.out 0).trans rfl
          have hcz73_1 : wc.cell? ⟨gb110, 1, none⟩ = some (.float .f64 a1_1) := (blk_cell BK110.out 1).trans rfl
          have hfz73_0 := blk_frozen BK110.out 0
          have hfz73_1 := blk_frozen BK110.out 1
          go_wp2_with (first | ((with_reducible refine gate_callee (f := 15) rfl ?_); refine goesL_ (some 72) rfl rfl Try.func15 (by kernel_rfl) rfl #[.float .f64 t122] rfl (by (try simp only [List.map_toArray, List.map_cons, List.map_nil]); first | done | rfl | (simp only [List.length_drop, List.length_take]; rfl)) ?_; (with_reducible refine (spec_l2Finite.calls t122 false _ A45.out).mono ?_); rintro e w74 ⟨rfl, hb⟩; refine ⟨_, rfl, ?_⟩; have n0_ := Aside0.mk (blk_below (g := gb109) (o := .cells #[.float .f64 a0_0, .float .f64 a0_1] 25 (0, 0)) bkw hb); have n1_ := Aside0.mk (blk_below (g := gb110) (o := .cells #[.float .f64 a1_0, .float .f64 a1_1] 25 (0, 0)) bkw hb); have n2_ := Aside0.mk (blk_below (g := gb111) (o := .cells #[.float .f64 0, .float .f64 0] 25 (0, 0)) bkw hb); have n3_ := Aside0.mk (below_step blw hb); clear BK109; clear BK110; clear BK111; clear HB; have BK109 := n0_; have BK110 := n1_; have BK111 := n2_; have HB := n3_; clear n0_ n1_ n2_ n3_; (try clear hb); (try clear hb2); (try clear hk); (try clear hi); have hcz75_0 : w74.cell? ⟨gb111, 0, none⟩ = some (.float .f64 0) := (blk_cell BK111.out 0).trans rfl; have hcz75_1 : w74.cell? ⟨gb111, 1, none⟩ = some (.float .f64 0) := (blk_cell BK111.out 1).trans rfl; have hfz75_0 := blk_frozen BK111.out 0; have hfz75_1 := blk_frozen BK111.out 1))
          refine bodyPost_ret (results_ct rfl _ _ gb111 25 #[.float .f64 0, .float .f64 0] (0, 0) _ rfl (by (with_reducible repeat (first | refine blk_drewN ?_ _ | refine blk_drew ?_ | refine blk_alloc ?_ _)); refine blk_put (cs := #[.float .f64 0, .float .f64 0]) ?_ 1 _ rfl; (with_reducible repeat (first | refine blk_drewN ?_ _ | refine blk_drew ?_ | refine blk_alloc ?_ _)); refine blk_put (cs := #[.float .f64 0, .float .f64 0]) ?_ 0 _ rfl; (with_reducible repeat (first | refine blk_drewN ?_ _ | refine blk_drew ?_ | refine blk_alloc ?_ _)); exact BK111.out) Try.underlying25 rfl (by kernel_rfl)) rfl ?_
          exact ⟨by first | rfl | (simp [errW_none, errW_some] <;> rfl) | (simp [*, errW_none, errW_some] <;> rfl), blw⟩

/-! ### laws_toTurn: function 6 -/
def laws_toTurn.f (a0_0 : Nat) (a0_1 : Nat) : Option (Nat × Nat) := some (a0_0, a0_1)
set_option maxHeartbeats 8000000 in
set_option maxRecDepth 100000 in
theorem laws_toTurn.calls (a0_0 : Nat) (a0_1 : Nat) (r1 : Nat) (r2 : Nat) (w : World) (h : laws_toTurn.f a0_0 a0_1 = some (r1, r2)) :
  Calls Try.prog 6 #[.agg #[.float .f64 a0_0, .float .f64 a0_1]] w fun e w' => e = .returned (.agg #[.float .f64 r1, .float .f64 r2]) ∧ Below w.heap.size w w' := by
 have hu24 := Try.underlying24
 have hu25 := Try.underlying25
 have HB := Aside0.mk (Below.refl w.heap.size w)
 have hsf_ : ∀ (w_ : World) (a_ : Addr) (x_ : Nat), Sem.run Try.prog (store a_ (.float .f64 x_)) w_ = stored Try.prog w_ a_ (.float .f64 x_) .plain := fun w_ a_ x_ => run_store Try.prog w_ a_ _ .plain rfl
 have H : (some (a0_0, a0_1)) = some (r1, r2) := h
 clear h
 simp only [Option.some.injEq, Prod.mk.injEq] at H
 obtain ⟨rfl, rfl⟩ := H
 go_enter Try.func6, Try.ntmps6
 go_wp2_with (first | ((with_reducible refine gate_dst (N := 1) rfl ?_); refine box_event ?hg (N := 1) ?hd (cs := #[.float .f64 a0_0, .float .f64 a0_1]) (t := 24) ?hr ?_; (case hd => rfl); (case hg => rfl); (case hr => first | (go_simp; done) | (go_simp; rfl)); intro gb131 hg w2 hbox hb; have n0_ := Aside0.mk (below_step blw hb); have n1_ := Aside0.mk (hbox); have n2_ := Aside0.mk ((by rw [hg]; exact (below_size blw) : w.heap.size ≤ gb131)); have n3_ := Aside0.mk ((by rw [hg]; exact (below_size blw) : w.heap.size ≤ gb131)); clear HB; have HB := n0_; have BK131 := n1_; have GW131 := n2_; have GE131 := n3_; clear n0_ n1_ n2_ n3_; clear hb hbox hg) | ((with_reducible refine gate_dst (N := 2) rfl ?_); refine box_event ?hg (N := 2) ?hd (cs := #[.float .f64 0, .float .f64 0]) (t := 25) ?hr ?_; (case hd => rfl); (case hg => rfl); (case hr => first | (go_simp; done) | (go_simp; rfl)); intro gb132 hg w3 hbox hb; have n0_ := Aside0.mk (blk_below (g := gb131) (o := .cells #[.float .f64 a0_0, .float .f64 a0_1] 24 (0, 0)) bkw hb); have n1_ := Aside0.mk (below_step blw hb); have n2_ := Aside0.mk (hbox); have n3_ := Aside0.mk ((by rw [hg]; exact (below_size blw) : w.heap.size ≤ gb132)); have n4_ := Aside0.mk ((by rw [hg]; exact (below_size blw) : w.heap.size ≤ gb132)); have n5_ := Aside0.mk ((by rw [hg]; exact Nat.ne_of_lt (blk_lt (g := gb131) (o := .cells #[.float .f64 a0_0, .float .f64 a0_1] 24 (0, 0)) bkw) : gb131 ≠ gb132)); have n6_ := Aside0.mk ((by rw [hg]; exact Nat.ne_of_gt (blk_lt (g := gb131) (o := .cells #[.float .f64 a0_0, .float .f64 a0_1] 24 (0, 0)) bkw) : gb132 ≠ gb131)); clear BK131; clear HB; have BK131 := n0_; have HB := n1_; have BK132 := n2_; have GW132 := n3_; have GE132 := n4_; have NB131_132 := n5_; have NB132_131 := n6_; clear n0_ n1_ n2_ n3_ n4_ n5_ n6_; clear hb hbox hg) | ((with_reducible refine gate_dst (N := 3) rfl ?_); refine box_event ?hg (N := 3) ?hd (cs := #[.float .f64 0, .float .f64 0]) (t := 25) ?hr ?_; (case hd => rfl); (case hg => rfl); (case hr => first | (go_simp; done) | (go_simp; rfl)); intro gb133 hg w4 hbox hb; have n0_ := Aside0.mk (blk_below (g := gb131) (o := .cells #[.float .f64 a0_0, .float .f64 a0_1] 24 (0, 0)) bkw hb); have n1_ := Aside0.mk (blk_below (g := gb132) (o := .cells #[.float .f64 0, .float .f64 0] 25 (0, 0)) bkw hb); have n2_ := Aside0.mk (below_step blw hb); have n3_ := Aside0.mk (hbox); have n4_ := Aside0.mk ((by rw [hg]; exact (below_size blw) : w.heap.size ≤ gb133)); have n5_ := Aside0.mk ((by rw [hg]; exact (below_size blw) : w.heap.size ≤ gb133)); have n6_ := Aside0.mk ((by rw [hg]; exact Nat.ne_of_lt (blk_lt (g := gb131) (o := .cells #[.float .f64 a0_0, .float .f64 a0_1] 24 (0, 0)) bkw) : gb131 ≠ gb133)); have n7_ := Aside0.mk ((by rw [hg]; exact Nat.ne_of_gt (blk_lt (g := gb131) (o := .cells #[.float .f64 a0_0, .float .f64 a0_1] 24 (0, 0)) bkw) : gb133 ≠ gb131)); have n8_ := Aside0.mk ((by rw [hg]; exact Nat.ne_of_lt (blk_lt (g := gb132) (o := .cells #[.float .f64 0, .float .f64 0] 25 (0, 0)) bkw) : gb132 ≠ gb133)); have n9_ := Aside0.mk ((by rw [hg]; exact Nat.ne_of_gt (blk_lt (g := gb132) (o := .cells #[.float .f64 0, .float .f64 0] 25 (0, 0)) bkw) : gb133 ≠ gb132)); clear BK131; clear BK132; clear HB; have BK131 := n0_; have BK132 := n1_; have HB := n2_; have BK133 := n3_; have GW133 := n4_; have GE133 := n5_; have NB131_133 := n6_; have NB133_131 := n7_; have NB132_133 := n8_; have NB133_132 := n9_; clear n0_ n1_ n2_ n3_ n4_ n5_ n6_ n7_ n8_ n9_; clear hb hbox hg; have hnb5 := NB131_132.out; have hnc5 := NB132_131.out; have hnb6 := NB131_133.out; have hnc6 := NB133_131.out; have hcz7_0 : w4.cell? ⟨gb131, 0, none⟩ = some (.float .f64 a0_0) := (blk_cell BK131.out 0).trans rfl; have hcz7_1 : w4.cell? ⟨gb131, 1, none⟩ = some (.float .f64 a0_1) := (blk_cell BK131.out 1).trans rfl; have hfz7_0 := blk_frozen BK131.out 0; have hfz7_1 := blk_frozen BK131.out 1; have hnb8 := NB133_132.out; have hnc8 := NB132_133.out; have hcz9_0 : w4.cell? ⟨gb133, 0, none⟩ = some (.float .f64 0) := (blk_cell BK133.out 0).trans rfl; have hcz9_1 : w4.cell? ⟨gb133, 1, none⟩ = some (.float .f64 0) := (blk_cell BK133.out 1).trans rfl; have hfz9_0 := blk_frozen BK133.out 0; have hfz9_1 := blk_frozen BK133.out 1; have hcz10_0 : w4.cell? ⟨gb132, 0, none⟩ = some (.float .f64 0) := (blk_cell BK132.out 0).trans rfl; have hcz10_1 : w4.cell? ⟨gb132, 1, none⟩ = some (.float .f64 0) := (blk_cell BK132.out 1).trans rfl; have hfz10_0 := blk_frozen BK132.out 0; have hfz10_1 := blk_frozen BK132.out 1))
 refine bodyPost_ret (results_cell_row rfl _ _ gb132 25 #[.float .f64 a0_0, .float .f64 a0_1] (0, 0) _ rfl (by (with_reducible repeat (first | refine blk_drewN ?_ _ | refine blk_drew ?_ | refine blk_alloc ?_ _)); refine blk_put (cs := #[.float .f64 a0_0, .float .f64 0]) ?_ 1 _ rfl; (with_reducible repeat (first | refine blk_drewN ?_ _ | refine blk_drew ?_ | refine blk_alloc ?_ _)); refine blk_put (cs := #[.float .f64 0, .float .f64 0]) ?_ 0 _ rfl; (with_reducible repeat (first | refine blk_drewN ?_ _ | refine blk_drew ?_ | refine blk_alloc ?_ _)); refine blk_far ?_ NB132_133.out _; (with_reducible repeat (first | refine blk_drewN ?_ _ | refine blk_drew ?_ | refine blk_alloc ?_ _)); refine blk_far ?_ NB132_133.out _; (with_reducible repeat (first | refine blk_drewN ?_ _ | refine blk_drew ?_ | refine blk_alloc ?_ _)); exact BK132.out) Try.underlying25 rfl (by kernel_rfl)) rfl ?_
 exact ⟨by first | rfl | (simp [errW_none, errW_some] <;> rfl) | (simp [*, errW_none, errW_some] <;> rfl), blw⟩


/-! ### impl_isFinite_1: function 40 -/
def impl_isFinite_1.f (a : Nat) : Bool := math_IsNaN.g a || math_IsInf.g a
theorem impl_isFinite_1.calls (a : Nat) (r : Bool) (w : World) (h : impl_isFinite_1.f a = r) :
  Calls Try.prog 40 #[.float .f64 a] w fun e w' => e = .returned (.bool r) ∧ Drawn0 w w' := by
 subst h
 unfold impl_isFinite_1.f
 obtain ⟨bn, hn⟩ : ∃ b, math_IsNaN.g a = b := ⟨_, rfl⟩
 obtain ⟨bi, hi⟩ : ∃ b, math_IsInf.g a = b := ⟨_, rfl⟩
 have AN := Aside0.mk hn
 have AI := Aside0.mk hi
 rw [hn, hi]
 clear hn hi
 cases bn <;> cases bi
 all_goals
  go_enter Try.func40, Try.ntmps40
  go_wp2_with (first | (go_at_call 20; (with_reducible first | refine (math_IsNaN.run a true _ AN.out).mono ?_ | refine (math_IsNaN.run a false _ AN.out).mono ?_); rintro e w' ⟨rfl, ⟨nd, rfl⟩⟩) | (go_at_call 29; (with_reducible first | refine (math_IsInf.run a true _ AI.out).mono ?_ | refine (math_IsInf.run a false _ AI.out).mono ?_); rintro e w' ⟨rfl, ⟨nd, rfl⟩⟩))
  go_ret
  exact ⟨by first | rfl | (simp; done), by repeat (first | exact Drawn0.refl _ | apply Drawn0.step)⟩

end Go.Proofs.Ythpnlldadpcmnaa.PFnExactDivTurn
