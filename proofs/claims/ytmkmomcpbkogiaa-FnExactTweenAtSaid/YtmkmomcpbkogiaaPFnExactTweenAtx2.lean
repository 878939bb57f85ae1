/- The machine's side of a law, function by function: a Lean function with the Go function's answers and the proof that the Go code comes to them. No condition. Written by this session's program over the kit's print, this session's own contracts set in. -/
import Derived.Test.YtmkmomcpbkogiaaPFnExactTweenAtx0
import Derived.Test.YtmkmomcpbkogiaaPFnExactTweenAtx1
namespace Go.Proofs.Ytmkmomcpbkogiaa.PFnExactTweenAt
open Go.RowKit Go.Proofs.YtmkmomcpbkogiaaW.PrintWords Go.Proofs.YtmkmomcpbkogiaaW.PrintLast Go.Proofs.YtmkmomcpbkogiaaW.PrintMore
attribute [local go_sem] max2_int min2_int max_two min_two max_three min_three max_four min_four   -- for this text's walks alone
set_option linter.unusedVariables false
set_option linter.unusedSimpArgs false

/-! ### spec_EaseAt: function 22 -/
def spec_EaseAt.f (k : Nat) (a0 : Int) (a1 : Int) : Option (Int) := (spec_l1In.f a1 0 65536).bind fun t132 => (if t132 = true then ((spec_FixMul.f k a1 a1).bind fun t133 => (if a0 = 1 then (some a1) else (if a0 = 2 then (some t133) else (if a0 = 3 then ((spec_FixMul.f k (wrap64 (65536 - a1)) (wrap64 (65536 - a1))).bind fun t134 => (some (wrap64 (65536 - t134)))) else (if a0 = 4 then ((spec_FixMul.f k t133 (wrap64 (196608 - (wrap64 (2 * a1))))).bind fun t135 => (some t135)) else (some 0)))))) else (some 0))
theorem spec_EaseAt.mono : ∀ a0 a1 k, LeO (spec_EaseAt.f k a0 a1) (spec_EaseAt.f (k + 1) a0 a1) := by
  intro a0 a1 k
  unfold spec_EaseAt.f
  repeat' first
      | (with_reducible exact spec_FixMul.mono _ _ _)
      | (with_reducible exact LeO.refl _)
      | (with_reducible exact LeO.none _)
      | (with_reducible refine LeO.ite ?_ ?_)
      | (with_reducible refine LeO.bind ?_ (fun _ => ?_))
      | exact spec_FixMul.mono _ _ _
      | exact LeO.none _
      | refine LeO.ite ?_ ?_
      | refine LeO.bind ?_ (fun _ => ?_)
set_option maxHeartbeats 8000000 in
set_option maxRecDepth 100000 in
theorem spec_EaseAt.calls (k : Nat) (a0 : Int) (a1 : Int) (r : Int) (w : World) (h : spec_EaseAt.f k a0 a1 = some r) :
    Calls Try.prog 22 #[.int .i64 a0, .int .i64 a1] w fun e w' => e = .returned (.int .i64 r) ∧ Below w.heap.size w w' := by
  have HB := Aside0.mk (Below.refl w.heap.size w)
  have H : ((spec_l1In.f a1 0 65536).bind fun t132 => (if t132 = true then ((spec_FixMul.f k a1 a1).bind fun t133 => (if a0 = 1 then (some a1) else (if a0 = 2 then (some t133) else (if a0 = 3 then ((spec_FixMul.f k (wrap64 (65536 - a1)) (wrap64 (65536 - a1))).bind fun t134 => (some (wrap64 (65536 - t134)))) else (if a0 = 4 then ((spec_FixMul.f k t133 (wrap64 (196608 - (wrap64 (2 * a1))))).bind fun t135 => (some t135)) else (some 0)))))) else (some 0))) = some r := h
  clear h
  replace H := Option.bind_eq_some_iff.mp H
  obtain ⟨t132, A30, H⟩ := H
  replace H : (if t132 = true then ((spec_FixMul.f k a1 a1).bind fun t133 => (if a0 = 1 then (some a1) else (if a0 = 2 then (some t133) else (if a0 = 3 then ((spec_FixMul.f k (wrap64 (65536 - a1)) (wrap64 (65536 - a1))).bind fun t134 => (some (wrap64 (65536 - t134)))) else (if a0 = 4 then ((spec_FixMul.f k t133 (wrap64 (196608 - (wrap64 (2 * a1))))).bind fun t135 => (some t135)) else (some 0)))))) else (some 0)) = some r := H
  have A3 := Aside0.mk A30
  clear A30
  by_cases c4 : t132 = true
  · subst c4
    have H1 : ((spec_FixMul.f k a1 a1).bind fun t133 => (if a0 = 1 then (some a1) else (if a0 = 2 then (some t133) else (if a0 = 3 then ((spec_FixMul.f k (wrap64 (65536 - a1)) (wrap64 (65536 - a1))).bind fun t134 => (some (wrap64 (65536 - t134)))) else (if a0 = 4 then ((spec_FixMul.f k t133 (wrap64 (196608 - (wrap64 (2 * a1))))).bind fun t135 => (some t135)) else (some 0)))))) = some r := by rw [if_pos rfl] at H; exact H
    clear H
    have H := H1
    clear H1
    replace H := Option.bind_eq_some_iff.mp H
    obtain ⟨t133, A50, H⟩ := H
    replace H : (if a0 = 1 then (some a1) else (if a0 = 2 then (some t133) else (if a0 = 3 then ((spec_FixMul.f k (wrap64 (65536 - a1)) (wrap64 (65536 - a1))).bind fun t134 => (some (wrap64 (65536 - t134)))) else (if a0 = 4 then ((spec_FixMul.f k t133 (wrap64 (196608 - (wrap64 (2 * a1))))).bind fun t135 => (some t135)) else (some 0))))) = some r := H
    have A5 := Aside0.mk A50
    clear A50
    by_cases c6 : a0 = 1
    · rw [if_pos c6] at H
      have c6b0 : (a0 == 1) = true := beq_iff_eq.mpr c6
      have c6b1 : (a0 != 1) = false := bne_eq_false_iff_eq.mpr c6
      clear c6
      obtain rfl := Option.some.inj H
      go_enter Try.func22, Try.ntmps22
      go_wp2_with (first | ((with_reducible refine gate_callee (f := 69) rfl ?_); refine goesL_ (some 7) rfl rfl Try.func69 (by kernel_rfl) rfl #[.int .i64 a1, .int .i64 0, .int .i64 65536] rfl (by (try simp only [List.map_toArray, List.map_cons, List.map_nil]); first | done | rfl | (simp only [List.length_drop, List.length_take]; rfl)) ?_; (with_reducible refine (spec_l1In.calls a1 0 65536 true _ A3.out).mono ?_); rintro e w' ⟨rfl, ⟨nd, rfl⟩⟩; refine ⟨_, rfl, ?_⟩) | ((with_reducible refine gate_callee (f := 18) rfl ?_); refine goesL_ (some 11) rfl rfl Try.func18 (by kernel_rfl) rfl #[.int .i64 a1, .int .i64 a1] rfl (by (try simp only [List.map_toArray, List.map_cons, List.map_nil]); first | done | rfl | (simp only [List.length_drop, List.length_take]; rfl)) ?_; (with_reducible refine (spec_FixMul.calls k a1 a1 t133 _ A5.out).mono ?_); rintro e w7 ⟨rfl, hb⟩; refine ⟨_, rfl, ?_⟩; have n0_ := Aside0.mk (below_step (by repeat (first | (with_reducible first | exact HB.out | apply below_alloc | apply pw_below_drewN | apply below_drew1) | exact HB.out)) hb); clear HB; have HB := n0_; clear n0_; (try clear hb); (try clear hb2); (try clear hk); (try clear hi)))
      go_ret
      exact ⟨by first | rfl | (simp [errW_none, errW_some] <;> rfl) | (simp [*, errW_none, errW_some] <;> rfl), by repeat (first | (with_reducible first | exact HB.out | apply below_alloc | apply pw_below_drewN | apply below_drew1) | exact HB.out)⟩
    · rw [if_neg c6] at H
      have c6b0 : (a0 == 1) = false := beq_eq_false_iff_ne.mpr c6
      have c6b1 : (a0 != 1) = true := bne_iff_ne.mpr c6
      by_cases c8 : a0 = 2
      · rw [if_pos c8] at H
        have c8b0 : (a0 == 2) = true := beq_iff_eq.mpr c8
        have c8b1 : (a0 != 2) = false := bne_eq_false_iff_eq.mpr c8
        clear c8
        obtain rfl := Option.some.inj H
        go_enter Try.func22, Try.ntmps22
        go_wp2_with (first | ((with_reducible refine gate_callee (f := 69) rfl ?_); refine goesL_ (some 7) rfl rfl Try.func69 (by kernel_rfl) rfl #[.int .i64 a1, .int .i64 0, .int .i64 65536] rfl (by (try simp only [List.map_toArray, List.map_cons, List.map_nil]); first | done | rfl | (simp only [List.length_drop, List.length_take]; rfl)) ?_; (with_reducible refine (spec_l1In.calls a1 0 65536 true _ A3.out).mono ?_); rintro e w' ⟨rfl, ⟨nd, rfl⟩⟩; refine ⟨_, rfl, ?_⟩) | ((with_reducible refine gate_callee (f := 18) rfl ?_); refine goesL_ (some 11) rfl rfl Try.func18 (by kernel_rfl) rfl #[.int .i64 a1, .int .i64 a1] rfl (by (try simp only [List.map_toArray, List.map_cons, List.map_nil]); first | done | rfl | (simp only [List.length_drop, List.length_take]; rfl)) ?_; (with_reducible refine (spec_FixMul.calls k a1 a1 t133 _ A5.out).mono ?_); rintro e w9 ⟨rfl, hb⟩; refine ⟨_, rfl, ?_⟩; have n0_ := Aside0.mk (below_step (by repeat (first | (with_reducible first | exact HB.out | apply below_alloc | apply pw_below_drewN | apply below_drew1) | exact HB.out)) hb); clear HB; have HB := n0_; clear n0_; (try clear hb); (try clear hb2); (try clear hk); (try clear hi)))
        go_ret
        exact ⟨by first | rfl | (simp [errW_none, errW_some] <;> rfl) | (simp [*, errW_none, errW_some] <;> rfl), by repeat (first | (with_reducible first | exact HB.out | apply below_alloc | apply pw_below_drewN | apply below_drew1) | exact HB.out)⟩
      · rw [if_neg c8] at H
        have c8b0 : (a0 == 2) = false := beq_eq_false_iff_ne.mpr c8
        have c8b1 : (a0 != 2) = true := bne_iff_ne.mpr c8
        by_cases c10 : a0 = 3
        · rw [if_pos c10] at H
          have c10b0 : (a0 == 3) = true := beq_iff_eq.mpr c10
          have c10b1 : (a0 != 3) = false := bne_eq_false_iff_eq.mpr c10
          clear c10
          replace H := Option.bind_eq_some_iff.mp H
          obtain ⟨t134, A110, H⟩ := H
          replace H : (some (wrap64 (65536 - t134))) = some r := H
          have A11 := Aside0.mk A110
          clear A110
          obtain rfl := Option.some.inj H
          go_enter Try.func22, Try.ntmps22
          go_wp2_with (first | ((with_reducible refine gate_callee (f := 69) rfl ?_); refine goesL_ (some 7) rfl rfl Try.func69 (by kernel_rfl) rfl #[.int .i64 a1, .int .i64 0, .int .i64 65536] rfl (by (try simp only [List.map_toArray, List.map_cons, List.map_nil]); first | done | rfl | (simp only [List.length_drop, List.length_take]; rfl)) ?_; (with_reducible refine (spec_l1In.calls a1 0 65536 true _ A3.out).mono ?_); rintro e w' ⟨rfl, ⟨nd, rfl⟩⟩; refine ⟨_, rfl, ?_⟩) | ((with_reducible refine gate_callee (f := 18) rfl ?_); refine goesL_ (some 11) rfl rfl Try.func18 (by kernel_rfl) rfl #[.int .i64 a1, .int .i64 a1] rfl (by (try simp only [List.map_toArray, List.map_cons, List.map_nil]); first | done | rfl | (simp only [List.length_drop, List.length_take]; rfl)) ?_; (with_reducible refine (spec_FixMul.calls k a1 a1 t133 _ A5.out).mono ?_); rintro e w12 ⟨rfl, hb⟩; refine ⟨_, rfl, ?_⟩; have n0_ := Aside0.mk (below_step (by repeat (first | (with_reducible first | exact HB.out | apply below_alloc | apply pw_below_drewN | apply below_drew1) | exact HB.out)) hb); clear HB; have HB := n0_; clear n0_; (try clear hb); (try clear hb2); (try clear hk); (try clear hi)) | ((with_reducible refine gate_callee (f := 18) rfl ?_); refine goesL_ (some 25) rfl rfl Try.func18 (by kernel_rfl) rfl #[.int .i64 (wrap64 (65536 - a1)), .int .i64 (wrap64 (65536 - a1))] rfl (by (try simp only [List.map_toArray, List.map_cons, List.map_nil]); first | done | rfl | (simp only [List.length_drop, List.length_take]; rfl)) ?_; (with_reducible refine (spec_FixMul.calls k (wrap64 (65536 - a1)) (wrap64 (65536 - a1)) t134 _ A11.out).mono ?_); rintro e w13 ⟨rfl, hb⟩; refine ⟨_, rfl, ?_⟩; have n0_ := Aside0.mk (below_step (by repeat (first | (with_reducible first | exact HB.out | apply below_alloc | apply pw_below_drewN | apply below_drew1) | exact HB.out)) hb); clear HB; have HB := n0_; clear n0_; (try clear hb); (try clear hb2); (try clear hk); (try clear hi)))
          go_ret
          exact ⟨by first | rfl | (simp [errW_none, errW_some] <;> rfl) | (simp [*, errW_none, errW_some] <;> rfl), by repeat (first | (with_reducible first | exact HB.out | apply below_alloc | apply pw_below_drewN | apply below_drew1) | exact HB.out)⟩
        · rw [if_neg c10] at H
          have c10b0 : (a0 == 3) = false := beq_eq_false_iff_ne.mpr c10
          have c10b1 : (a0 != 3) = true := bne_iff_ne.mpr c10
          by_cases c14 : a0 = 4
          · rw [if_pos c14] at H
            have c14b0 : (a0 == 4) = true := beq_iff_eq.mpr c14
            have c14b1 : (a0 != 4) = false := bne_eq_false_iff_eq.mpr c14
            clear c14
            replace H := Option.bind_eq_some_iff.mp H
            obtain ⟨t135, A150, H⟩ := H
            replace H : (some t135) = some r := H
            have A15 := Aside0.mk A150
            clear A150
            obtain rfl := Option.some.inj H
            go_enter Try.func22, Try.ntmps22
            go_wp2_with (first | ((with_reducible refine gate_callee (f := 69) rfl ?_); refine goesL_ (some 7) rfl rfl Try.func69 (by kernel_rfl) rfl #[.int .i64 a1, .int .i64 0, .int .i64 65536] rfl (by (try simp only [List.map_toArray, List.map_cons, List.map_nil]); first | done | rfl | (simp only [List.length_drop, List.length_take]; rfl)) ?_; (with_reducible refine (spec_l1In.calls a1 0 65536 true _ A3.out).mono ?_); rintro e w' ⟨rfl, ⟨nd, rfl⟩⟩; refine ⟨_, rfl, ?_⟩) | ((with_reducible refine gate_callee (f := 18) rfl ?_); refine goesL_ (some 11) rfl rfl Try.func18 (by kernel_rfl) rfl #[.int .i64 a1, .int .i64 a1] rfl (by (try simp only [List.map_toArray, List.map_cons, List.map_nil]); first | done | rfl | (simp only [List.length_drop, List.length_take]; rfl)) ?_; (with_reducible refine (spec_FixMul.calls k a1 a1 t133 _ A5.out).mono ?_); rintro e w16 ⟨rfl, hb⟩; refine ⟨_, rfl, ?_⟩; have n0_ := Aside0.mk (below_step (by repeat (first | (with_reducible first | exact HB.out | apply below_alloc | apply pw_below_drewN | apply below_drew1) | exact HB.out)) hb); clear HB; have HB := n0_; clear n0_; (try clear hb); (try clear hb2); (try clear hk); (try clear hi)) | ((with_reducible refine gate_callee (f := 18) rfl ?_); refine goesL_ (some 33) rfl rfl Try.func18 (by kernel_rfl) rfl #[.int .i64 t133, .int .i64 (wrap64 (196608 - (wrap64 (2 * a1))))] rfl (by (try simp only [List.map_toArray, List.map_cons, List.map_nil]); first | done | rfl | (simp only [List.length_drop, List.length_take]; rfl)) ?_; (with_reducible refine (spec_FixMul.calls k t133 (wrap64 (196608 - (wrap64 (2 * a1)))) t135 _ A15.out).mono ?_); rintro e w17 ⟨rfl, hb⟩; refine ⟨_, rfl, ?_⟩; have n0_ := Aside0.mk (below_step (by repeat (first | (with_reducible first | exact HB.out | apply below_alloc | apply pw_below_drewN | apply below_drew1) | exact HB.out)) hb); clear HB; have HB := n0_; clear n0_; (try clear hb); (try clear hb2); (try clear hk); (try clear hi)))
            go_ret
            exact ⟨by first | rfl | (simp [errW_none, errW_some] <;> rfl) | (simp [*, errW_none, errW_some] <;> rfl), by repeat (first | (with_reducible first | exact HB.out | apply below_alloc | apply pw_below_drewN | apply below_drew1) | exact HB.out)⟩
          · rw [if_neg c14] at H
            have c14b0 : (a0 == 4) = false := beq_eq_false_iff_ne.mpr c14
            have c14b1 : (a0 != 4) = true := bne_iff_ne.mpr c14
            obtain rfl := Option.some.inj H
            go_enter Try.func22, Try.ntmps22
            go_wp2_with (first | ((with_reducible refine gate_callee (f := 69) rfl ?_); refine goesL_ (some 7) rfl rfl Try.func69 (by kernel_rfl) rfl #[.int .i64 a1, .int .i64 0, .int .i64 65536] rfl (by (try simp only [List.map_toArray, List.map_cons, List.map_nil]); first | done | rfl | (simp only [List.length_drop, List.length_take]; rfl)) ?_; (with_reducible refine (spec_l1In.calls a1 0 65536 true _ A3.out).mono ?_); rintro e w' ⟨rfl, ⟨nd, rfl⟩⟩; refine ⟨_, rfl, ?_⟩) | ((with_reducible refine gate_callee (f := 18) rfl ?_); refine goesL_ (some 11) rfl rfl Try.func18 (by kernel_rfl) rfl #[.int .i64 a1, .int .i64 a1] rfl (by (try simp only [List.map_toArray, List.map_cons, List.map_nil]); first | done | rfl | (simp only [List.length_drop, List.length_take]; rfl)) ?_; (with_reducible refine (spec_FixMul.calls k a1 a1 t133 _ A5.out).mono ?_); rintro e w18 ⟨rfl, hb⟩; refine ⟨_, rfl, ?_⟩; have n0_ := Aside0.mk (below_step (by repeat (first | (with_reducible first | exact HB.out | apply below_alloc | apply pw_below_drewN | apply below_drew1) | exact HB.out)) hb); clear HB; have HB := n0_; clear n0_; (try clear hb); (try clear hb2); (try clear hk); (try clear hi)))
            go_ret
            exact ⟨by first | rfl | (simp [errW_none, errW_some] <;> rfl) | (simp [*, errW_none, errW_some] <;> rfl), by repeat (first | (with_reducible first | exact HB.out | apply below_alloc | apply pw_below_drewN | apply below_drew1) | exact HB.out)⟩
  · replace c4 := Bool.eq_false_iff.mpr c4
    subst c4
    have H1 : (some 0) = some r := by rw [if_neg (show ¬ (false = true) by decide)] at H; exact H
    clear H
    have H := H1
    clear H1
    obtain rfl := Option.some.inj H
    go_enter Try.func22, Try.ntmps22
    go_wp2_with (first | ((with_reducible refine gate_callee (f := 69) rfl ?_); refine goesL_ (some 7) rfl rfl Try.func69 (by kernel_rfl) rfl #[.int .i64 a1, .int .i64 0, .int .i64 65536] rfl (by (try simp only [List.map_toArray, List.map_cons, List.map_nil]); first | done | rfl | (simp only [List.length_drop, List.length_take]; rfl)) ?_; (with_reducible refine (spec_l1In.calls a1 0 65536 false _ A3.out).mono ?_); rintro e w' ⟨rfl, ⟨nd, rfl⟩⟩; refine ⟨_, rfl, ?_⟩))
    go_ret
    exact ⟨by first | rfl | (simp [errW_none, errW_some] <;> rfl) | (simp [*, errW_none, errW_some] <;> rfl), by repeat (first | (with_reducible first | exact HB.out | apply below_alloc | apply pw_below_drewN | apply below_drew1) | exact HB.out)⟩

/-! ### spec_TweenAt: function 24 -/
def spec_TweenAt.j0 : Nat → Int → Int → Int → Int → Int → Int → Bool → Option (Int × Bool)
  | 0, _, _, _, _, _, _, _ => none
  | k + 1, x0, x1, x2, x3, x4, x5, x49 => if x49 = true then (some (0, false)) else (if x5 < x3 then (some (x0, true)) else (if x5 ≥ (wrap64 (x3 + x4)) then (some (x1, true)) else (if x4 = 0 then (none) else ((spec_EaseAt.f k x2 (wrap64 (Int.tdiv (wrap64 ((wrap64 (x5 - x3)) * 65536)) x4))).bind fun t143 => ((spec_FixMul.f k (wrap64 (x1 - x0)) t143).bind fun t144 => ((spec_GoodFixed.f (wrap64 (x0 + t144))).bind fun t145 => (if t145 = true then (some (wrap64 (x0 + t144), true)) else (some (0, false)))))))))
def spec_TweenAt.f (k : Nat) (a0 : Int) (a1 : Int) (a2 : Int) (a3 : Int) (a4 : Int) (a5 : Int) : Option (Int × Bool) := (spec_GoodFixed.f a0).bind fun t136 => (if t136 = true then ((spec_GoodFixed.f a1).bind fun t137 => (if t137 = true then ((spec_GoodFixed.f (wrap64 (a1 - a0))).bind fun t138 => (if t138 = true then ((spec_l1In.f a2 1 4).bind fun t139 => (if t139 = true then ((spec_l1In.f a3 0 100000).bind fun t140 => (if t140 = true then ((spec_l1In.f a5 0 100000).bind fun t141 => (if t141 = true then ((spec_l1In.f a4 1 100000).bind fun t142 => (spec_TweenAt.j0 k a0 a1 a2 a3 a4 a5 (!t142))) else (spec_TweenAt.j0 k a0 a1 a2 a3 a4 a5 true))) else (spec_TweenAt.j0 k a0 a1 a2 a3 a4 a5 true))) else (spec_TweenAt.j0 k a0 a1 a2 a3 a4 a5 true))) else (spec_TweenAt.j0 k a0 a1 a2 a3 a4 a5 true))) else (spec_TweenAt.j0 k a0 a1 a2 a3 a4 a5 true))) else (spec_TweenAt.j0 k a0 a1 a2 a3 a4 a5 true))
theorem spec_TweenAt.mono_l : ∀ k, (∀ y0 y1 y2 y3 y4 y5 y6, LeO (spec_TweenAt.j0 k y0 y1 y2 y3 y4 y5 y6) (spec_TweenAt.j0 (k + 1) y0 y1 y2 y3 y4 y5 y6))
  | 0 => fun _ _ _ _ _ _ _ r h => by simp [spec_TweenAt.j0] at h
  | k + 1 => by
    have ih0 := spec_TweenAt.mono_l k
    · intro y0 y1 y2 y3 y4 y5 y6
      unfold spec_TweenAt.j0
      repeat' first
      | (with_reducible exact ih0 _ _ _ _ _ _ _)
      | (with_reducible exact spec_EaseAt.mono _ _ _)
      | (with_reducible exact spec_FixMul.mono _ _ _)
      | (with_reducible exact LeO.refl _)
      | (with_reducible exact LeO.none _)
      | (with_reducible refine LeO.ite ?_ ?_)
      | (with_reducible refine LeO.bind ?_ (fun _ => ?_))
      | exact ih0 _ _ _ _ _ _ _
      | exact spec_EaseAt.mono _ _ _
      | exact spec_FixMul.mono _ _ _
      | exact LeO.none _
      | refine LeO.ite ?_ ?_
      | refine LeO.bind ?_ (fun _ => ?_)
theorem spec_TweenAt.mono : ∀ a0 a1 a2 a3 a4 a5 k, LeO (spec_TweenAt.f k a0 a1 a2 a3 a4 a5) (spec_TweenAt.f (k + 1) a0 a1 a2 a3 a4 a5) := by
  intro a0 a1 a2 a3 a4 a5 k
  have ih0 := spec_TweenAt.mono_l k
  unfold spec_TweenAt.f
  repeat' first
      | (with_reducible exact ih0 _ _ _ _ _ _ _)
      | (with_reducible exact spec_EaseAt.mono _ _ _)
      | (with_reducible exact spec_FixMul.mono _ _ _)
      | (with_reducible exact LeO.refl _)
      | (with_reducible exact LeO.none _)
      | (with_reducible refine LeO.ite ?_ ?_)
      | (with_reducible refine LeO.bind ?_ (fun _ => ?_))
      | exact ih0 _ _ _ _ _ _ _
      | exact spec_EaseAt.mono _ _ _
      | exact spec_FixMul.mono _ _ _
      | exact LeO.none _
      | refine LeO.ite ?_ ?_
      | refine LeO.bind ?_ (fun _ => ?_)
set_option maxHeartbeats 8000000 in
set_option maxRecDepth 100000 in
theorem spec_TweenAt.calls (k : Nat) (a0 : Int) (a1 : Int) (a2 : Int) (a3 : Int) (a4 : Int) (a5 : Int) (r1 : Int) (r2 : Bool) (w : World) (h : spec_TweenAt.f k a0 a1 a2 a3 a4 a5 = some (r1, r2)) :
    Calls Try.prog 24 #[.int .i64 a0, .int .i64 a1, .int .i64 a2, .int .i64 a3, .int .i64 a4, .int .i64 a5] w fun e w' => e = .returned (.tuple #[.int .i64 r1, .bool r2]) ∧ Below w.heap.size w w' := by
  have HB := Aside0.mk (Below.refl w.heap.size w)
  have H : ((spec_GoodFixed.f a0).bind fun t136 => (if t136 = true then ((spec_GoodFixed.f a1).bind fun t137 => (if t137 = true then ((spec_GoodFixed.f (wrap64 (a1 - a0))).bind fun t138 => (if t138 = true then ((spec_l1In.f a2 1 4).bind fun t139 => (if t139 = true then ((spec_l1In.f a3 0 100000).bind fun t140 => (if t140 = true then ((spec_l1In.f a5 0 100000).bind fun t141 => (if t141 = true then ((spec_l1In.f a4 1 100000).bind fun t142 => (spec_TweenAt.j0 k a0 a1 a2 a3 a4 a5 (!t142))) else (spec_TweenAt.j0 k a0 a1 a2 a3 a4 a5 true))) else (spec_TweenAt.j0 k a0 a1 a2 a3 a4 a5 true))) else (spec_TweenAt.j0 k a0 a1 a2 a3 a4 a5 true))) else (spec_TweenAt.j0 k a0 a1 a2 a3 a4 a5 true))) else (spec_TweenAt.j0 k a0 a1 a2 a3 a4 a5 true))) else (spec_TweenAt.j0 k a0 a1 a2 a3 a4 a5 true))) = some (r1, r2) := h
  clear h
  have HC7 := Aside0.mk H
  clear H
  go_enter Try.func24, Try.ntmps24
  go_upto_region 1 with (fail)
  go_cut [49] (fun v49 wc => ∃ (kq : Nat) (x49_6 : Bool), v49 = .bool x49_6 ∧ Aside0 (spec_TweenAt.j0 kq a0 a1 a2 a3 a4 a5 x49_6 = some (r1, r2)) ∧ Aside0 (kq ≤ k) ∧ Aside0 (Below w.heap.size w wc))
  case first =>
    have H := HC7.out
    clear HC7
    replace H := Option.bind_eq_some_iff.mp H
    obtain ⟨t136, A80, H⟩ := H
    replace H : (if t136 = true then ((spec_GoodFixed.f a1).bind fun t137 => (if t137 = true then ((spec_GoodFixed.f (wrap64 (a1 - a0))).bind fun t138 => (if t138 = true then ((spec_l1In.f a2 1 4).bind fun t139 => (if t139 = true then ((spec_l1In.f a3 0 100000).bind fun t140 => (if t140 = true then ((spec_l1In.f a5 0 100000).bind fun t141 => (if t141 = true then ((spec_l1In.f a4 1 100000).bind fun t142 => (spec_TweenAt.j0 k a0 a1 a2 a3 a4 a5 (!t142))) else (spec_TweenAt.j0 k a0 a1 a2 a3 a4 a5 true))) else (spec_TweenAt.j0 k a0 a1 a2 a3 a4 a5 true))) else (spec_TweenAt.j0 k a0 a1 a2 a3 a4 a5 true))) else (spec_TweenAt.j0 k a0 a1 a2 a3 a4 a5 true))) else (spec_TweenAt.j0 k a0 a1 a2 a3 a4 a5 true))) else (spec_TweenAt.j0 k a0 a1 a2 a3 a4 a5 true)) = some (r1, r2) := H
    have A8 := Aside0.mk A80
    clear A80
    by_cases c9 : t136 = true
    · subst c9
      have H1 : ((spec_GoodFixed.f a1).bind fun t137 => (if t137 = true then ((spec_GoodFixed.f (wrap64 (a1 - a0))).bind fun t138 => (if t138 = true then ((spec_l1In.f a2 1 4).bind fun t139 => (if t139 = true then ((spec_l1In.f a3 0 100000).bind fun t140 => (if t140 = true then ((spec_l1In.f a5 0 100000).bind fun t141 => (if t141 = true then ((spec_l1In.f a4 1 100000).bind fun t142 => (spec_TweenAt.j0 k a0 a1 a2 a3 a4 a5 (!t142))) else (spec_TweenAt.j0 k a0 a1 a2 a3 a4 a5 true))) else (spec_TweenAt.j0 k a0 a1 a2 a3 a4 a5 true))) else (spec_TweenAt.j0 k a0 a1 a2 a3 a4 a5 true))) else (spec_TweenAt.j0 k a0 a1 a2 a3 a4 a5 true))) else (spec_TweenAt.j0 k a0 a1 a2 a3 a4 a5 true))) = some (r1, r2) := by rw [if_pos rfl] at H; exact H
      clear H
      have H := H1
      clear H1
      replace H := Option.bind_eq_some_iff.mp H
      obtain ⟨t137, A100, H⟩ := H
      replace H : (if t137 = true then ((spec_GoodFixed.f (wrap64 (a1 - a0))).bind fun t138 => (if t138 = true then ((spec_l1In.f a2 1 4).bind fun t139 => (if t139 = true then ((spec_l1In.f a3 0 100000).bind fun t140 => (if t140 = true then ((spec_l1In.f a5 0 100000).bind fun t141 => (if t141 = true then ((spec_l1In.f a4 1 100000).bind fun t142 => (spec_TweenAt.j0 k a0 a1 a2 a3 a4 a5 (!t142))) else (spec_TweenAt.j0 k a0 a1 a2 a3 a4 a5 true))) else (spec_TweenAt.j0 k a0 a1 a2 a3 a4 a5 true))) else (spec_TweenAt.j0 k a0 a1 a2 a3 a4 a5 true))) else (spec_TweenAt.j0 k a0 a1 a2 a3 a4 a5 true))) else (spec_TweenAt.j0 k a0 a1 a2 a3 a4 a5 true)) = some (r1, r2) := H
      have A10 := Aside0.mk A100
      clear A100
      by_cases c11 : t137 = true
      · subst c11
        have H1 : ((spec_GoodFixed.f (wrap64 (a1 - a0))).bind fun t138 => (if t138 = true then ((spec_l1In.f a2 1 4).bind fun t139 => (if t139 = true then ((spec_l1In.f a3 0 100000).bind fun t140 => (if t140 = true then ((spec_l1In.f a5 0 100000).bind fun t141 => (if t141 = true then ((spec_l1In.f a4 1 100000).bind fun t142 => (spec_TweenAt.j0 k a0 a1 a2 a3 a4 a5 (!t142))) else (spec_TweenAt.j0 k a0 a1 a2 a3 a4 a5 true))) else (spec_TweenAt.j0 k a0 a1 a2 a3 a4 a5 true))) else (spec_TweenAt.j0 k a0 a1 a2 a3 a4 a5 true))) else (spec_TweenAt.j0 k a0 a1 a2 a3 a4 a5 true))) = some (r1, r2) := by rw [if_pos rfl] at H; exact H
        clear H
        have H := H1
        clear H1
        replace H := Option.bind_eq_some_iff.mp H
        obtain ⟨t138, A120, H⟩ := H
        replace H : (if t138 = true then ((spec_l1In.f a2 1 4).bind fun t139 => (if t139 = true then ((spec_l1In.f a3 0 100000).bind fun t140 => (if t140 = true then ((spec_l1In.f a5 0 100000).bind fun t141 => (if t141 = true then ((spec_l1In.f a4 1 100000).bind fun t142 => (spec_TweenAt.j0 k a0 a1 a2 a3 a4 a5 (!t142))) else (spec_TweenAt.j0 k a0 a1 a2 a3 a4 a5 true))) else (spec_TweenAt.j0 k a0 a1 a2 a3 a4 a5 true))) else (spec_TweenAt.j0 k a0 a1 a2 a3 a4 a5 true))) else (spec_TweenAt.j0 k a0 a1 a2 a3 a4 a5 true)) = some (r1, r2) := H
        have A12 := Aside0.mk A120
        clear A120
        by_cases c13 : t138 = true
        · subst c13
          have H1 : ((spec_l1In.f a2 1 4).bind fun t139 => (if t139 = true then ((spec_l1In.f a3 0 100000).bind fun t140 => (if t140 = true then ((spec_l1In.f a5 0 100000).bind fun t141 => (if t141 = true then ((spec_l1In.f a4 1 100000).bind fun t142 => (spec_TweenAt.j0 k a0 a1 a2 a3 a4 a5 (!t142))) else (spec_TweenAt.j0 k a0 a1 a2 a3 a4 a5 true))) else (spec_TweenAt.j0 k a0 a1 a2 a3 a4 a5 true))) else (spec_TweenAt.j0 k a0 a1 a2 a3 a4 a5 true))) = some (r1, r2) := by rw [if_pos rfl] at H; exact H
          clear H
          have H := H1
          clear H1
          replace H := Option.bind_eq_some_iff.mp H
          obtain ⟨t139, A140, H⟩ := H
          replace H : (if t139 = true then ((spec_l1In.f a3 0 100000).bind fun t140 => (if t140 = true then ((spec_l1In.f a5 0 100000).bind fun t141 => (if t141 = true then ((spec_l1In.f a4 1 100000).bind fun t142 => (spec_TweenAt.j0 k a0 a1 a2 a3 a4 a5 (!t142))) else (spec_TweenAt.j0 k a0 a1 a2 a3 a4 a5 true))) else (spec_TweenAt.j0 k a0 a1 a2 a3 a4 a5 true))) else (spec_TweenAt.j0 k a0 a1 a2 a3 a4 a5 true)) = some (r1, r2) := H
          have A14 := Aside0.mk A140
          clear A140
          by_cases c15 : t139 = true
          · subst c15
            have H1 : ((spec_l1In.f a3 0 100000).bind fun t140 => (if t140 = true then ((spec_l1In.f a5 0 100000).bind fun t141 => (if t141 = true then ((spec_l1In.f a4 1 100000).bind fun t142 => (spec_TweenAt.j0 k a0 a1 a2 a3 a4 a5 (!t142))) else (spec_TweenAt.j0 k a0 a1 a2 a3 a4 a5 true))) else (spec_TweenAt.j0 k a0 a1 a2 a3 a4 a5 true))) = some (r1, r2) := by rw [if_pos rfl] at H; exact H
            clear H
            have H := H1
            clear H1
            replace H := Option.bind_eq_some_iff.mp H
            obtain ⟨t140, A160, H⟩ := H
            replace H : (if t140 = true then ((spec_l1In.f a5 0 100000).bind fun t141 => (if t141 = true then ((spec_l1In.f a4 1 100000).bind fun t142 => (spec_TweenAt.j0 k a0 a1 a2 a3 a4 a5 (!t142))) else (spec_TweenAt.j0 k a0 a1 a2 a3 a4 a5 true))) else (spec_TweenAt.j0 k a0 a1 a2 a3 a4 a5 true)) = some (r1, r2) := H
            have A16 := Aside0.mk A160
            clear A160
            by_cases c17 : t140 = true
            · subst c17
              have H1 : ((spec_l1In.f a5 0 100000).bind fun t141 => (if t141 = true then ((spec_l1In.f a4 1 100000).bind fun t142 => (spec_TweenAt.j0 k a0 a1 a2 a3 a4 a5 (!t142))) else (spec_TweenAt.j0 k a0 a1 a2 a3 a4 a5 true))) = some (r1, r2) := by rw [if_pos rfl] at H; exact H
              clear H
              have H := H1
              clear H1
              replace H := Option.bind_eq_some_iff.mp H
              obtain ⟨t141, A180, H⟩ := H
              replace H : (if t141 = true then ((spec_l1In.f a4 1 100000).bind fun t142 => (spec_TweenAt.j0 k a0 a1 a2 a3 a4 a5 (!t142))) else (spec_TweenAt.j0 k a0 a1 a2 a3 a4 a5 true)) = some (r1, r2) := H
              have A18 := Aside0.mk A180
              clear A180
              by_cases c19 : t141 = true
              · subst c19
                have H1 : ((spec_l1In.f a4 1 100000).bind fun t142 => (spec_TweenAt.j0 k a0 a1 a2 a3 a4 a5 (!t142))) = some (r1, r2) := by rw [if_pos rfl] at H; exact H
                clear H
                have H := H1
                clear H1
                replace H := Option.bind_eq_some_iff.mp H
                obtain ⟨t142, A200, H⟩ := H
                replace H : (spec_TweenAt.j0 k a0 a1 a2 a3 a4 a5 (!t142)) = some (r1, r2) := H
                have A20 := Aside0.mk A200
                clear A200
                have H' := Aside0.mk H
                clear H
                go_wp2_with (first | ((with_reducible refine gate_callee (f := 50) rfl ?_); refine goesL_ (some 16) rfl rfl Try.func50 (by kernel_rfl) rfl #[.int .i64 a0] rfl (by (try simp only [List.map_toArray, List.map_cons, List.map_nil]); first | done | rfl | (simp only [List.length_drop, List.length_take]; rfl)) ?_; (with_reducible refine (spec_GoodFixed.calls a0 true _ A8.out).mono ?_); rintro e w' ⟨rfl, ⟨nd, rfl⟩⟩; refine ⟨_, rfl, ?_⟩) | (go_at_call 50; (with_reducible refine (spec_GoodFixed.calls a1 true _ A10.out).mono ?_); rintro e w' ⟨rfl, ⟨nd, rfl⟩⟩) | (go_at_call 50; (with_reducible refine (spec_GoodFixed.calls (wrap64 (a1 - a0)) true _ A12.out).mono ?_); rintro e w' ⟨rfl, ⟨nd, rfl⟩⟩) | (go_at_call 69; (with_reducible refine (spec_l1In.calls a2 1 4 true _ A14.out).mono ?_); rintro e w' ⟨rfl, ⟨nd, rfl⟩⟩) | (go_at_call 69; (with_reducible refine (spec_l1In.calls a3 0 100000 true _ A16.out).mono ?_); rintro e w' ⟨rfl, ⟨nd, rfl⟩⟩) | (go_at_call 69; (with_reducible refine (spec_l1In.calls a5 0 100000 true _ A18.out).mono ?_); rintro e w' ⟨rfl, ⟨nd, rfl⟩⟩) | (go_at_call 69; (with_reducible refine (spec_l1In.calls a4 1 100000 t142 _ A20.out).mono ?_); rintro e w' ⟨rfl, ⟨nd, rfl⟩⟩))
                go_meet
                case rel => exact ⟨_, (!t142), (by first | rfl | (simp; done) | (simp [*]; done)), H', ⟨by first | omega | exact Nat.le_refl _⟩, ⟨by repeat (first | (with_reducible first | exact HB.out | apply below_alloc | apply pw_below_drewN | apply below_drew1) | exact HB.out)⟩⟩
              · replace c19 := Bool.eq_false_iff.mpr c19
                subst c19
                have H1 : (spec_TweenAt.j0 k a0 a1 a2 a3 a4 a5 true) = some (r1, r2) := by rw [if_neg (show ¬ (false = true) by decide)] at H; exact H
                clear H
                have H := H1
                clear H1
                have H' := Aside0.mk H
                clear H
                go_wp2_with (first | ((with_reducible refine gate_callee (f := 50) rfl ?_); refine goesL_ (some 16) rfl rfl Try.func50 (by kernel_rfl) rfl #[.int .i64 a0] rfl (by (try simp only [List.map_toArray, List.map_cons, List.map_nil]); first | done | rfl | (simp only [List.length_drop, List.length_take]; rfl)) ?_; (with_reducible refine (spec_GoodFixed.calls a0 true _ A8.out).mono ?_); rintro e w' ⟨rfl, ⟨nd, rfl⟩⟩; refine ⟨_, rfl, ?_⟩) | (go_at_call 50; (with_reducible refine (spec_GoodFixed.calls a1 true _ A10.out).mono ?_); rintro e w' ⟨rfl, ⟨nd, rfl⟩⟩) | (go_at_call 50; (with_reducible refine (spec_GoodFixed.calls (wrap64 (a1 - a0)) true _ A12.out).mono ?_); rintro e w' ⟨rfl, ⟨nd, rfl⟩⟩) | (go_at_call 69; (with_reducible refine (spec_l1In.calls a2 1 4 true _ A14.out).mono ?_); rintro e w' ⟨rfl, ⟨nd, rfl⟩⟩) | (go_at_call 69; (with_reducible refine (spec_l1In.calls a3 0 100000 true _ A16.out).mono ?_); rintro e w' ⟨rfl, ⟨nd, rfl⟩⟩) | (go_at_call 69; (with_reducible refine (spec_l1In.calls a5 0 100000 false _ A18.out).mono ?_); rintro e w' ⟨rfl, ⟨nd, rfl⟩⟩))
                go_meet
                case rel => exact ⟨_, (true), (by first | rfl | (simp; done) | (simp [*]; done)), H', ⟨by first | omega | exact Nat.le_refl _⟩, ⟨by repeat (first | (with_reducible first | exact HB.out | apply below_alloc | apply pw_below_drewN | apply below_drew1) | exact HB.out)⟩⟩
            · replace c17 := Bool.eq_false_iff.mpr c17
              subst c17
              have H1 : (spec_TweenAt.j0 k a0 a1 a2 a3 a4 a5 true) = some (r1, r2) := by rw [if_neg (show ¬ (false = true) by decide)] at H; exact H
              clear H
              have H := H1
              clear H1
              have H' := Aside0.mk H
              clear H
              go_wp2_with (first | ((with_reducible refine gate_callee (f := 50) rfl ?_); refine goesL_ (some 16) rfl rfl Try.func50 (by kernel_rfl) rfl #[.int .i64 a0] rfl (by (try simp only [List.map_toArray, List.map_cons, List.map_nil]); first | done | rfl | (simp only [List.length_drop, List.length_take]; rfl)) ?_; (with_reducible refine (spec_GoodFixed.calls a0 true _ A8.out).mono ?_); rintro e w' ⟨rfl, ⟨nd, rfl⟩⟩; refine ⟨_, rfl, ?_⟩) | (go_at_call 50; (with_reducible refine (spec_GoodFixed.calls a1 true _ A10.out).mono ?_); rintro e w' ⟨rfl, ⟨nd, rfl⟩⟩) | (go_at_call 50; (with_reducible refine (spec_GoodFixed.calls (wrap64 (a1 - a0)) true _ A12.out).mono ?_); rintro e w' ⟨rfl, ⟨nd, rfl⟩⟩) | (go_at_call 69; (with_reducible refine (spec_l1In.calls a2 1 4 true _ A14.out).mono ?_); rintro e w' ⟨rfl, ⟨nd, rfl⟩⟩) | (go_at_call 69; (with_reducible refine (spec_l1In.calls a3 0 100000 false _ A16.out).mono ?_); rintro e w' ⟨rfl, ⟨nd, rfl⟩⟩))
              go_meet
              case rel => exact ⟨_, (true), (by first | rfl | (simp; done) | (simp [*]; done)), H', ⟨by first | omega | exact Nat.le_refl _⟩, ⟨by repeat (first | (with_reducible first | exact HB.out | apply below_alloc | apply pw_below_drewN | apply below_drew1) | exact HB.out)⟩⟩
          · replace c15 := Bool.eq_false_iff.mpr c15
            subst c15
            have H1 : (spec_TweenAt.j0 k a0 a1 a2 a3 a4 a5 true) = some (r1, r2) := by rw [if_neg (show ¬ (false = true) by decide)] at H; exact H
            clear H
            have H := H1
            clear H1
            have H' := Aside0.mk H
            clear H
            go_wp2_with (first | ((with_reducible refine gate_callee (f := 50) rfl ?_); refine goesL_ (some 16) rfl rfl Try.func50 (by kernel_rfl) rfl #[.int .i64 a0] rfl (by (try simp only [List.map_toArray, List.map_cons, List.map_nil]); first | done | rfl | (simp only [List.length_drop, List.length_take]; rfl)) ?_; (with_reducible refine (spec_GoodFixed.calls a0 true _ A8.out).mono ?_); rintro e w' ⟨rfl, ⟨nd, rfl⟩⟩; refine ⟨_, rfl, ?_⟩) | (go_at_call 50; (with_reducible refine (spec_GoodFixed.calls a1 true _ A10.out).mono ?_); rintro e w' ⟨rfl, ⟨nd, rfl⟩⟩) | (go_at_call 50; (with_reducible refine (spec_GoodFixed.calls (wrap64 (a1 - a0)) true _ A12.out).mono ?_); rintro e w' ⟨rfl, ⟨nd, rfl⟩⟩) | (go_at_call 69; (with_reducible refine (spec_l1In.calls a2 1 4 false _ A14.out).mono ?_); rintro e w' ⟨rfl, ⟨nd, rfl⟩⟩))
            go_meet
            case rel => exact ⟨_, (true), (by first | rfl | (simp; done) | (simp [*]; done)), H', ⟨by first | omega | exact Nat.le_refl _⟩, ⟨by repeat (first | (with_reducible first | exact HB.out | apply below_alloc | apply pw_below_drewN | apply below_drew1) | exact HB.out)⟩⟩
        · replace c13 := Bool.eq_false_iff.mpr c13
          subst c13
          have H1 : (spec_TweenAt.j0 k a0 a1 a2 a3 a4 a5 true) = some (r1, r2) := by rw [if_neg (show ¬ (false = true) by decide)] at H; exact H
          clear H
          have H := H1
          clear H1
          have H' := Aside0.mk H
          clear H
          go_wp2_with (first | ((with_reducible refine gate_callee (f := 50) rfl ?_); refine goesL_ (some 16) rfl rfl Try.func50 (by kernel_rfl) rfl #[.int .i64 a0] rfl (by (try simp only [List.map_toArray, List.map_cons, List.map_nil]); first | done | rfl | (simp only [List.length_drop, List.length_take]; rfl)) ?_; (with_reducible refine (spec_GoodFixed.calls a0 true _ A8.out).mono ?_); rintro e w' ⟨rfl, ⟨nd, rfl⟩⟩; refine ⟨_, rfl, ?_⟩) | (go_at_call 50; (with_reducible refine (spec_GoodFixed.calls a1 true _ A10.out).mono ?_); rintro e w' ⟨rfl, ⟨nd, rfl⟩⟩) | (go_at_call 50; (with_reducible refine (spec_GoodFixed.calls (wrap64 (a1 - a0)) false _ A12.out).mono ?_); rintro e w' ⟨rfl, ⟨nd, rfl⟩⟩))
          go_meet
          case rel => exact ⟨_, (true), (by first | rfl | (simp; done) | (simp [*]; done)), H', ⟨by first | omega | exact Nat.le_refl _⟩, ⟨by repeat (first | (with_reducible first | exact HB.out | apply below_alloc | apply pw_below_drewN | apply below_drew1) | exact HB.out)⟩⟩
      · replace c11 := Bool.eq_false_iff.mpr c11
        subst c11
        have H1 : (spec_TweenAt.j0 k a0 a1 a2 a3 a4 a5 true) = some (r1, r2) := by rw [if_neg (show ¬ (false = true) by decide)] at H; exact H
        clear H
        have H := H1
        clear H1
        have H' := Aside0.mk H
        clear H
        go_wp2_with (first | ((with_reducible refine gate_callee (f := 50) rfl ?_); refine goesL_ (some 16) rfl rfl Try.func50 (by kernel_rfl) rfl #[.int .i64 a0] rfl (by (try simp only [List.map_toArray, List.map_cons, List.map_nil]); first | done | rfl | (simp only [List.length_drop, List.length_take]; rfl)) ?_; (with_reducible refine (spec_GoodFixed.calls a0 true _ A8.out).mono ?_); rintro e w' ⟨rfl, ⟨nd, rfl⟩⟩; refine ⟨_, rfl, ?_⟩) | (go_at_call 50; (with_reducible refine (spec_GoodFixed.calls a1 false _ A10.out).mono ?_); rintro e w' ⟨rfl, ⟨nd, rfl⟩⟩))
        go_meet
        case rel => exact ⟨_, (true), (by first | rfl | (simp; done) | (simp [*]; done)), H', ⟨by first | omega | exact Nat.le_refl _⟩, ⟨by repeat (first | (with_reducible first | exact HB.out | apply below_alloc | apply pw_below_drewN | apply below_drew1) | exact HB.out)⟩⟩
    · replace c9 := Bool.eq_false_iff.mpr c9
      subst c9
      have H1 : (spec_TweenAt.j0 k a0 a1 a2 a3 a4 a5 true) = some (r1, r2) := by rw [if_neg (show ¬ (false = true) by decide)] at H; exact H
      clear H
      have H := H1
      clear H1
      have H' := Aside0.mk H
      clear H
      go_wp2_with (first | ((with_reducible refine gate_callee (f := 50) rfl ?_); refine goesL_ (some 16) rfl rfl Try.func50 (by kernel_rfl) rfl #[.int .i64 a0] rfl (by (try simp only [List.map_toArray, List.map_cons, List.map_nil]); first | done | rfl | (simp only [List.length_drop, List.length_take]; rfl)) ?_; (with_reducible refine (spec_GoodFixed.calls a0 false _ A8.out).mono ?_); rintro e w' ⟨rfl, ⟨nd, rfl⟩⟩; refine ⟨_, rfl, ?_⟩))
      go_meet
      case rel => exact ⟨_, (true), (by first | rfl | (simp; done) | (simp [*]; done)), H', ⟨by first | omega | exact Nat.le_refl _⟩, ⟨by repeat (first | (with_reducible first | exact HB.out | apply below_alloc | apply pw_below_drewN | apply below_drew1) | exact HB.out)⟩⟩
  case rest =>
    clear HC7
    try clear c1
    try clear c2
    try clear p2
    try clear c5
    try clear p6
    try clear c9
    try clear c11
    try clear c13
    try clear c15
    try clear c17
    try clear c19
    obtain ⟨kq, x49_6, rfl, HA, HJ6, HB⟩ := hcut
    cases kq with
    | zero => exact absurd HA.out (by simp [spec_TweenAt.j0])
    | succ kj6 =>
      have H := HA.out
      clear HA
      simp only [spec_TweenAt.j0] at H
      by_cases c21 : x49_6 = true
      · subst c21
        have H1 : (some (0, false)) = some (r1, r2) := by rw [if_pos rfl] at H; exact H
        clear H
        have H := H1
        clear H1
        simp only [Option.some.injEq, Prod.mk.injEq] at H
        obtain ⟨rfl, rfl⟩ := H
        go_wp2
        go_ret2
        exact ⟨by first | rfl | (simp [errW_none, errW_some] <;> rfl) | (simp [*, errW_none, errW_some] <;> rfl), by repeat (first | (with_reducible first | exact HB.out | apply below_alloc | apply pw_below_drewN | apply below_drew1) | exact HB.out)⟩
      · replace c21 := Bool.eq_false_iff.mpr c21
        subst c21
        have H1 : (if a5 < a3 then (some (a0, true)) else (if a5 ≥ (wrap64 (a3 + a4)) then (some (a1, true)) else (if a4 = 0 then (none) else ((spec_EaseAt.f kj6 a2 (wrap64 (Int.tdiv (wrap64 ((wrap64 (a5 - a3)) * 65536)) a4))).bind fun t143 => ((spec_FixMul.f kj6 (wrap64 (a1 - a0)) t143).bind fun t144 => ((spec_GoodFixed.f (wrap64 (a0 + t144))).bind fun t145 => (if t145 = true then (some (wrap64 (a0 + t144), true)) else (some (0, false))))))))) = some (r1, r2) := by rw [if_neg (show ¬ (false = true) by decide)] at H; exact H
        clear H
        have H := H1
        clear H1
        by_cases c22 : a5 < a3
        · rw [if_pos c22] at H
          have c22b0 : decide (a5 < a3) = true := decide_eq_true c22
          clear c22
          simp only [Option.some.injEq, Prod.mk.injEq] at H
          obtain ⟨rfl, rfl⟩ := H
          go_wp2
          go_ret2
          exact ⟨by first | rfl | (simp [errW_none, errW_some] <;> rfl) | (simp [*, errW_none, errW_some] <;> rfl), by repeat (first | (with_reducible first | exact HB.out | apply below_alloc | apply pw_below_drewN | apply below_drew1) | exact HB.out)⟩
        · rw [if_neg c22] at H
          have c22b0 : decide (a5 < a3) = false := decide_eq_false c22
          clear c22
          by_cases c23 : a5 ≥ (wrap64 (a3 + a4))
          · rw [if_pos c23] at H
            have c23b0 : decide ((wrap64 (a3 + a4)) ≤ a5) = true := decide_eq_true c23
            clear c23
            simp only [Option.some.injEq, Prod.mk.injEq] at H
            obtain ⟨rfl, rfl⟩ := H
            go_wp2
            go_ret2
            exact ⟨by first | rfl | (simp [errW_none, errW_some] <;> rfl) | (simp [*, errW_none, errW_some] <;> rfl), by repeat (first | (with_reducible first | exact HB.out | apply below_alloc | apply pw_below_drewN | apply below_drew1) | exact HB.out)⟩
          · rw [if_neg c23] at H
            have c23b0 : decide ((wrap64 (a3 + a4)) ≤ a5) = false := decide_eq_false c23
            clear c23
            by_cases c24 : a4 = 0
            · rw [if_pos c24] at H
              exact absurd H (by simp)
            · rw [if_neg c24] at H
              have c24b0 : (a4 == 0) = false := beq_eq_false_iff_ne.mpr c24
              have c24b1 : (a4 != 0) = true := bne_iff_ne.mpr c24
              replace H := Option.bind_eq_some_iff.mp H
              obtain ⟨t143, A250, H⟩ := H
              replace H : ((spec_FixMul.f kj6 (wrap64 (a1 - a0)) t143).bind fun t144 => ((spec_GoodFixed.f (wrap64 (a0 + t144))).bind fun t145 => (if t145 = true then (some (wrap64 (a0 + t144), true)) else (some (0, false))))) = some (r1, r2) := H
              have A25 := Aside0.mk A250
              clear A250
              replace H := Option.bind_eq_some_iff.mp H
              obtain ⟨t144, A260, H⟩ := H
              replace H : ((spec_GoodFixed.f (wrap64 (a0 + t144))).bind fun t145 => (if t145 = true then (some (wrap64 (a0 + t144), true)) else (some (0, false)))) = some (r1, r2) := H
              have A26 := Aside0.mk A260
              clear A260
              replace H := Option.bind_eq_some_iff.mp H
              obtain ⟨t145, A270, H⟩ := H
              replace H : (if t145 = true then (some (wrap64 (a0 + t144), true)) else (some (0, false))) = some (r1, r2) := H
              have A27 := Aside0.mk A270
              clear A270
              by_cases c28 : t145 = true
              · subst c28
                have H1 : (some (wrap64 (a0 + t144), true)) = some (r1, r2) := by rw [if_pos rfl] at H; exact H
                clear H
                have H := H1
                clear H1
                simp only [Option.some.injEq, Prod.mk.injEq] at H
                obtain ⟨rfl, rfl⟩ := H
                go_wp2_with (first | ((with_reducible refine gate_callee (f := 22) rfl ?_); refine goesL_ (some 71) rfl rfl Try.func22 (by kernel_rfl) rfl #[.int .i64 a2, .int .i64 (wrap64 (Int.tdiv (wrap64 ((wrap64 (a5 - a3)) * 65536)) a4))] rfl (by (try simp only [List.map_toArray, List.map_cons, List.map_nil]); first | done | rfl | (simp only [List.length_drop, List.length_take]; rfl)) ?_; (with_reducible refine (spec_EaseAt.calls kj6 a2 (wrap64 (Int.tdiv (wrap64 ((wrap64 (a5 - a3)) * 65536)) a4)) t143 _ A25.out).mono ?_); rintro e w29 ⟨rfl, hb⟩; refine ⟨_, rfl, ?_⟩; have n0_ := Aside0.mk (below_step (by repeat (first | (with_reducible first | exact HB.out | apply below_alloc | apply pw_below_drewN | apply below_drew1) | exact HB.out)) hb); clear HB; have HB := n0_; clear n0_; (try clear hb); (try clear hb2); (try clear hk); (try clear hi)) | ((with_reducible refine gate_callee (f := 18) rfl ?_); refine goesL_ (some 72) rfl rfl Try.func18 (by kernel_rfl) rfl #[.int .i64 (wrap64 (a1 - a0)), .int .i64 t143] rfl (by (try simp only [List.map_toArray, List.map_cons, List.map_nil]); first | done | rfl | (simp only [List.length_drop, List.length_take]; rfl)) ?_; (with_reducible refine (spec_FixMul.calls kj6 (wrap64 (a1 - a0)) t143 t144 _ A26.out).mono ?_); rintro e w30 ⟨rfl, hb⟩; refine ⟨_, rfl, ?_⟩; have n0_ := Aside0.mk (below_step (by repeat (first | (with_reducible first | exact HB.out | apply below_alloc | apply pw_below_drewN | apply below_drew1) | exact HB.out)) hb); clear HB; have HB := n0_; clear n0_; (try clear hb); (try clear hb2); (try clear hk); (try clear hi)) | ((with_reducible refine gate_callee (f := 50) rfl ?_); refine goesL_ (some 75) rfl rfl Try.func50 (by kernel_rfl) rfl #[.int .i64 (wrap64 (a0 + t144))] rfl (by (try simp only [List.map_toArray, List.map_cons, List.map_nil]); first | done | rfl | (simp only [List.length_drop, List.length_take]; rfl)) ?_; (with_reducible refine (spec_GoodFixed.calls (wrap64 (a0 + t144)) true _ A27.out).mono ?_); rintro e w' ⟨rfl, ⟨nd, rfl⟩⟩; refine ⟨_, rfl, ?_⟩))
                go_ret2
                exact ⟨by first | rfl | (simp [errW_none, errW_some] <;> rfl) | (simp [*, errW_none, errW_some] <;> rfl), by repeat (first | (with_reducible first | exact HB.out | apply below_alloc | apply pw_below_drewN | apply below_drew1) | exact HB.out)⟩
              · replace c28 := Bool.eq_false_iff.mpr c28
                subst c28
                have H1 : (some (0, false)) = some (r1, r2) := by rw [if_neg (show ¬ (false = true) by decide)] at H; exact H
                clear H
                have H := H1
                clear H1
                simp only [Option.some.injEq, Prod.mk.injEq] at H
                obtain ⟨rfl, rfl⟩ := H
                go_wp2_with (first | ((with_reducible refine gate_callee (f := 22) rfl ?_); refine goesL_ (some 71) rfl rfl Try.func22 (by kernel_rfl) rfl #[.int .i64 a2, .int .i64 (wrap64 (Int.tdiv (wrap64 ((wrap64 (a5 - a3)) * 65536)) a4))] rfl (by (try simp only [List.map_toArray, List.map_cons, List.map_nil]); first | done | rfl | (simp only [List.length_drop, List.length_take]; rfl)) ?_; (with_reducible refine (spec_EaseAt.calls kj6 a2 (wrap64 (Int.tdiv (wrap64 ((wrap64 (a5 - a3)) * 65536)) a4)) t143 _ A25.out).mono ?_); rintro e w31 ⟨rfl, hb⟩; refine ⟨_, rfl, ?_⟩; have n0_ := Aside0.mk (below_step (by repeat (first | (with_reducible first | exact HB.out | apply below_alloc | apply pw_below_drewN | apply below_drew1) | exact HB.out)) hb); clear HB; have HB := n0_; clear n0_; (try clear hb); (try clear hb2); (try clear hk); (try clear hi)) | ((with_reducible refine gate_callee (f := 18) rfl ?_); refine goesL_ (some 72) rfl rfl Try.func18 (by kernel_rfl) rfl #[.int .i64 (wrap64 (a1 - a0)), .int .i64 t143] rfl (by (try simp only [List.map_toArray, List.map_cons, List.map_nil]); first | done | rfl | (simp only [List.length_drop, List.length_take]; rfl)) ?_; (with_reducible refine (spec_FixMul.calls kj6 (wrap64 (a1 - a0)) t143 t144 _ A26.out).mono ?_); rintro e w32 ⟨rfl, hb⟩; refine ⟨_, rfl, ?_⟩; have n0_ := Aside0.mk (below_step (by repeat (first | (with_reducible first | exact HB.out | apply below_alloc | apply pw_below_drewN | apply below_drew1) | exact HB.out)) hb); clear HB; have HB := n0_; clear n0_; (try clear hb); (try clear hb2); (try clear hk); (try clear hi)) | ((with_reducible refine gate_callee (f := 50) rfl ?_); refine goesL_ (some 75) rfl rfl Try.func50 (by kernel_rfl) rfl #[.int .i64 (wrap64 (a0 + t144))] rfl (by (try simp only [List.map_toArray, List.map_cons, List.map_nil]); first | done | rfl | (simp only [List.length_drop, List.length_take]; rfl)) ?_; (with_reducible refine (spec_GoodFixed.calls (wrap64 (a0 + t144)) false _ A27.out).mono ?_); rintro e w' ⟨rfl, ⟨nd, rfl⟩⟩; refine ⟨_, rfl, ?_⟩))
                go_ret2
                exact ⟨by first | rfl | (simp [errW_none, errW_some] <;> rfl) | (simp [*, errW_none, errW_some] <;> rfl), by repeat (first | (with_reducible first | exact HB.out | apply below_alloc | apply pw_below_drewN | apply below_drew1) | exact HB.out)⟩

/-! ### impl_inRange: function 70 -/
def impl_inRange.f (a0 : Int) (a1 : Int) (a2 : Int) : Option (Bool) := if a1 ≤ a0 then (some (decide (a0 ≤ a2))) else (some false)
set_option maxHeartbeats 8000000 in
set_option maxRecDepth 100000 in
theorem impl_inRange.calls (a0 : Int) (a1 : Int) (a2 : Int) (r : Bool) (w : World) (h : impl_inRange.f a0 a1 a2 = some r) :
    Calls Try.prog 70 #[.int .i64 a0, .int .i64 a1, .int .i64 a2] w fun e w' => e = .returned (.bool r) ∧ Drawn0 w w' := by
  have H : (if a1 ≤ a0 then (some (decide (a0 ≤ a2))) else (some false)) = some r := h
  clear h
  by_cases c4 : a1 ≤ a0
  · rw [if_pos c4] at H
    have c4b0 : decide (a1 ≤ a0) = true := decide_eq_true c4
    clear c4
    obtain rfl := Option.some.inj H
    go_enter Try.func70, Try.ntmps70
    go_wp2
    go_ret
    exact ⟨by first | rfl | (simp; done) | (simp [*]; done), by repeat (first | exact Drawn0.refl _ | apply Drawn0.step)⟩
  · rw [if_neg c4] at H
    have c4b0 : decide (a1 ≤ a0) = false := decide_eq_false c4
    clear c4
    obtain rfl := Option.some.inj H
    go_enter Try.func70, Try.ntmps70
    go_wp2
    go_ret
    exact ⟨by first | rfl | (simp; done) | (simp [*]; done), by repeat (first | exact Drawn0.refl _ | apply Drawn0.step)⟩

/-! ### impl_GoodFixed: function 72 -/
def impl_GoodFixed.f (a0 : Int) : Option (Bool) := (impl_inRange.f a0 (-1099511627776) 1099511627776).bind fun t146 => (some t146)
set_option maxHeartbeats 8000000 in
set_option maxRecDepth 100000 in
theorem impl_GoodFixed.calls (a0 : Int) (r : Bool) (w : World) (h : impl_GoodFixed.f a0 = some r) :
    Calls Try.prog 72 #[.int .i64 a0] w fun e w' => e = .returned (.bool r) ∧ Drawn0 w w' := by
  have H : ((impl_inRange.f a0 (-1099511627776) 1099511627776).bind fun t146 => (some t146)) = some r := h
  clear h
  replace H := Option.bind_eq_some_iff.mp H
  obtain ⟨t146, A20, H⟩ := H
  replace H : (some t146) = some r := H
  have A2 := Aside0.mk A20
  clear A20
  obtain rfl := Option.some.inj H
  go_enter Try.func72, Try.ntmps72
  go_wp2_with (first | ((with_reducible refine gate_callee (f := 70) rfl ?_); refine goesL_ (some 4) rfl rfl Try.func70 (by kernel_rfl) rfl #[.int .i64 a0, .int .i64 (-1099511627776), .int .i64 1099511627776] rfl (by (try simp only [List.map_toArray, List.map_cons, List.map_nil]); first | done | rfl | (simp only [List.length_drop, List.length_take]; rfl)) ?_; (with_reducible refine (impl_inRange.calls a0 (-1099511627776) 1099511627776 t146 _ A2.out).mono ?_); rintro e w' ⟨rfl, ⟨nd, rfl⟩⟩; refine ⟨_, rfl, ?_⟩))
  go_ret
  exact ⟨by first | rfl | (simp; done) | (simp [*]; done), by repeat (first | exact Drawn0.refl _ | apply Drawn0.step)⟩

/-! ### impl_areFixed: function 53 -/
def impl_areFixed.l0 : Nat → List Int → Int → Int → Option (Bool)
  | 0, _, _, _ => none
  | k + 1, x5, x6, x7 => if x7 < x6 then (if 0 ≤ x7 then (if x7 < (x5.length : Int) then ((impl_GoodFixed.f (rd x5 x7)).bind fun t148 => (if t148 = true then (impl_areFixed.l0 k x5 x6 (wrap64 (x7 + 1))) else (some false))) else (none)) else (none)) else (some true)
def impl_areFixed.f (k : Nat) (l0 : List Int) : Option (Bool) := impl_areFixed.l0 k l0 (l0.length : Int) 0
theorem impl_areFixed.mono_l : ∀ k, (∀ y0 y1 y2, LeO (impl_areFixed.l0 k y0 y1 y2) (impl_areFixed.l0 (k + 1) y0 y1 y2))
  | 0 => fun _ _ _ r h => by simp [impl_areFixed.l0] at h
  | k + 1 => by
    have ih0 := impl_areFixed.mono_l k
    · intro y0 y1 y2
      unfold impl_areFixed.l0
      repeat' first
      | (with_reducible exact ih0 _ _ _)
      | (with_reducible exact LeO.refl _)
      | (with_reducible exact LeO.none _)
      | (with_reducible refine LeO.ite ?_ ?_)
      | (with_reducible refine LeO.bind ?_ (fun _ => ?_))
      | exact ih0 _ _ _
      | exact LeO.none _
      | refine LeO.ite ?_ ?_
      | refine LeO.bind ?_ (fun _ => ?_)
theorem impl_areFixed.mono : ∀ a0 k, LeO (impl_areFixed.f k a0) (impl_areFixed.f (k + 1) a0) := by
  intro a0 k
  have ih0 := impl_areFixed.mono_l k
  unfold impl_areFixed.f
  repeat' first
      | (with_reducible exact ih0 _ _ _)
      | (with_reducible exact LeO.refl _)
      | (with_reducible exact LeO.none _)
      | (with_reducible refine LeO.ite ?_ ?_)
      | (with_reducible refine LeO.bind ?_ (fun _ => ?_))
      | exact ih0 _ _ _
      | exact LeO.none _
      | refine LeO.ite ?_ ?_
      | refine LeO.bind ?_ (fun _ => ?_)
set_option maxHeartbeats 8000000 in
set_option maxRecDepth 100000 in
theorem impl_areFixed.calls (k : Nat) (A0 : Option Addr) (c0 : Nat) (l0 : List Int) (r : Bool) (w : World) (hr0 : Kd.C (Kd.int .i64) w A0 l0.length l0) (hc0 : l0.length ≤ c0) (h : impl_areFixed.f k l0 = some r) :
    Calls Try.prog 53 #[.slice A0 l0.length c0] w fun e w' => e = .returned (.bool r) ∧ Drawn0 w w' := by
  have HR0 := Aside0.mk hr0
  have HC0 := Aside0.mk hc0
  clear hr0 hc0
  have H : (impl_areFixed.l0 k l0 (l0.length : Int) 0) = some r := h
  clear h
  have H' := Aside0.mk H
  clear H
  go_enter Try.func53, Try.ntmps53
  go_wp2
  go_loopg [7] k (fun kq v7 w' => ∃ (x7_1 : Int), v7 = .int .i64 x7_1 ∧ Aside0 (impl_areFixed.l0 kq l0 (l0.length : Int) x7_1 = some r) ∧ Aside0 (kq ≤ k) ∧ Drawn0 w w')
  case atStart => exact ⟨(0), (by first | rfl | (simp; done) | (simp [*]; done)), H', ⟨Nat.le_refl _⟩, by repeat (first | exact Drawn0.refl _ | apply Drawn0.step)⟩
  case round =>
    clear H'
    obtain ⟨x7_1, rfl, HA, HK1, ⟨m1, rfl⟩⟩ := hrel
    cases gk with
    | zero => exact absurd HA.out (by simp [impl_areFixed.l0])
    | succ k1 =>
      have H := HA.out
      clear HA
      simp only [impl_areFixed.l0] at H
      by_cases c2 : x7_1 < (l0.length : Int)
      · rw [if_pos c2] at H
        have c2b0 : decide (x7_1 < (l0.length : Int)) = true := decide_eq_true c2
        clear c2
        by_cases c3 : 0 ≤ x7_1
        · rw [if_pos c3] at H
          have c3b0 : decide (0 ≤ x7_1) = true := decide_eq_true c3
          clear c3
          by_cases c4 : x7_1 < (l0.length : Int)
          · rw [if_pos c4] at H
            have c4b0 : decide (x7_1 < (l0.length : Int)) = true := decide_eq_true c4
            clear c4
            replace H := Option.bind_eq_some_iff.mp H
            obtain ⟨t148, A50, H⟩ := H
            replace H : (if t148 = true then (impl_areFixed.l0 k1 l0 (l0.length : Int) (wrap64 (x7_1 + 1))) else (some false)) = some r := H
            have A5 := Aside0.mk A50
            clear A50
            by_cases c6 : t148 = true
            · subst c6
              have H1 : (impl_areFixed.l0 k1 l0 (l0.length : Int) (wrap64 (x7_1 + 1))) = some r := by rw [if_pos rfl] at H; exact H
              clear H
              have H := H1
              clear H1
              have H' := Aside0.mk H
              clear H
              have p147 : 0 ≤ (x7_1 : Int) := of_decide_eq_true (by first | (with_reducible assumption) | assumption)
              have q147 : x7_1 < (l0.length : Int) := of_decide_eq_true (by first | (with_reducible assumption) | assumption)
              obtain ⟨ad147, e147, hx147_0⟩ := Kd.at_int HR0.out x7_1 p147 q147
              cases e147
              replace p147 := eq_true p147
              replace q147 := eq_true q147
              go_wp2_with (first | ((with_reducible refine gate_callee (f := 72) rfl ?_); refine goesL_ (some 12) rfl rfl Try.func72 (by kernel_rfl) rfl #[.int .i64 (rd l0 x7_1)] rfl (by (try simp only [List.map_toArray, List.map_cons, List.map_nil]); first | done | rfl | (simp only [List.length_drop, List.length_take]; rfl)) ?_; (with_reducible refine (impl_GoodFixed.calls (rd l0 x7_1) true _ A5.out).mono ?_); rintro e w' ⟨rfl, ⟨nd, rfl⟩⟩; refine ⟨_, rfl, ?_⟩))
              go_roundg k1
              case measure => have := HK1.out; omega
              case rel => exact ⟨(wrap64 (x7_1 + 1)), (by first | rfl | (simp; done) | (simp [*]; done)), H', ⟨by have := HK1.out; omega⟩, by repeat (first | exact Drawn0.refl _ | apply Drawn0.step)⟩
            · replace c6 := Bool.eq_false_iff.mpr c6
              subst c6
              have H1 : (some false) = some r := by rw [if_neg (show ¬ (false = true) by decide)] at H; exact H
              clear H
              have H := H1
              clear H1
              obtain rfl := Option.some.inj H
              have p147 : 0 ≤ (x7_1 : Int) := of_decide_eq_true (by first | (with_reducible assumption) | assumption)
              have q147 : x7_1 < (l0.length : Int) := of_decide_eq_true (by first | (with_reducible assumption) | assumption)
              obtain ⟨ad147, e147, hx147_0⟩ := Kd.at_int HR0.out x7_1 p147 q147
              cases e147
              replace p147 := eq_true p147
              replace q147 := eq_true q147
              go_wp2_with (first | ((with_reducible refine gate_callee (f := 72) rfl ?_); refine goesL_ (some 12) rfl rfl Try.func72 (by kernel_rfl) rfl #[.int .i64 (rd l0 x7_1)] rfl (by (try simp only [List.map_toArray, List.map_cons, List.map_nil]); first | done | rfl | (simp only [List.length_drop, List.length_take]; rfl)) ?_; (with_reducible refine (impl_GoodFixed.calls (rd l0 x7_1) false _ A5.out).mono ?_); rintro e w' ⟨rfl, ⟨nd, rfl⟩⟩; refine ⟨_, rfl, ?_⟩))
              go_ret
              exact ⟨by first | rfl | (simp; done) | (simp [*]; done), by repeat (first | exact Drawn0.refl _ | apply Drawn0.step)⟩
          · rw [if_neg c4] at H
            exact absurd H (by simp)
        · rw [if_neg c3] at H
          exact absurd H (by simp)
      · rw [if_neg c2] at H
        have c2b0 : decide (x7_1 < (l0.length : Int)) = false := decide_eq_false c2
        clear c2
        obtain rfl := Option.some.inj H
        go_wp2
        go_ret
        exact ⟨by first | rfl | (simp; done) | (simp [*]; done), by repeat (first | exact Drawn0.refl _ | apply Drawn0.step)⟩

/-! ### bits_Mul64: function 61 -/
def bits_Mul64.f (a0 : Int) (a1 : Int) : Option (Int × Int) := some (IntKind.u64.wrap ((IntKind.u64.wrap ((IntKind.u64.wrap ((a0 / 4294967296) * (a1 / 4294967296))) + ((IntKind.u64.wrap ((IntKind.u64.wrap ((a0 / 4294967296) * (Go.bits .and .u64 a1 4294967295))) + ((IntKind.u64.wrap ((Go.bits .and .u64 a0 4294967295) * (Go.bits .and .u64 a1 4294967295))) / 4294967296))) / 4294967296))) + ((IntKind.u64.wrap ((Go.bits .and .u64 (IntKind.u64.wrap ((IntKind.u64.wrap ((a0 / 4294967296) * (Go.bits .and .u64 a1 4294967295))) + ((IntKind.u64.wrap ((Go.bits .and .u64 a0 4294967295) * (Go.bits .and .u64 a1 4294967295))) / 4294967296))) 4294967295) + (IntKind.u64.wrap ((Go.bits .and .u64 a0 4294967295) * (a1 / 4294967296))))) / 4294967296)), IntKind.u64.wrap (a0 * a1))
set_option maxHeartbeats 8000000 in
set_option maxRecDepth 100000 in
theorem bits_Mul64.calls (a0 : Int) (a1 : Int) (r1 : Int) (r2 : Int) (w : World) (h : bits_Mul64.f a0 a1 = some (r1, r2)) :
    Calls Try.prog 61 #[.int .u64 a0, .int .u64 a1] w fun e w' => e = .returned (.tuple #[.int .u64 r1, .int .u64 r2]) ∧ Drawn0 w w' := by
  have H : (some (IntKind.u64.wrap ((IntKind.u64.wrap ((IntKind.u64.wrap ((a0 / 4294967296) * (a1 / 4294967296))) + ((IntKind.u64.wrap ((IntKind.u64.wrap ((a0 / 4294967296) * (Go.bits .and .u64 a1 4294967295))) + ((IntKind.u64.wrap ((Go.bits .and .u64 a0 4294967295) * (Go.bits .and .u64 a1 4294967295))) / 4294967296))) / 4294967296))) + ((IntKind.u64.wrap ((Go.bits .and .u64 (IntKind.u64.wrap ((IntKind.u64.wrap ((a0 / 4294967296) * (Go.bits .and .u64 a1 4294967295))) + ((IntKind.u64.wrap ((Go.bits .and .u64 a0 4294967295) * (Go.bits .and .u64 a1 4294967295))) / 4294967296))) 4294967295) + (IntKind.u64.wrap ((Go.bits .and .u64 a0 4294967295) * (a1 / 4294967296))))) / 4294967296)), IntKind.u64.wrap (a0 * a1))) = some (r1, r2) := h
  clear h
  simp only [Option.some.injEq, Prod.mk.injEq] at H
  obtain ⟨rfl, rfl⟩ := H
  go_enter Try.func61, Try.ntmps61
  go_wp2
  go_ret2
  exact ⟨by first | rfl | (simp; done) | (simp [*]; done), by repeat (first | exact Drawn0.refl _ | apply Drawn0.step)⟩

/-! ### impl_size: function 62 -/
def impl_size.f (a0 : Int) : Option (Int) := some (mx a0 (wrap64 (-a0)))
set_option maxHeartbeats 8000000 in
set_option maxRecDepth 100000 in
theorem impl_size.calls (a0 : Int) (r : Int) (w : World) (h : impl_size.f a0 = some r) :
    Calls Try.prog 62 #[.int .i64 a0] w fun e w' => e = .returned (.int .i64 r) ∧ Below w.heap.size w w' := by
  have HB := Aside0.mk (Below.refl w.heap.size w)
  have H : (some (mx a0 (wrap64 (-a0)))) = some r := h
  clear h
  obtain ⟨ji2, hji2⟩ : ∃ j_ : Int, (mx a0 (wrap64 (-a0))) = j_ := ⟨_, rfl⟩
  replace H : (some ji2) = some r := by first | (rw [hji2] at H; exact H) | (simp only [hji2] at H ⊢; exact H)
  have hji2_ : (if a0 < (wrap64 (-a0)) then (wrap64 (-a0)) else a0) = ji2 := hji2
  obtain rfl := Option.some.inj H
  go_enter Try.func62, Try.ntmps62
  go_wp2
  go_ret
  exact ⟨by first | rfl | (simp [errW_none, errW_some] <;> rfl) | (simp only [← hji2]; first | rfl | (simp [errW_none, errW_some] <;> rfl)) | (simp [*, errW_none, errW_some] <;> rfl), by repeat (first | (with_reducible first | exact HB.out | apply below_alloc | apply pw_below_drewN | apply below_drew1) | exact HB.out)⟩


/-! ### impl_FixMul: function 19 -/
def impl_FixMul.abs (a : Int) : Int := if a < 0 then -a else a
def impl_FixMul.n (a b h : Int) : Int := mn ((impl_FixMul.abs a * impl_FixMul.abs b + h) / 65536) 1099511627776
/-- The product of two fixed numbers, to the nearest. -/
def impl_FixMul.g (a b : Int) : Int := if ((decide (a < 0)) != (decide (b < 0))) = true then -(impl_FixMul.n a b 32767) else impl_FixMul.n a b 32768
def impl_FixMul.f (k : Nat) (a0 : Int) (a1 : Int) : Option (Int) := (impl_areFixed.f k [a0, a1]).bind fun t => if t = true then (if -1099511627776 ≤ a0 ∧ a0 ≤ 1099511627776 ∧ -1099511627776 ≤ a1 ∧ a1 ≤ 1099511627776 then some (impl_FixMul.g a0 a1) else none) else some 0
theorem impl_FixMul.mono : ∀ a0 a1 k, LeO (impl_FixMul.f k a0 a1) (impl_FixMul.f (k + 1) a0 a1) := by
  intro a0 a1 k
  unfold impl_FixMul.f
  exact LeO.bind (impl_areFixed.mono _ _) (fun _ => LeO.refl _)
theorem impl_FixMul.ret {x y : Int} (h : x = y) : Ending.returned (.int .i64 x) = .returned (.int .i64 y) := by rw [h]
theorem impl_FixMul.sized {a : Int} (h0 : -1099511627776 ≤ a) (h1 : a ≤ 1099511627776) : impl_size.f a = some (impl_FixMul.abs a) := by
  unfold impl_size.f impl_FixMul.abs mx
  congr 1
  have e : wrap64 (-a) = -a := by unfold wrap64; omega
  rw [e]
  split <;> split <;> omega
theorem impl_FixMul.absIn {a : Int} (h0 : -1099511627776 ≤ a) (h1 : a ≤ 1099511627776) : 0 ≤ impl_FixMul.abs a ∧ impl_FixMul.abs a ≤ 1099511627776 := by
  unfold impl_FixMul.abs; split <;> omega
theorem impl_FixMul.add (x y : Int) (hx : 0 ≤ x) (hy : 0 ≤ y) (w : World) : (callFunc 63 #[.int .u64 x, .int .u64 y, .int .u64 0]).run Try.prog w = .ok (.value (.tuple #[.int .u64 ((x + y) % 18446744073709551616), .int .u64 ((x + y) / 18446744073709551616)])) w := by
  rw [run_callFunc_extern Try.func63 (by kernel_rfl) (by kernel_rfl) (by kernel_rfl) (e := add64Entry) (by kernel_rfl), run_add64 x y 0 hx hy (by omega) (by omega)]
  simp only [Result.andThen, Int.add_zero]
theorem impl_FixMul.or48 {m y : Int} (h0 : 0 ≤ m) (h1 : m < 65536) (g0 : 0 ≤ y) (g1 : y < 281474976710656) : Go.bits .or .u64 (m * 281474976710656) y = m * 281474976710656 + y :=
  Go.bits_join .u64 64 (by decide) (fun n a b => by have e : IntKind.u64.wrap n = n % 18446744073709551616 := by simp [IntKind.wrap, IntKind.bits, IntKind.signed]
                                                    rw [e]; omega) 48 (m * 281474976710656) y (by omega) (by omega) (by omega) g0 (by omega) (by omega)
set_option maxHeartbeats 4000000 in
set_option maxRecDepth 100000 in
theorem impl_FixMul.yes (k : Nat) (a b : Int) (w : World) (ht : impl_areFixed.f k [a, b] = some true) (a0 : -1099511627776 ≤ a) (a1 : a ≤ 1099511627776) (b0 : -1099511627776 ≤ b) (b1 : b ≤ 1099511627776) (hi l C L X : Int) (hm : bits_Mul64.f (impl_FixMul.abs a) (impl_FixMul.abs b) = some (hi, l)) (h0 : 0 ≤ hi) (h1 : hi ≤ 65536) (c0 : 0 ≤ C) (c1 : C ≤ 1) (L0 : 0 ≤ L) (L1 : L < 18446744073709551616)
    (hx : hi + C < 65536 → Go.bits .or .u64 ((hi + C) * 281474976710656) (L / 65536) = X) (x0 : 0 ≤ X) (x1 : hi + C < 65536 → X ≤ 18446744073709551615) (xh : ¬ hi + C < 65536 → 1099511627776 ≤ X)
    (neg : Bool) (hn : ((decide (a < 0)) != (decide (b < 0))) = neg) (hadd : ∀ W : World, (callFunc 63 #[.int .u64 l, .int .u64 (if neg = true then 32767 else 32768), .int .u64 0]).run Try.prog W = .ok (.value (.tuple #[.int .u64 L, .int .u64 C])) W) :
    Calls Try.prog 19 #[.int .i64 a, .int .i64 b] w fun e w' => e = .returned (.int .i64 (if neg = true then -(mn X 1099511627776) else mn X 1099511627776)) ∧ Below w.heap.size w w' := by
  have HT := Aside0.mk ht
  have HM := Aside0.mk hm
  have SA := Aside0.mk (impl_FixMul.sized a0 a1)
  have SB := Aside0.mk (impl_FixMul.sized b0 b1)
  have I1 := impl_FixMul.absIn a0 a1
  have I2 := impl_FixMul.absIn b0 b1
  clear ht hm
  have hn2 : (decide (a < 0) == decide (b < 0)) = !neg := by rw [← hn]; cases decide (a < 0) <;> cases decide (b < 0) <;> rfl
  cases neg
  all_goals
    simp only [Bool.false_eq_true, if_false, if_true, Bool.not_true, Bool.not_false] at hadd hn2 ⊢
    by_cases hH : hi + C < 65536
    all_goals
      have hq : ((hi + C) / 65536 == 0) = decide (hi + C < 65536) := by
        by_cases e : hi + C < 65536
        · rw [decide_eq_true e, beq_iff_eq]; omega
        · rw [decide_eq_false e, beq_eq_false_iff_ne]; omega
      first | rw [decide_eq_true hH] at hq | rw [decide_eq_false hH] at hq
      have HX := Aside0.mk hx
      have HXH := Aside0.mk xh
      have HX4 := Aside0.mk x1
      clear hx xh x1
      go_enter Try.func19, Try.ntmps19
      go_wp2_with fail
      refine (impl_areFixed.calls k _ _ [a, b] true _ (C_two (ad := ⟨w.heap.size, 0, none⟩) (by simp [Addr.add]) (by simp [Addr.add])) (by simp) HT.out).mono ?_
      rintro e w1 ⟨rfl, ⟨n1, rfl⟩⟩
      go_wp2_with fail
      refine (impl_size.calls a (impl_FixMul.abs a) _ SA.out).mono ?_
      rintro e w2 ⟨rfl, hb⟩
      have HB := Aside0.mk (below_step (w := w) (by repeat (first | exact Below.refl _ _ | apply below_alloc | apply pw_below_drewN | apply below_drew1)) hb)
      clear hb
      go_wp2_with fail
      refine (impl_size.calls b (impl_FixMul.abs b) _ SB.out).mono ?_
      rintro e w3 ⟨rfl, hb⟩
      have HB2 := Aside0.mk (below_step (w := w) (by repeat (first | exact HB.out | apply below_alloc | apply pw_below_drewN | apply below_drew1)) hb)
      clear hb HB
      go_wp2_with fail
      refine (bits_Mul64.calls (impl_FixMul.abs a) (impl_FixMul.abs b) hi l _ HM.out).mono ?_
      rintro e w4 ⟨rfl, ⟨n4, rfl⟩⟩
      first | (have HX1 := HX.out hH; have HX2 := HX4.out hH) | skip
      go_wp2
      all_goals
        go_ret
        refine ⟨impl_FixMul.ret ?_, by repeat (first | (with_reducible exact HB2.out) | apply below_alloc | apply pw_below_drewN | apply below_drew1)⟩
        first | (have HX3 := HXH.out hH) | skip
        unfold mn
        split <;> omega
theorem impl_FixMul.mul64 {x y : Int} (x0 : 0 ≤ x) (x1 : x ≤ 1099511627776) (y0 : 0 ≤ y) (y1 : y ≤ 1099511627776) : bits_Mul64.f x y = some (x * y / 18446744073709551616, x * y % 18446744073709551616) := by
  have wu : ∀ n : Int, IntKind.u64.wrap n = n % 18446744073709551616 := fun n => by simp [IntKind.wrap, IntKind.bits, IntKind.signed]
  have wi : ∀ n : Int, 0 ≤ n → n < 18446744073709551616 → IntKind.u64.wrap n = n := fun n h0 h1 => by rw [wu]; omega
  have msk : ∀ n : Int, 0 ≤ n → n < 18446744073709551616 → Go.bits .and .u64 n 4294967295 = n % 4294967296 := fun n h0 h1 => by
    exact Go.bits_mask .u64 64 (by decide) (fun n a b => by rw [wu]; omega) 32 (by decide) n h0 (by omega)
  unfold bits_Mul64.f
  obtain ⟨p, hp⟩ : ∃ p, x / 4294967296 = p := ⟨_, rfl⟩
  obtain ⟨q, hq⟩ : ∃ q, x % 4294967296 = q := ⟨_, rfl⟩
  obtain ⟨u, hu⟩ : ∃ u, y / 4294967296 = u := ⟨_, rfl⟩
  obtain ⟨v, hv⟩ : ∃ v, y % 4294967296 = v := ⟨_, rfl⟩
  rw [msk x x0 (by omega), msk y y0 (by omega), hp, hq, hu, hv]
  have p0 : 0 ≤ p ∧ p ≤ 256 := by omega
  have q0 : 0 ≤ q ∧ q < 4294967296 := by omega
  have u0 : 0 ≤ u ∧ u ≤ 256 := by omega
  have v0 : 0 ≤ v ∧ v < 4294967296 := by omega
  have hx : x = p * 4294967296 + q := by omega
  have hy : y = u * 4294967296 + v := by omega
  clear hp hq hu hv x0 x1 y0 y1
  have P0 : 0 ≤ p * u := Int.mul_nonneg p0.1 u0.1
  have P1 : p * u ≤ 256 * 256 := Int.mul_le_mul p0.2 u0.2 u0.1 (by omega)
  have Q0 : 0 ≤ p * v := Int.mul_nonneg p0.1 v0.1
  have Q1 : p * v ≤ 256 * 4294967295 := Int.mul_le_mul p0.2 (by omega) v0.1 (by omega)
  have R0 : 0 ≤ q * u := Int.mul_nonneg q0.1 u0.1
  have R1 : q * u ≤ 4294967295 * 256 := Int.mul_le_mul (by omega) u0.2 u0.1 (by omega)
  have S0 : 0 ≤ q * v := Int.mul_nonneg q0.1 v0.1
  have S1 : q * v ≤ 4294967295 * 4294967295 := Int.mul_le_mul (by omega) (by omega) v0.1 (by omega)
  have E : x * y = (p * u) * 18446744073709551616 + (p * v) * 4294967296 + (q * u) * 4294967296 + q * v := by
    rw [hx, hy, Int.add_mul, Int.mul_add, Int.mul_add]
    have e1 : p * 4294967296 * (u * 4294967296) = (p * u) * 18446744073709551616 := by
      rw [Int.mul_assoc, Int.mul_left_comm 4294967296 u 4294967296, ← Int.mul_assoc]; rfl
    have e2 : p * 4294967296 * v = (p * v) * 4294967296 := by rw [Int.mul_assoc, Int.mul_comm 4294967296 v, ← Int.mul_assoc]
    have e3 : q * (u * 4294967296) = (q * u) * 4294967296 := by rw [← Int.mul_assoc]
    rw [e1, e2, e3]; omega
  rw [E]
  clear E hx hy
  generalize p * u = P at *
  generalize p * v = Q at *
  generalize q * u = R at *
  generalize q * v = S at *
  rw [wi P (by omega) (by omega), wi Q (by omega) (by omega), wi R (by omega) (by omega), wi S (by omega) (by omega)]
  rw [wi (Q + S / 4294967296) (by omega) (by omega), wi (P + (Q + S / 4294967296) / 4294967296) (by omega) (by omega)]
  rw [msk (Q + S / 4294967296) (by omega) (by omega), wi ((Q + S / 4294967296) % 4294967296 + R) (by omega) (by omega)]
  rw [wi (P + (Q + S / 4294967296) / 4294967296 + ((Q + S / 4294967296) % 4294967296 + R) / 4294967296) (by omega) (by omega), wu]
  congr 1
  rw [Prod.mk.injEq]
  exact ⟨by omega, rfl⟩
theorem impl_FixMul.all (k : Nat) (a b : Int) (w : World) (ht : impl_areFixed.f k [a, b] = some true) (a0 : -1099511627776 ≤ a) (a1 : a ≤ 1099511627776) (b0 : -1099511627776 ≤ b) (b1 : b ≤ 1099511627776) :
    Calls Try.prog 19 #[.int .i64 a, .int .i64 b] w fun e w' => e = .returned (.int .i64 (impl_FixMul.g a b)) ∧ Below w.heap.size w w' := by
  have I1 := impl_FixMul.absIn a0 a1
  have I2 := impl_FixMul.absIn b0 b1
  have hm := impl_FixMul.mul64 I1.1 I1.2 I2.1 I2.2
  have P0 : 0 ≤ impl_FixMul.abs a * impl_FixMul.abs b := Int.mul_nonneg I1.1 I2.1
  have P1 : impl_FixMul.abs a * impl_FixMul.abs b ≤ 1099511627776 * 1099511627776 := Int.mul_le_mul I1.2 I2.2 I2.1 (by omega)
  generalize hA : impl_FixMul.abs a = A at *
  generalize hB : impl_FixMul.abs b = B at *
  have key : ∀ (neg : Bool) (half : Int), half = (if neg = true then 32767 else 32768) → ((decide (a < 0)) != (decide (b < 0))) = neg → 32767 ≤ half → half ≤ 32768 →
      Calls Try.prog 19 #[.int .i64 a, .int .i64 b] w fun e w' => e = .returned (.int .i64 (if neg = true then -(mn ((A * B + half) / 65536) 1099511627776) else mn ((A * B + half) / 65536) 1099511627776)) ∧ Below w.heap.size w w' := by
    intro neg half hh hn f0 f1
    have hadd : ∀ W : World, (callFunc 63 #[.int .u64 (A * B % 18446744073709551616), .int .u64 (if neg = true then 32767 else 32768), .int .u64 0]).run Try.prog W = .ok (.value (.tuple #[.int .u64 ((A * B % 18446744073709551616 + half) % 18446744073709551616), .int .u64 ((A * B % 18446744073709551616 + half) / 18446744073709551616)])) W := fun W => by
      rw [← hh]
      exact impl_FixMul.add _ half (by omega) (by omega) W
    generalize A * B = P at *
    refine impl_FixMul.yes k a b w ht a0 a1 b0 b1 (P / 18446744073709551616) (P % 18446744073709551616) ((P % 18446744073709551616 + half) / 18446744073709551616) ((P % 18446744073709551616 + half) % 18446744073709551616) ((P + half) / 65536) (by rw [hA, hB]; exact hm) (by omega) (by omega) (by omega) (by omega) (by omega) (by omega) ?_ (by omega) (by omega) (by omega) neg hn hadd
    intro hH
    rw [impl_FixMul.or48 (by omega) hH (by omega) (by omega)]
    omega
  unfold impl_FixMul.g impl_FixMul.n
  rw [hA, hB]
  cases hn : ((decide (a < 0)) != (decide (b < 0))) with
  | true =>
    have hk := key true 32767 (by simp) hn (by omega) (by omega)
    simp only [if_true] at hk ⊢
    exact hk
  | false =>
    have hk := key false 32768 (by simp) hn (by omega) (by omega)
    simp only [Bool.false_eq_true, if_false] at hk ⊢
    exact hk
theorem impl_FixMul.calls (k : Nat) (a0 : Int) (a1 : Int) (r : Int) (w : World) (h : impl_FixMul.f k a0 a1 = some r) :
    Calls Try.prog 19 #[.int .i64 a0, .int .i64 a1] w fun e w' => e = .returned (.int .i64 r) ∧ Below w.heap.size w w' := by
  unfold impl_FixMul.f at h
  obtain ⟨t, ht, h⟩ := Option.bind_eq_some_iff.mp h
  cases t with
  | false =>
    rw [if_neg (show ¬ (false = true) by decide)] at h
    obtain rfl := Option.some.inj h
    have HT := Aside0.mk ht
    clear ht h
    go_enter Try.func19, Try.ntmps19
    go_wp2_with fail
    refine (impl_areFixed.calls k _ _ [a0, a1] false _ (C_two (ad := ⟨w.heap.size, 0, none⟩) (by simp [Addr.add]) (by simp [Addr.add])) (by simp) HT.out).mono ?_
    rintro e w1 ⟨rfl, ⟨n1, rfl⟩⟩
    go_wp2
    go_ret
    exact ⟨rfl, by repeat (first | exact Below.refl _ _ | apply below_alloc | apply pw_below_drewN | apply below_drew1)⟩
  | true =>
    rw [if_pos rfl] at h
    split at h
    · rename_i hb
      obtain ⟨b0, b1, b2, b3⟩ := hb
      obtain rfl := Option.some.inj h
      exact impl_FixMul.all k a0 a1 w ht b0 b1 b2 b3
    · cases h

end Go.Proofs.Ytmkmomcpbkogiaa.PFnExactTweenAt
