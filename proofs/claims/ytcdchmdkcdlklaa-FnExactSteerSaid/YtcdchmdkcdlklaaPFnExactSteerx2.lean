/- The machine's side of a law, function by function: a Lean function with the Go function's answers and the proof that the Go code comes to them. No condition. Written by this session's program over the kit's print, this session's own contracts set in. -/
import Derived.Test.YtcdchmdkcdlklaaPFnExactSteerx0
import Derived.Test.YtcdchmdkcdlklaaPFnExactSteerx1
namespace Go.Proofs.Ytcdchmdkcdlklaa.PFnExactSteer
open Go.RowKit Go.Proofs.YtcdchmdkcdlklaaW.PrintWords Go.Proofs.YtcdchmdkcdlklaaW.PrintLast Go.Proofs.YtcdchmdkcdlklaaW.PrintMore
attribute [local go_sem] max2_int min2_int max_two min_two max_three min_three max_four min_four   -- for this text's walks alone
set_option linter.unusedVariables false
set_option linter.unusedSimpArgs false

/-! ### spec_Steer: function 5 -/
mutual
def spec_Steer.j0 : Nat → Int → Int → Int → Int → Int → Bool → Option (Int × Int)
  | 0, _, _, _, _, _, _ => none
  | k + 1, x0, x1, x2, x3, x4, x51 => if x51 = true then (some (0, 0)) else ((spec_l1Squares.f (wrap64 (x2 - x0)) (wrap64 (x3 - x1))).bind fun bt142 => ((spec_l1Root.f k bt142.1 bt142.2 2199023255552).bind fun t144 => (if (wrap64 (t144)) > 1099511627776 then (spec_Steer.j1 k x4 (wrap64 (x2 - x0)) (wrap64 (x3 - x1)) 1099511627776) else (spec_Steer.j1 k x4 (wrap64 (x2 - x0)) (wrap64 (x3 - x1)) (wrap64 (t144))))))
def spec_Steer.j1 : Nat → Int → Int → Int → Int → Option (Int × Int)
  | 0, _, _, _, _ => none
  | k + 1, x4, x12, x13, x14 => if x14 ≤ x4 then (some (x12, x13)) else ((spec_l7Cut.f k x12 x4 x14).bind fun t145 => ((spec_l7Cut.f k x13 x4 x14).bind fun t146 => (some (t145, t146))))
end
def spec_Steer.f (k : Nat) (a0 : Int) (a1 : Int) (a2 : Int) (a3 : Int) (a4 : Int) : Option (Int × Int) := (spec_GoodFixed.f a0).bind fun t135 => (if t135 = true then ((spec_GoodFixed.f a1).bind fun t136 => (if t136 = true then ((spec_GoodFixed.f a2).bind fun t137 => (if t137 = true then ((spec_GoodFixed.f a3).bind fun t138 => (if t138 = true then ((spec_GoodFixed.f (wrap64 (a2 - a0))).bind fun t139 => (if t139 = true then ((spec_GoodFixed.f (wrap64 (a3 - a1))).bind fun t140 => (if t140 = true then ((spec_l1In.f a4 0 1099511627776).bind fun t141 => (spec_Steer.j0 k a0 a1 a2 a3 a4 (!t141))) else (spec_Steer.j0 k a0 a1 a2 a3 a4 true))) else (spec_Steer.j0 k a0 a1 a2 a3 a4 true))) else (spec_Steer.j0 k a0 a1 a2 a3 a4 true))) else (spec_Steer.j0 k a0 a1 a2 a3 a4 true))) else (spec_Steer.j0 k a0 a1 a2 a3 a4 true))) else (spec_Steer.j0 k a0 a1 a2 a3 a4 true))
theorem spec_Steer.mono_l : ∀ k, (∀ y0 y1 y2 y3 y4 y5, LeO (spec_Steer.j0 k y0 y1 y2 y3 y4 y5) (spec_Steer.j0 (k + 1) y0 y1 y2 y3 y4 y5)) ∧ (∀ y0 y1 y2 y3, LeO (spec_Steer.j1 k y0 y1 y2 y3) (spec_Steer.j1 (k + 1) y0 y1 y2 y3))
  | 0 => ⟨fun _ _ _ _ _ _ r h => by simp [spec_Steer.j0] at h, fun _ _ _ _ r h => by simp [spec_Steer.j1] at h⟩
  | k + 1 => by
    obtain ⟨ih0, ih1⟩ := spec_Steer.mono_l k
    refine ⟨?_, ?_⟩
    · intro y0 y1 y2 y3 y4 y5
      unfold spec_Steer.j0
      repeat' first
      | (with_reducible exact ih0 _ _ _ _ _ _)
      | (with_reducible exact ih1 _ _ _ _)
      | (with_reducible exact spec_l1Root.mono _ _ _ _)
      | (with_reducible exact spec_l7Cut.mono _ _ _ _)
      | (with_reducible exact LeO.refl _)
      | (with_reducible exact LeO.none _)
      | (with_reducible refine LeO.ite ?_ ?_)
      | (with_reducible refine LeO.bind ?_ (fun _ => ?_))
      | exact ih0 _ _ _ _ _ _
      | exact ih1 _ _ _ _
      | exact spec_l1Root.mono _ _ _ _
      | exact spec_l7Cut.mono _ _ _ _
      | exact LeO.none _
      | refine LeO.ite ?_ ?_
      | refine LeO.bind ?_ (fun _ => ?_)
    · intro y0 y1 y2 y3
      unfold spec_Steer.j1
      repeat' first
      | (with_reducible exact ih0 _ _ _ _ _ _)
      | (with_reducible exact ih1 _ _ _ _)
      | (with_reducible exact spec_l1Root.mono _ _ _ _)
      | (with_reducible exact spec_l7Cut.mono _ _ _ _)
      | (with_reducible exact LeO.refl _)
      | (with_reducible exact LeO.none _)
      | (with_reducible refine LeO.ite ?_ ?_)
      | (with_reducible refine LeO.bind ?_ (fun _ => ?_))
      | exact ih0 _ _ _ _ _ _
      | exact ih1 _ _ _ _
      | exact spec_l1Root.mono _ _ _ _
      | exact spec_l7Cut.mono _ _ _ _
      | exact LeO.none _
      | refine LeO.ite ?_ ?_
      | refine LeO.bind ?_ (fun _ => ?_)
theorem spec_Steer.mono : ∀ a0 a1 a2 a3 a4 k, LeO (spec_Steer.f k a0 a1 a2 a3 a4) (spec_Steer.f (k + 1) a0 a1 a2 a3 a4) := by
  intro a0 a1 a2 a3 a4 k
  obtain ⟨ih0, ih1⟩ := spec_Steer.mono_l k
  unfold spec_Steer.f
  repeat' first
      | (with_reducible exact ih0 _ _ _ _ _ _)
      | (with_reducible exact ih1 _ _ _ _)
      | (with_reducible exact spec_l1Root.mono _ _ _ _)
      | (with_reducible exact spec_l7Cut.mono _ _ _ _)
      | (with_reducible exact LeO.refl _)
      | (with_reducible exact LeO.none _)
      | (with_reducible refine LeO.ite ?_ ?_)
      | (with_reducible refine LeO.bind ?_ (fun _ => ?_))
      | exact ih0 _ _ _ _ _ _
      | exact ih1 _ _ _ _
      | exact spec_l1Root.mono _ _ _ _
      | exact spec_l7Cut.mono _ _ _ _
      | exact LeO.none _
      | refine LeO.ite ?_ ?_
      | refine LeO.bind ?_ (fun _ => ?_)
set_option maxHeartbeats 8000000 in
set_option maxRecDepth 100000 in
theorem spec_Steer.calls (k : Nat) (a0 : Int) (a1 : Int) (a2 : Int) (a3 : Int) (a4 : Int) (r1 : Int) (r2 : Int) (w : World) (h : spec_Steer.f k a0 a1 a2 a3 a4 = some (r1, r2)) :
    Calls Try.prog 5 #[.int .i64 a0, .int .i64 a1, .int .i64 a2, .int .i64 a3, .int .i64 a4] w fun e w' => e = .returned (.tuple #[.int .i64 r1, .int .i64 r2]) ∧ Below w.heap.size w w' := by
  have HB := Aside0.mk (Below.refl w.heap.size w)
  have H : ((spec_GoodFixed.f a0).bind fun t135 => (if t135 = true then ((spec_GoodFixed.f a1).bind fun t136 => (if t136 = true then ((spec_GoodFixed.f a2).bind fun t137 => (if t137 = true then ((spec_GoodFixed.f a3).bind fun t138 => (if t138 = true then ((spec_GoodFixed.f (wrap64 (a2 - a0))).bind fun t139 => (if t139 = true then ((spec_GoodFixed.f (wrap64 (a3 - a1))).bind fun t140 => (if t140 = true then ((spec_l1In.f a4 0 1099511627776).bind fun t141 => (spec_Steer.j0 k a0 a1 a2 a3 a4 (!t141))) else (spec_Steer.j0 k a0 a1 a2 a3 a4 true))) else (spec_Steer.j0 k a0 a1 a2 a3 a4 true))) else (spec_Steer.j0 k a0 a1 a2 a3 a4 true))) else (spec_Steer.j0 k a0 a1 a2 a3 a4 true))) else (spec_Steer.j0 k a0 a1 a2 a3 a4 true))) else (spec_Steer.j0 k a0 a1 a2 a3 a4 true))) = some (r1, r2) := h
  clear h
  have HC6 := Aside0.mk H
  clear H
  go_enter Try.func5, Try.ntmps5
  go_upto_region 1 with (fail)
  go_cut [51] (fun v51 wc => ∃ (kq : Nat) (x51_5 : Bool), v51 = .bool x51_5 ∧ Aside0 (spec_Steer.j0 kq a0 a1 a2 a3 a4 x51_5 = some (r1, r2)) ∧ Aside0 (kq ≤ k) ∧ Aside0 (Below w.heap.size w wc))
  case first =>
    have H := HC6.out
    clear HC6
    replace H := Option.bind_eq_some_iff.mp H
    obtain ⟨t135, A70, H⟩ := H
    replace H : (if t135 = true then ((spec_GoodFixed.f a1).bind fun t136 => (if t136 = true then ((spec_GoodFixed.f a2).bind fun t137 => (if t137 = true then ((spec_GoodFixed.f a3).bind fun t138 => (if t138 = true then ((spec_GoodFixed.f (wrap64 (a2 - a0))).bind fun t139 => (if t139 = true then ((spec_GoodFixed.f (wrap64 (a3 - a1))).bind fun t140 => (if t140 = true then ((spec_l1In.f a4 0 1099511627776).bind fun t141 => (spec_Steer.j0 k a0 a1 a2 a3 a4 (!t141))) else (spec_Steer.j0 k a0 a1 a2 a3 a4 true))) else (spec_Steer.j0 k a0 a1 a2 a3 a4 true))) else (spec_Steer.j0 k a0 a1 a2 a3 a4 true))) else (spec_Steer.j0 k a0 a1 a2 a3 a4 true))) else (spec_Steer.j0 k a0 a1 a2 a3 a4 true))) else (spec_Steer.j0 k a0 a1 a2 a3 a4 true)) = some (r1, r2) := H
    have A7 := Aside0.mk A70
    clear A70
    by_cases c8 : t135 = true
    · subst c8
      have H1 : ((spec_GoodFixed.f a1).bind fun t136 => (if t136 = true then ((spec_GoodFixed.f a2).bind fun t137 => (if t137 = true then ((spec_GoodFixed.f a3).bind fun t138 => (if t138 = true then ((spec_GoodFixed.f (wrap64 (a2 - a0))).bind fun t139 => (if t139 = true then ((spec_GoodFixed.f (wrap64 (a3 - a1))).bind fun t140 => (if t140 = true then ((spec_l1In.f a4 0 1099511627776).bind fun t141 => (spec_Steer.j0 k a0 a1 a2 a3 a4 (!t141))) else (spec_Steer.j0 k a0 a1 a2 a3 a4 true))) else (spec_Steer.j0 k a0 a1 a2 a3 a4 true))) else (spec_Steer.j0 k a0 a1 a2 a3 a4 true))) else (spec_Steer.j0 k a0 a1 a2 a3 a4 true))) else (spec_Steer.j0 k a0 a1 a2 a3 a4 true))) = some (r1, r2) := by rw [if_pos rfl] at H; exact H
      clear H
      have H := H1
      clear H1
      replace H := Option.bind_eq_some_iff.mp H
      obtain ⟨t136, A90, H⟩ := H
      replace H : (if t136 = true then ((spec_GoodFixed.f a2).bind fun t137 => (if t137 = true then ((spec_GoodFixed.f a3).bind fun t138 => (if t138 = true then ((spec_GoodFixed.f (wrap64 (a2 - a0))).bind fun t139 => (if t139 = true then ((spec_GoodFixed.f (wrap64 (a3 - a1))).bind fun t140 => (if t140 = true then ((spec_l1In.f a4 0 1099511627776).bind fun t141 => (spec_Steer.j0 k a0 a1 a2 a3 a4 (!t141))) else (spec_Steer.j0 k a0 a1 a2 a3 a4 true))) else (spec_Steer.j0 k a0 a1 a2 a3 a4 true))) else (spec_Steer.j0 k a0 a1 a2 a3 a4 true))) else (spec_Steer.j0 k a0 a1 a2 a3 a4 true))) else (spec_Steer.j0 k a0 a1 a2 a3 a4 true)) = some (r1, r2) := H
      have A9 := Aside0.mk A90
      clear A90
      by_cases c10 : t136 = true
      · subst c10
        have H1 : ((spec_GoodFixed.f a2).bind fun t137 => (if t137 = true then ((spec_GoodFixed.f a3).bind fun t138 => (if t138 = true then ((spec_GoodFixed.f (wrap64 (a2 - a0))).bind fun t139 => (if t139 = true then ((spec_GoodFixed.f (wrap64 (a3 - a1))).bind fun t140 => (if t140 = true then ((spec_l1In.f a4 0 1099511627776).bind fun t141 => (spec_Steer.j0 k a0 a1 a2 a3 a4 (!t141))) else (spec_Steer.j0 k a0 a1 a2 a3 a4 true))) else (spec_Steer.j0 k a0 a1 a2 a3 a4 true))) else (spec_Steer.j0 k a0 a1 a2 a3 a4 true))) else (spec_Steer.j0 k a0 a1 a2 a3 a4 true))) = some (r1, r2) := by rw [if_pos rfl] at H; exact H
        clear H
        have H := H1
        clear H1
        replace H := Option.bind_eq_some_iff.mp H
        obtain ⟨t137, A110, H⟩ := H
        replace H : (if t137 = true then ((spec_GoodFixed.f a3).bind fun t138 => (if t138 = true then ((spec_GoodFixed.f (wrap64 (a2 - a0))).bind fun t139 => (if t139 = true then ((spec_GoodFixed.f (wrap64 (a3 - a1))).bind fun t140 => (if t140 = true then ((spec_l1In.f a4 0 1099511627776).bind fun t141 => (spec_Steer.j0 k a0 a1 a2 a3 a4 (!t141))) else (spec_Steer.j0 k a0 a1 a2 a3 a4 true))) else (spec_Steer.j0 k a0 a1 a2 a3 a4 true))) else (spec_Steer.j0 k a0 a1 a2 a3 a4 true))) else (spec_Steer.j0 k a0 a1 a2 a3 a4 true)) = some (r1, r2) := H
        have A11 := Aside0.mk A110
        clear A110
        by_cases c12 : t137 = true
        · subst c12
          have H1 : ((spec_GoodFixed.f a3).bind fun t138 => (if t138 = true then ((spec_GoodFixed.f (wrap64 (a2 - a0))).bind fun t139 => (if t139 = true then ((spec_GoodFixed.f (wrap64 (a3 - a1))).bind fun t140 => (if t140 = true then ((spec_l1In.f a4 0 1099511627776).bind fun t141 => (spec_Steer.j0 k a0 a1 a2 a3 a4 (!t141))) else (spec_Steer.j0 k a0 a1 a2 a3 a4 true))) else (spec_Steer.j0 k a0 a1 a2 a3 a4 true))) else (spec_Steer.j0 k a0 a1 a2 a3 a4 true))) = some (r1, r2) := by rw [if_pos rfl] at H; exact H
          clear H
          have H := H1
          clear H1
          replace H := Option.bind_eq_some_iff.mp H
          obtain ⟨t138, A130, H⟩ := H
          replace H : (if t138 = true then ((spec_GoodFixed.f (wrap64 (a2 - a0))).bind fun t139 => (if t139 = true then ((spec_GoodFixed.f (wrap64 (a3 - a1))).bind fun t140 => (if t140 = true then ((spec_l1In.f a4 0 1099511627776).bind fun t141 => (spec_Steer.j0 k a0 a1 a2 a3 a4 (!t141))) else (spec_Steer.j0 k a0 a1 a2 a3 a4 true))) else (spec_Steer.j0 k a0 a1 a2 a3 a4 true))) else (spec_Steer.j0 k a0 a1 a2 a3 a4 true)) = some (r1, r2) := H
          have A13 := Aside0.mk A130
          clear A130
          by_cases c14 : t138 = true
          · subst c14
            have H1 : ((spec_GoodFixed.f (wrap64 (a2 - a0))).bind fun t139 => (if t139 = true then ((spec_GoodFixed.f (wrap64 (a3 - a1))).bind fun t140 => (if t140 = true then ((spec_l1In.f a4 0 1099511627776).bind fun t141 => (spec_Steer.j0 k a0 a1 a2 a3 a4 (!t141))) else (spec_Steer.j0 k a0 a1 a2 a3 a4 true))) else (spec_Steer.j0 k a0 a1 a2 a3 a4 true))) = some (r1, r2) := by rw [if_pos rfl] at H; exact H
            clear H
            have H := H1
            clear H1
            replace H := Option.bind_eq_some_iff.mp H
            obtain ⟨t139, A150, H⟩ := H
            replace H : (if t139 = true then ((spec_GoodFixed.f (wrap64 (a3 - a1))).bind fun t140 => (if t140 = true then ((spec_l1In.f a4 0 1099511627776).bind fun t141 => (spec_Steer.j0 k a0 a1 a2 a3 a4 (!t141))) else (spec_Steer.j0 k a0 a1 a2 a3 a4 true))) else (spec_Steer.j0 k a0 a1 a2 a3 a4 true)) = some (r1, r2) := H
            have A15 := Aside0.mk A150
            clear A150
            by_cases c16 : t139 = true
            · subst c16
              have H1 : ((spec_GoodFixed.f (wrap64 (a3 - a1))).bind fun t140 => (if t140 = true then ((spec_l1In.f a4 0 1099511627776).bind fun t141 => (spec_Steer.j0 k a0 a1 a2 a3 a4 (!t141))) else (spec_Steer.j0 k a0 a1 a2 a3 a4 true))) = some (r1, r2) := by rw [if_pos rfl] at H; exact H
              clear H
              have H := H1
              clear H1
              replace H := Option.bind_eq_some_iff.mp H
              obtain ⟨t140, A170, H⟩ := H
              replace H : (if t140 = true then ((spec_l1In.f a4 0 1099511627776).bind fun t141 => (spec_Steer.j0 k a0 a1 a2 a3 a4 (!t141))) else (spec_Steer.j0 k a0 a1 a2 a3 a4 true)) = some (r1, r2) := H
              have A17 := Aside0.mk A170
              clear A170
              by_cases c18 : t140 = true
              · subst c18
                have H1 : ((spec_l1In.f a4 0 1099511627776).bind fun t141 => (spec_Steer.j0 k a0 a1 a2 a3 a4 (!t141))) = some (r1, r2) := by rw [if_pos rfl] at H; exact H
                clear H
                have H := H1
                clear H1
                replace H := Option.bind_eq_some_iff.mp H
                obtain ⟨t141, A190, H⟩ := H
                replace H : (spec_Steer.j0 k a0 a1 a2 a3 a4 (!t141)) = some (r1, r2) := H
                have A19 := Aside0.mk A190
                clear A190
                have H' := Aside0.mk H
                clear H
                go_wp2_with (first | ((with_reducible refine gate_callee (f := 17) rfl ?_); refine goesL_ (some 16) rfl rfl Try.func17 (by kernel_rfl) rfl #[.int .i64 a0] rfl (by (try simp only [List.map_toArray, List.map_cons, List.map_nil]); first | done | rfl | (simp only [List.length_drop, List.length_take]; rfl)) ?_; (with_reducible refine (spec_GoodFixed.calls a0 true _ A7.out).mono ?_); rintro e w' ⟨rfl, ⟨nd, rfl⟩⟩; refine ⟨_, rfl, ?_⟩) | (go_at_call 17; (with_reducible refine (spec_GoodFixed.calls a1 true _ A9.out).mono ?_); rintro e w' ⟨rfl, ⟨nd, rfl⟩⟩) | (go_at_call 17; (with_reducible refine (spec_GoodFixed.calls a2 true _ A11.out).mono ?_); rintro e w' ⟨rfl, ⟨nd, rfl⟩⟩) | (go_at_call 17; (with_reducible refine (spec_GoodFixed.calls a3 true _ A13.out).mono ?_); rintro e w' ⟨rfl, ⟨nd, rfl⟩⟩) | (go_at_call 17; (with_reducible refine (spec_GoodFixed.calls (wrap64 (a2 - a0)) true _ A15.out).mono ?_); rintro e w' ⟨rfl, ⟨nd, rfl⟩⟩) | (go_at_call 17; (with_reducible refine (spec_GoodFixed.calls (wrap64 (a3 - a1)) true _ A17.out).mono ?_); rintro e w' ⟨rfl, ⟨nd, rfl⟩⟩) | (go_at_call 18; (with_reducible refine (spec_l1In.calls a4 0 1099511627776 t141 _ A19.out).mono ?_); rintro e w' ⟨rfl, ⟨nd, rfl⟩⟩))
                go_meet
                case rel => exact ⟨_, (!t141), (by first | rfl | (simp; done) | (simp [*]; done)), H', ⟨by first | omega | exact Nat.le_refl _⟩, ⟨by repeat (first | (with_reducible first | exact HB.out | apply below_alloc | apply pw_below_drewN | apply below_drew1) | exact HB.out)⟩⟩
              · replace c18 := Bool.eq_false_iff.mpr c18
                subst c18
                have H1 : (spec_Steer.j0 k a0 a1 a2 a3 a4 true) = some (r1, r2) := by rw [if_neg (show ¬ (false = true) by decide)] at H; exact H
                clear H
                have H := H1
                clear H1
                have H' := Aside0.mk H
                clear H
                go_wp2_with (first | ((with_reducible refine gate_callee (f := 17) rfl ?_); refine goesL_ (some 16) rfl rfl Try.func17 (by kernel_rfl) rfl #[.int .i64 a0] rfl (by (try simp only [List.map_toArray, List.map_cons, List.map_nil]); first | done | rfl | (simp only [List.length_drop, List.length_take]; rfl)) ?_; (with_reducible refine (spec_GoodFixed.calls a0 true _ A7.out).mono ?_); rintro e w' ⟨rfl, ⟨nd, rfl⟩⟩; refine ⟨_, rfl, ?_⟩) | (go_at_call 17; (with_reducible refine (spec_GoodFixed.calls a1 true _ A9.out).mono ?_); rintro e w' ⟨rfl, ⟨nd, rfl⟩⟩) | (go_at_call 17; (with_reducible refine (spec_GoodFixed.calls a2 true _ A11.out).mono ?_); rintro e w' ⟨rfl, ⟨nd, rfl⟩⟩) | (go_at_call 17; (with_reducible refine (spec_GoodFixed.calls a3 true _ A13.out).mono ?_); rintro e w' ⟨rfl, ⟨nd, rfl⟩⟩) | (go_at_call 17; (with_reducible refine (spec_GoodFixed.calls (wrap64 (a2 - a0)) true _ A15.out).mono ?_); rintro e w' ⟨rfl, ⟨nd, rfl⟩⟩) | (go_at_call 17; (with_reducible refine (spec_GoodFixed.calls (wrap64 (a3 - a1)) false _ A17.out).mono ?_); rintro e w' ⟨rfl, ⟨nd, rfl⟩⟩))
                go_meet
                case rel => exact ⟨_, (true), (by first | rfl | (simp; done) | (simp [*]; done)), H', ⟨by first | omega | exact Nat.le_refl _⟩, ⟨by repeat (first | (with_reducible first | exact HB.out | apply below_alloc | apply pw_below_drewN | apply below_drew1) | exact HB.out)⟩⟩
            · replace c16 := Bool.eq_false_iff.mpr c16
              subst c16
              have H1 : (spec_Steer.j0 k a0 a1 a2 a3 a4 true) = some (r1, r2) := by rw [if_neg (show ¬ (false = true) by decide)] at H; exact H
              clear H
              have H := H1
              clear H1
              have H' := Aside0.mk H
              clear H
              go_wp2_with (first | ((with_reducible refine gate_callee (f := 17) rfl ?_); refine goesL_ (some 16) rfl rfl Try.func17 (by kernel_rfl) rfl #[.int .i64 a0] rfl (by (try simp only [List.map_toArray, List.map_cons, List.map_nil]); first | done | rfl | (simp only [List.length_drop, List.length_take]; rfl)) ?_; (with_reducible refine (spec_GoodFixed.calls a0 true _ A7.out).mono ?_); rintro e w' ⟨rfl, ⟨nd, rfl⟩⟩; refine ⟨_, rfl, ?_⟩) | (go_at_call 17; (with_reducible refine (spec_GoodFixed.calls a1 true _ A9.out).mono ?_); rintro e w' ⟨rfl, ⟨nd, rfl⟩⟩) | (go_at_call 17; (with_reducible refine (spec_GoodFixed.calls a2 true _ A11.out).mono ?_); rintro e w' ⟨rfl, ⟨nd, rfl⟩⟩) | (go_at_call 17; (with_reducible refine (spec_GoodFixed.calls a3 true _ A13.out).mono ?_); rintro e w' ⟨rfl, ⟨nd, rfl⟩⟩) | (go_at_call 17; (with_reducible refine (spec_GoodFixed.calls (wrap64 (a2 - a0)) false _ A15.out).mono ?_); rintro e w' ⟨rfl, ⟨nd, rfl⟩⟩))
              go_meet
              case rel => exact ⟨_, (true), (by first | rfl | (simp; done) | (simp [*]; done)), H', ⟨by first | omega | exact Nat.le_refl _⟩, ⟨by repeat (first | (with_reducible first | exact HB.out | apply below_alloc | apply pw_below_drewN | apply below_drew1) | exact HB.out)⟩⟩
          · replace c14 := Bool.eq_false_iff.mpr c14
            subst c14
            have H1 : (spec_Steer.j0 k a0 a1 a2 a3 a4 true) = some (r1, r2) := by rw [if_neg (show ¬ (false = true) by decide)] at H; exact H
            clear H
            have H := H1
            clear H1
            have H' := Aside0.mk H
            clear H
            go_wp2_with (first | ((with_reducible refine gate_callee (f := 17) rfl ?_); refine goesL_ (some 16) rfl rfl Try.func17 (by kernel_rfl) rfl #[.int .i64 a0] rfl (by (try simp only [List.map_toArray, List.map_cons, List.map_nil]); first | done | rfl | (simp only [List.length_drop, List.length_take]; rfl)) ?_; (with_reducible refine (spec_GoodFixed.calls a0 true _ A7.out).mono ?_); rintro e w' ⟨rfl, ⟨nd, rfl⟩⟩; refine ⟨_, rfl, ?_⟩) | (go_at_call 17; (with_reducible refine (spec_GoodFixed.calls a1 true _ A9.out).mono ?_); rintro e w' ⟨rfl, ⟨nd, rfl⟩⟩) | (go_at_call 17; (with_reducible refine (spec_GoodFixed.calls a2 true _ A11.out).mono ?_); rintro e w' ⟨rfl, ⟨nd, rfl⟩⟩) | (go_at_call 17; (with_reducible refine (spec_GoodFixed.calls a3 false _ A13.out).mono ?_); rintro e w' ⟨rfl, ⟨nd, rfl⟩⟩))
            go_meet
            case rel => exact ⟨_, (true), (by first | rfl | (simp; done) | (simp [*]; done)), H', ⟨by first | omega | exact Nat.le_refl _⟩, ⟨by repeat (first | (with_reducible first | exact HB.out | apply below_alloc | apply pw_below_drewN | apply below_drew1) | exact HB.out)⟩⟩
        · replace c12 := Bool.eq_false_iff.mpr c12
          subst c12
          have H1 : (spec_Steer.j0 k a0 a1 a2 a3 a4 true) = some (r1, r2) := by rw [if_neg (show ¬ (false = true) by decide)] at H; exact H
          clear H
          have H := H1
          clear H1
          have H' := Aside0.mk H
          clear H
          go_wp2_with (first | ((with_reducible refine gate_callee (f := 17) rfl ?_); refine goesL_ (some 16) rfl rfl Try.func17 (by kernel_rfl) rfl #[.int .i64 a0] rfl (by (try simp only [List.map_toArray, List.map_cons, List.map_nil]); first | done | rfl | (simp only [List.length_drop, List.length_take]; rfl)) ?_; (with_reducible refine (spec_GoodFixed.calls a0 true _ A7.out).mono ?_); rintro e w' ⟨rfl, ⟨nd, rfl⟩⟩; refine ⟨_, rfl, ?_⟩) | (go_at_call 17; (with_reducible refine (spec_GoodFixed.calls a1 true _ A9.out).mono ?_); rintro e w' ⟨rfl, ⟨nd, rfl⟩⟩) | (go_at_call 17; (with_reducible refine (spec_GoodFixed.calls a2 false _ A11.out).mono ?_); rintro e w' ⟨rfl, ⟨nd, rfl⟩⟩))
          go_meet
          case rel => exact ⟨_, (true), (by first | rfl | (simp; done) | (simp [*]; done)), H', ⟨by first | omega | exact Nat.le_refl _⟩, ⟨by repeat (first | (with_reducible first | exact HB.out | apply below_alloc | apply pw_below_drewN | apply below_drew1) | exact HB.out)⟩⟩
      · replace c10 := Bool.eq_false_iff.mpr c10
        subst c10
        have H1 : (spec_Steer.j0 k a0 a1 a2 a3 a4 true) = some (r1, r2) := by rw [if_neg (show ¬ (false = true) by decide)] at H; exact H
        clear H
        have H := H1
        clear H1
        have H' := Aside0.mk H
        clear H
        go_wp2_with (first | ((with_reducible refine gate_callee (f := 17) rfl ?_); refine goesL_ (some 16) rfl rfl Try.func17 (by kernel_rfl) rfl #[.int .i64 a0] rfl (by (try simp only [List.map_toArray, List.map_cons, List.map_nil]); first | done | rfl | (simp only [List.length_drop, List.length_take]; rfl)) ?_; (with_reducible refine (spec_GoodFixed.calls a0 true _ A7.out).mono ?_); rintro e w' ⟨rfl, ⟨nd, rfl⟩⟩; refine ⟨_, rfl, ?_⟩) | (go_at_call 17; (with_reducible refine (spec_GoodFixed.calls a1 false _ A9.out).mono ?_); rintro e w' ⟨rfl, ⟨nd, rfl⟩⟩))
        go_meet
        case rel => exact ⟨_, (true), (by first | rfl | (simp; done) | (simp [*]; done)), H', ⟨by first | omega | exact Nat.le_refl _⟩, ⟨by repeat (first | (with_reducible first | exact HB.out | apply below_alloc | apply pw_below_drewN | apply below_drew1) | exact HB.out)⟩⟩
    · replace c8 := Bool.eq_false_iff.mpr c8
      subst c8
      have H1 : (spec_Steer.j0 k a0 a1 a2 a3 a4 true) = some (r1, r2) := by rw [if_neg (show ¬ (false = true) by decide)] at H; exact H
      clear H
      have H := H1
      clear H1
      have H' := Aside0.mk H
      clear H
      go_wp2_with (first | ((with_reducible refine gate_callee (f := 17) rfl ?_); refine goesL_ (some 16) rfl rfl Try.func17 (by kernel_rfl) rfl #[.int .i64 a0] rfl (by (try simp only [List.map_toArray, List.map_cons, List.map_nil]); first | done | rfl | (simp only [List.length_drop, List.length_take]; rfl)) ?_; (with_reducible refine (spec_GoodFixed.calls a0 false _ A7.out).mono ?_); rintro e w' ⟨rfl, ⟨nd, rfl⟩⟩; refine ⟨_, rfl, ?_⟩))
      go_meet
      case rel => exact ⟨_, (true), (by first | rfl | (simp; done) | (simp [*]; done)), H', ⟨by first | omega | exact Nat.le_refl _⟩, ⟨by repeat (first | (with_reducible first | exact HB.out | apply below_alloc | apply pw_below_drewN | apply below_drew1) | exact HB.out)⟩⟩
  case rest =>
    clear HC6
    try clear c1
    try clear p2
    try clear c5
    try clear p6
    try clear c8
    try clear c10
    try clear c12
    try clear c14
    try clear c16
    try clear c17
    try clear c18
    obtain ⟨kq, x51_5, rfl, HA, HJ5, HB⟩ := hcut
    cases kq with
    | zero => exact absurd HA.out (by simp [spec_Steer.j0])
    | succ kj5 =>
      have H := HA.out
      clear HA
      simp only [spec_Steer.j0] at H
      by_cases c20 : x51_5 = true
      · subst c20
        have H1 : (some (0, 0)) = some (r1, r2) := by rw [if_pos rfl] at H; exact H
        clear H
        have H := H1
        clear H1
        simp only [Option.some.injEq, Prod.mk.injEq] at H
        obtain ⟨rfl, rfl⟩ := H
        go_wp2
        go_ret2
        exact ⟨by first | rfl | (simp [errW_none, errW_some] <;> rfl) | (simp [*, errW_none, errW_some] <;> rfl), by repeat (first | (with_reducible first | exact HB.out | apply below_alloc | apply pw_below_drewN | apply below_drew1) | exact HB.out)⟩
      · replace c20 := Bool.eq_false_iff.mpr c20
        subst c20
        have H1 : ((spec_l1Squares.f (wrap64 (a2 - a0)) (wrap64 (a3 - a1))).bind fun bt142 => ((spec_l1Root.f kj5 bt142.1 bt142.2 2199023255552).bind fun t144 => (if (wrap64 (t144)) > 1099511627776 then (spec_Steer.j1 kj5 a4 (wrap64 (a2 - a0)) (wrap64 (a3 - a1)) 1099511627776) else (spec_Steer.j1 kj5 a4 (wrap64 (a2 - a0)) (wrap64 (a3 - a1)) (wrap64 (t144)))))) = some (r1, r2) := by rw [if_neg (show ¬ (false = true) by decide)] at H; exact H
        clear H
        have H := H1
        clear H1
        replace H := Option.bind_eq_some_iff.mp H
        obtain ⟨⟨t142, t143⟩, A210, H⟩ := H
        replace H : ((spec_l1Root.f kj5 t142 t143 2199023255552).bind fun t144 => (if (wrap64 (t144)) > 1099511627776 then (spec_Steer.j1 kj5 a4 (wrap64 (a2 - a0)) (wrap64 (a3 - a1)) 1099511627776) else (spec_Steer.j1 kj5 a4 (wrap64 (a2 - a0)) (wrap64 (a3 - a1)) (wrap64 (t144))))) = some (r1, r2) := H
        have A21 := Aside0.mk A210
        clear A210
        replace H := Option.bind_eq_some_iff.mp H
        obtain ⟨t144, A220, H⟩ := H
        replace H : (if (wrap64 (t144)) > 1099511627776 then (spec_Steer.j1 kj5 a4 (wrap64 (a2 - a0)) (wrap64 (a3 - a1)) 1099511627776) else (spec_Steer.j1 kj5 a4 (wrap64 (a2 - a0)) (wrap64 (a3 - a1)) (wrap64 (t144)))) = some (r1, r2) := H
        have A22 := Aside0.mk A220
        clear A220
        have HC23 := Aside0.mk H
        clear H
        go_upto_if 64 with (first | ((with_reducible refine gate_callee (f := 20) rfl ?_); refine goesL_ (some 60) rfl rfl Try.func20 (by kernel_rfl) rfl #[.int .i64 (wrap64 (a2 - a0)), .int .i64 (wrap64 (a3 - a1))] rfl (by (try simp only [List.map_toArray, List.map_cons, List.map_nil]); first | done | rfl | (simp only [List.length_drop, List.length_take]; rfl)) ?_; (with_reducible refine (spec_l1Squares.calls (wrap64 (a2 - a0)) (wrap64 (a3 - a1)) t142 t143 _ A21.out).mono ?_); rintro e w24 ⟨rfl, hb⟩; refine ⟨_, rfl, ?_⟩; have n0_ := Aside0.mk (below_step (by repeat (first | (with_reducible first | exact HB.out | apply below_alloc | apply pw_below_drewN | apply below_drew1) | exact HB.out)) hb); clear HB; have HB := n0_; clear n0_; (try clear hb); (try clear hb2); (try clear hk); (try clear hi)) | ((with_reducible refine gate_callee (f := 19) rfl ?_); refine goesL_ (some 61) rfl rfl Try.func19 (by kernel_rfl) rfl #[.agg #[.int .u64 t142, .int .u64 t143], .int .u64 2199023255552] rfl (by (try simp only [List.map_toArray, List.map_cons, List.map_nil]); first | done | rfl | (simp only [List.length_drop, List.length_take]; rfl)) ?_; (with_reducible refine (spec_l1Root.calls kj5 t142 t143 2199023255552 t144 _ A22.out).mono ?_); rintro e w25 ⟨rfl, hb⟩; refine ⟨_, rfl, ?_⟩; have n0_ := Aside0.mk (below_step (by repeat (first | (with_reducible first | exact HB.out | apply below_alloc | apply pw_below_drewN | apply below_drew1) | exact HB.out)) hb); clear HB; have HB := n0_; clear n0_; (try clear hb); (try clear hb2); (try clear hk); (try clear hi)))
        (try simp only [Act.put, List.setIfInBounds_toArray, List.set_cons_zero, List.set_cons_succ])
        go_cut [14] (fun v14 wc => ∃ (kq : Nat) (x14_22 : Int), v14 = .int .i64 x14_22 ∧ Aside0 (spec_Steer.j1 kq a4 (wrap64 (a2 - a0)) (wrap64 (a3 - a1)) x14_22 = some (r1, r2)) ∧ Aside0 (kq ≤ kj5) ∧ Aside0 (Below w.heap.size w wc))
        case first =>
          have H := HC23.out
          clear HC23
          by_cases c26 : (wrap64 (t144)) > 1099511627776
          · rw [if_pos c26] at H
            have c26b0 : decide (1099511627776 < (wrap64 (t144))) = true := decide_eq_true c26
            clear c26
            (first | rw [c26b0] | (simp only [i64_w, i32_w]; rw [c26b0]) | skip)
            have H' := Aside0.mk H
            clear H
            go_wp2
            go_meet
            case rel => exact ⟨_, (1099511627776), (by first | rfl | (simp; done) | (simp [*]; done)), H', ⟨by have := HJ5.out; first | omega | exact Nat.le_refl _⟩, ⟨by repeat (first | (with_reducible first | exact HB.out | apply below_alloc | apply pw_below_drewN | apply below_drew1) | exact HB.out)⟩⟩
          · rw [if_neg c26] at H
            have c26b0 : decide (1099511627776 < (wrap64 (t144))) = false := decide_eq_false c26
            clear c26
            (first | rw [c26b0] | (simp only [i64_w, i32_w]; rw [c26b0]) | skip)
            have H' := Aside0.mk H
            clear H
            go_wp2
            go_meet
            case rel => exact ⟨_, (wrap64 (t144)), (by first | rfl | (simp; done) | (simp [*]; done)), H', ⟨by have := HJ5.out; first | omega | exact Nat.le_refl _⟩, ⟨by repeat (first | (with_reducible first | exact HB.out | apply below_alloc | apply pw_below_drewN | apply below_drew1) | exact HB.out)⟩⟩
        case rest =>
          clear HC23
          try clear c1
          try clear c2
          try clear p2
          try clear c5
          try clear p6
          try clear c8
          try clear c10
          try clear c12
          try clear c14
          try clear c16
          try clear c17
          try clear c18
          try clear c19
          try clear c20
          try clear c26
          try clear c26b0
          try clear p2
          try clear p6
          obtain ⟨kq, x14_22, rfl, HA, HJ22, HB⟩ := hcut
          cases kq with
          | zero => exact absurd HA.out (by simp [spec_Steer.j1])
          | succ kj22 =>
            have H := HA.out
            clear HA
            simp only [spec_Steer.j1] at H
            by_cases c27 : x14_22 ≤ a4
            · rw [if_pos c27] at H
              have c27b0 : decide (x14_22 ≤ a4) = true := decide_eq_true c27
              clear c27
              simp only [Option.some.injEq, Prod.mk.injEq] at H
              obtain ⟨rfl, rfl⟩ := H
              go_wp2
              go_ret2
              exact ⟨by first | rfl | (simp [errW_none, errW_some] <;> rfl) | (simp [*, errW_none, errW_some] <;> rfl), by repeat (first | (with_reducible first | exact HB.out | apply below_alloc | apply pw_below_drewN | apply below_drew1) | exact HB.out)⟩
            · rw [if_neg c27] at H
              have c27b0 : decide (x14_22 ≤ a4) = false := decide_eq_false c27
              clear c27
              replace H := Option.bind_eq_some_iff.mp H
              obtain ⟨t145, A280, H⟩ := H
              replace H : ((spec_l7Cut.f kj22 (wrap64 (a3 - a1)) a4 x14_22).bind fun t146 => (some (t145, t146))) = some (r1, r2) := H
              have A28 := Aside0.mk A280
              clear A280
              replace H := Option.bind_eq_some_iff.mp H
              obtain ⟨t146, A290, H⟩ := H
              replace H : (some (t145, t146)) = some (r1, r2) := H
              have A29 := Aside0.mk A290
              clear A290
              simp only [Option.some.injEq, Prod.mk.injEq] at H
              obtain ⟨rfl, rfl⟩ := H
              go_wp2_with (first | ((with_reducible refine gate_callee (f := 21) rfl ?_); refine goesL_ (some 73) rfl rfl Try.func21 (by kernel_rfl) rfl #[.int .i64 (wrap64 (a2 - a0)), .int .i64 a4, .int .i64 x14_22] rfl (by (try simp only [List.map_toArray, List.map_cons, List.map_nil]); first | done | rfl | (simp only [List.length_drop, List.length_take]; rfl)) ?_; (with_reducible refine (spec_l7Cut.calls kj22 (wrap64 (a2 - a0)) a4 x14_22 t145 _ A28.out).mono ?_); rintro e w30 ⟨rfl, hb⟩; refine ⟨_, rfl, ?_⟩; have n0_ := Aside0.mk (below_step (by repeat (first | (with_reducible first | exact HB.out | apply below_alloc | apply pw_below_drewN | apply below_drew1) | exact HB.out)) hb); clear HB; have HB := n0_; clear n0_; (try clear hb); (try clear hb2); (try clear hk); (try clear hi)) | ((with_reducible refine gate_callee (f := 21) rfl ?_); refine goesL_ (some 77) rfl rfl Try.func21 (by kernel_rfl) rfl #[.int .i64 (wrap64 (a3 - a1)), .int .i64 a4, .int .i64 x14_22] rfl (by (try simp only [List.map_toArray, List.map_cons, List.map_nil]); first | done | rfl | (simp only [List.length_drop, List.length_take]; rfl)) ?_; (with_reducible refine (spec_l7Cut.calls kj22 (wrap64 (a3 - a1)) a4 x14_22 t146 _ A29.out).mono ?_); rintro e w31 ⟨rfl, hb⟩; refine ⟨_, rfl, ?_⟩; have n0_ := Aside0.mk (below_step (by repeat (first | (with_reducible first | exact HB.out | apply below_alloc | apply pw_below_drewN | apply below_drew1) | exact HB.out)) hb); clear HB; have HB := n0_; clear n0_; (try clear hb); (try clear hb2); (try clear hk); (try clear hi)))
              go_ret2
              exact ⟨by first | rfl | (simp [errW_none, errW_some] <;> rfl) | (simp [*, errW_none, errW_some] <;> rfl), by repeat (first | (with_reducible first | exact HB.out | apply below_alloc | apply pw_below_drewN | apply below_drew1) | exact HB.out)⟩

/-! ### impl_inRange: function 23 -/
def impl_inRange.f (a0 : Int) (a1 : Int) (a2 : Int) : Option (Bool) := if a1 ≤ a0 then (some (decide (a0 ≤ a2))) else (some false)
set_option maxHeartbeats 8000000 in
set_option maxRecDepth 100000 in
theorem impl_inRange.calls (a0 : Int) (a1 : Int) (a2 : Int) (r : Bool) (w : World) (h : impl_inRange.f a0 a1 a2 = some r) :
    Calls Try.prog 23 #[.int .i64 a0, .int .i64 a1, .int .i64 a2] w fun e w' => e = .returned (.bool r) ∧ Drawn0 w w' := by
  have H : (if a1 ≤ a0 then (some (decide (a0 ≤ a2))) else (some false)) = some r := h
  clear h
  by_cases c4 : a1 ≤ a0
  · rw [if_pos c4] at H
    have c4b0 : decide (a1 ≤ a0) = true := decide_eq_true c4
    clear c4
    obtain rfl := Option.some.inj H
    go_enter Try.func23, Try.ntmps23
    go_wp2
    go_ret
    exact ⟨by first | rfl | (simp; done) | (simp [*]; done), by repeat (first | exact Drawn0.refl _ | apply Drawn0.step)⟩
  · rw [if_neg c4] at H
    have c4b0 : decide (a1 ≤ a0) = false := decide_eq_false c4
    clear c4
    obtain rfl := Option.some.inj H
    go_enter Try.func23, Try.ntmps23
    go_wp2
    go_ret
    exact ⟨by first | rfl | (simp; done) | (simp [*]; done), by repeat (first | exact Drawn0.refl _ | apply Drawn0.step)⟩

/-! ### impl_GoodFixed: function 41 -/
def impl_GoodFixed.f (a0 : Int) : Option (Bool) := (impl_inRange.f a0 (-1099511627776) 1099511627776).bind fun t147 => (some t147)
set_option maxHeartbeats 8000000 in
set_option maxRecDepth 100000 in
theorem impl_GoodFixed.calls (a0 : Int) (r : Bool) (w : World) (h : impl_GoodFixed.f a0 = some r) :
    Calls Try.prog 41 #[.int .i64 a0] w fun e w' => e = .returned (.bool r) ∧ Drawn0 w w' := by
  have H : ((impl_inRange.f a0 (-1099511627776) 1099511627776).bind fun t147 => (some t147)) = some r := h
  clear h
  replace H := Option.bind_eq_some_iff.mp H
  obtain ⟨t147, A20, H⟩ := H
  replace H : (some t147) = some r := H
  have A2 := Aside0.mk A20
  clear A20
  obtain rfl := Option.some.inj H
  go_enter Try.func41, Try.ntmps41
  go_wp2_with (first | ((with_reducible refine gate_callee (f := 23) rfl ?_); refine goesL_ (some 4) rfl rfl Try.func23 (by kernel_rfl) rfl #[.int .i64 a0, .int .i64 (-1099511627776), .int .i64 1099511627776] rfl (by (try simp only [List.map_toArray, List.map_cons, List.map_nil]); first | done | rfl | (simp only [List.length_drop, List.length_take]; rfl)) ?_; (with_reducible refine (impl_inRange.calls a0 (-1099511627776) 1099511627776 t147 _ A2.out).mono ?_); rintro e w' ⟨rfl, ⟨nd, rfl⟩⟩; refine ⟨_, rfl, ?_⟩))
  go_ret
  exact ⟨by first | rfl | (simp; done) | (simp [*]; done), by repeat (first | exact Drawn0.refl _ | apply Drawn0.step)⟩

/-! ### impl_areFixed: function 22 -/
def impl_areFixed.l0 : Nat → List Int → Int → Int → Option (Bool)
  | 0, _, _, _ => none
  | k + 1, x5, x6, x7 => if x7 < x6 then (if 0 ≤ x7 then (if x7 < (x5.length : Int) then ((impl_GoodFixed.f (rd x5 x7)).bind fun t149 => (if t149 = true then (impl_areFixed.l0 k x5 x6 (wrap64 (x7 + 1))) else (some false))) else (none)) else (none)) else (some true)
def impl_areFixed.f (k : Nat) (l0 : List Int) : Option (Bool) := impl_areFixed.l0 k l0 (l0.length : Int) 0
theorem impl_areFixed.mono_l : ∀ k, (∀ y0 y1 y2, LeO (impl_areFixed.l0 k y0 y1 y2) (impl_areFixed.l0 (k + 1) y0 y1 y2))
  | 0 => fun _ _ _ r h => by simp [impl_areFixed.l0] at h
  | k + 1 => by
    have ih0 := impl_areFixed.mono_l k
    · intro y0 y1 y2
      unfold impl_areFixed.l0
      repeat' first
      | (with_reducible exact ih0 _ _ _)
      | (with_reducible exact LeO.refl _)
      | (with_reducible exact LeO.none _)
      | (with_reducible refine LeO.ite ?_ ?_)
      | (with_reducible refine LeO.bind ?_ (fun _ => ?_))
      | exact ih0 _ _ _
      | exact LeO.none _
      | refine LeO.ite ?_ ?_
      | refine LeO.bind ?_ (fun _ => ?_)
theorem impl_areFixed.mono : ∀ a0 k, LeO (impl_areFixed.f k a0) (impl_areFixed.f (k + 1) a0) := by
  intro a0 k
  have ih0 := impl_areFixed.mono_l k
  unfold impl_areFixed.f
  repeat' first
      | (with_reducible exact ih0 _ _ _)
      | (with_reducible exact LeO.refl _)
      | (with_reducible exact LeO.none _)
      | (with_reducible refine LeO.ite ?_ ?_)
      | (with_reducible refine LeO.bind ?_ (fun _ => ?_))
      | exact ih0 _ _ _
      | exact LeO.none _
      | refine LeO.ite ?_ ?_
      | refine LeO.bind ?_ (fun _ => ?_)
set_option maxHeartbeats 8000000 in
set_option maxRecDepth 100000 in
theorem impl_areFixed.calls (k : Nat) (A0 : Option Addr) (c0 : Nat) (l0 : List Int) (r : Bool) (w : World) (hr0 : Kd.C (Kd.int .i64) w A0 l0.length l0) (hc0 : l0.length ≤ c0) (h : impl_areFixed.f k l0 = some r) :
    Calls Try.prog 22 #[.slice A0 l0.length c0] w fun e w' => e = .returned (.bool r) ∧ Drawn0 w w' := by
  have HR0 := Aside0.mk hr0
  have HC0 := Aside0.mk hc0
  clear hr0 hc0
  have H : (impl_areFixed.l0 k l0 (l0.length : Int) 0) = some r := h
  clear h
  have H' := Aside0.mk H
  clear H
  go_enter Try.func22, Try.ntmps22
  go_wp2
  go_loopg [7] k (fun kq v7 w' => ∃ (x7_1 : Int), v7 = .int .i64 x7_1 ∧ Aside0 (impl_areFixed.l0 kq l0 (l0.length : Int) x7_1 = some r) ∧ Aside0 (kq ≤ k) ∧ Drawn0 w w')
  case atStart => exact ⟨(0), (by first | rfl | (simp; done) | (simp [*]; done)), H', ⟨Nat.le_refl _⟩, by repeat (first | exact Drawn0.refl _ | apply Drawn0.step)⟩
  case round =>
    clear H'
    obtain ⟨x7_1, rfl, HA, HK1, ⟨m1, rfl⟩⟩ := hrel
    cases gk with
    | zero => exact absurd HA.out (by simp [impl_areFixed.l0])
    | succ k1 =>
      have H := HA.out
      clear HA
      simp only [impl_areFixed.l0] at H
      by_cases c2 : x7_1 < (l0.length : Int)
      · rw [if_pos c2] at H
        have c2b0 : decide (x7_1 < (l0.length : Int)) = true := decide_eq_true c2
        clear c2
        by_cases c3 : 0 ≤ x7_1
        · rw [if_pos c3] at H
          have c3b0 : decide (0 ≤ x7_1) = true := decide_eq_true c3
          clear c3
          by_cases c4 : x7_1 < (l0.length : Int)
          · rw [if_pos c4] at H
            have c4b0 : decide (x7_1 < (l0.length : Int)) = true := decide_eq_true c4
            clear c4
            replace H := Option.bind_eq_some_iff.mp H
            obtain ⟨t149, A50, H⟩ := H
            replace H : (if t149 = true then (impl_areFixed.l0 k1 l0 (l0.length : Int) (wrap64 (x7_1 + 1))) else (some false)) = some r := H
            have A5 := Aside0.mk A50
            clear A50
            by_cases c6 : t149 = true
            · subst c6
              have H1 : (impl_areFixed.l0 k1 l0 (l0.length : Int) (wrap64 (x7_1 + 1))) = some r := by rw [if_pos rfl] at H; exact H
              clear H
              have H := H1
              clear H1
              have H' := Aside0.mk H
              clear H
              have p148 : 0 ≤ (x7_1 : Int) := of_decide_eq_true (by first | (with_reducible assumption) | assumption)
              have q148 : x7_1 < (l0.length : Int) := of_decide_eq_true (by first | (with_reducible assumption) | assumption)
              obtain ⟨ad148, e148, hx148_0⟩ := Kd.at_int HR0.out x7_1 p148 q148
              cases e148
              replace p148 := eq_true p148
              replace q148 := eq_true q148
              go_wp2_with (first | ((with_reducible refine gate_callee (f := 41) rfl ?_); refine goesL_ (some 12) rfl rfl Try.func41 (by kernel_rfl) rfl #[.int .i64 (rd l0 x7_1)] rfl (by (try simp only [List.map_toArray, List.map_cons, List.map_nil]); first | done | rfl | (simp only [List.length_drop, List.length_take]; rfl)) ?_; (with_reducible refine (impl_GoodFixed.calls (rd l0 x7_1) true _ A5.out).mono ?_); rintro e w' ⟨rfl, ⟨nd, rfl⟩⟩; refine ⟨_, rfl, ?_⟩))
              go_roundg k1
              case measure => have := HK1.out; omega
              case rel => exact ⟨(wrap64 (x7_1 + 1)), (by first | rfl | (simp; done) | (simp [*]; done)), H', ⟨by have := HK1.out; omega⟩, by repeat (first | exact Drawn0.refl _ | apply Drawn0.step)⟩
            · replace c6 := Bool.eq_false_iff.mpr c6
              subst c6
              have H1 : (some false) = some r := by rw [if_neg (show ¬ (false = true) by decide)] at H; exact H
              clear H
              have H := H1
              clear H1
              obtain rfl := Option.some.inj H
              have p148 : 0 ≤ (x7_1 : Int) := of_decide_eq_true (by first | (with_reducible assumption) | assumption)
              have q148 : x7_1 < (l0.length : Int) := of_decide_eq_true (by first | (with_reducible assumption) | assumption)
              obtain ⟨ad148, e148, hx148_0⟩ := Kd.at_int HR0.out x7_1 p148 q148
              cases e148
              replace p148 := eq_true p148
              replace q148 := eq_true q148
              go_wp2_with (first | ((with_reducible refine gate_callee (f := 41) rfl ?_); refine goesL_ (some 12) rfl rfl Try.func41 (by kernel_rfl) rfl #[.int .i64 (rd l0 x7_1)] rfl (by (try simp only [List.map_toArray, List.map_cons, List.map_nil]); first | done | rfl | (simp only [List.length_drop, List.length_take]; rfl)) ?_; (with_reducible refine (impl_GoodFixed.calls (rd l0 x7_1) false _ A5.out).mono ?_); rintro e w' ⟨rfl, ⟨nd, rfl⟩⟩; refine ⟨_, rfl, ?_⟩))
              go_ret
              exact ⟨by first | rfl | (simp; done) | (simp [*]; done), by repeat (first | exact Drawn0.refl _ | apply Drawn0.step)⟩
          · rw [if_neg c4] at H
            exact absurd H (by simp)
        · rw [if_neg c3] at H
          exact absurd H (by simp)
      · rw [if_neg c2] at H
        have c2b0 : decide (x7_1 < (l0.length : Int)) = false := decide_eq_false c2
        clear c2
        obtain rfl := Option.some.inj H
        go_wp2
        go_ret
        exact ⟨by first | rfl | (simp; done) | (simp [*]; done), by repeat (first | exact Drawn0.refl _ | apply Drawn0.step)⟩

/-! ### bits_Mul64: function 46 -/
def bits_Mul64.f (a0 : Int) (a1 : Int) : Option (Int × Int) := some (IntKind.u64.wrap ((IntKind.u64.wrap ((IntKind.u64.wrap ((a0 / 4294967296) * (a1 / 4294967296))) + ((IntKind.u64.wrap ((IntKind.u64.wrap ((a0 / 4294967296) * (Go.bits .and .u64 a1 4294967295))) + ((IntKind.u64.wrap ((Go.bits .and .u64 a0 4294967295) * (Go.bits .and .u64 a1 4294967295))) / 4294967296))) / 4294967296))) + ((IntKind.u64.wrap ((Go.bits .and .u64 (IntKind.u64.wrap ((IntKind.u64.wrap ((a0 / 4294967296) * (Go.bits .and .u64 a1 4294967295))) + ((IntKind.u64.wrap ((Go.bits .and .u64 a0 4294967295) * (Go.bits .and .u64 a1 4294967295))) / 4294967296))) 4294967295) + (IntKind.u64.wrap ((Go.bits .and .u64 a0 4294967295) * (a1 / 4294967296))))) / 4294967296)), IntKind.u64.wrap (a0 * a1))
set_option maxHeartbeats 8000000 in
set_option maxRecDepth 100000 in
theorem bits_Mul64.calls (a0 : Int) (a1 : Int) (r1 : Int) (r2 : Int) (w : World) (h : bits_Mul64.f a0 a1 = some (r1, r2)) :
    Calls Try.prog 46 #[.int .u64 a0, .int .u64 a1] w fun e w' => e = .returned (.tuple #[.int .u64 r1, .int .u64 r2]) ∧ Drawn0 w w' := by
  have H : (some (IntKind.u64.wrap ((IntKind.u64.wrap ((IntKind.u64.wrap ((a0 / 4294967296) * (a1 / 4294967296))) + ((IntKind.u64.wrap ((IntKind.u64.wrap ((a0 / 4294967296) * (Go.bits .and .u64 a1 4294967295))) + ((IntKind.u64.wrap ((Go.bits .and .u64 a0 4294967295) * (Go.bits .and .u64 a1 4294967295))) / 4294967296))) / 4294967296))) + ((IntKind.u64.wrap ((Go.bits .and .u64 (IntKind.u64.wrap ((IntKind.u64.wrap ((a0 / 4294967296) * (Go.bits .and .u64 a1 4294967295))) + ((IntKind.u64.wrap ((Go.bits .and .u64 a0 4294967295) * (Go.bits .and .u64 a1 4294967295))) / 4294967296))) 4294967295) + (IntKind.u64.wrap ((Go.bits .and .u64 a0 4294967295) * (a1 / 4294967296))))) / 4294967296)), IntKind.u64.wrap (a0 * a1))) = some (r1, r2) := h
  clear h
  simp only [Option.some.injEq, Prod.mk.injEq] at H
  obtain ⟨rfl, rfl⟩ := H
  go_enter Try.func46, Try.ntmps46
  go_wp2
  go_ret2
  exact ⟨by first | rfl | (simp; done) | (simp [*]; done), by repeat (first | exact Drawn0.refl _ | apply Drawn0.step)⟩

/-! ### impl_size: function 47 -/
def impl_size.f (a0 : Int) : Option (Int) := some (mx a0 (wrap64 (-a0)))
set_option maxHeartbeats 8000000 in
set_option maxRecDepth 100000 in
theorem impl_size.calls (a0 : Int) (r : Int) (w : World) (h : impl_size.f a0 = some r) :
    Calls Try.prog 47 #[.int .i64 a0] w fun e w' => e = .returned (.int .i64 r) ∧ Below w.heap.size w w' := by
  have HB := Aside0.mk (Below.refl w.heap.size w)
  have H : (some (mx a0 (wrap64 (-a0)))) = some r := h
  clear h
  obtain ⟨ji2, hji2⟩ : ∃ j_ : Int, (mx a0 (wrap64 (-a0))) = j_ := ⟨_, rfl⟩
  replace H : (some ji2) = some r := by first | (rw [hji2] at H; exact H) | (simp only [hji2] at H ⊢; exact H)
  have hji2_ : (if a0 < (wrap64 (-a0)) then (wrap64 (-a0)) else a0) = ji2 := hji2
  obtain rfl := Option.some.inj H
  go_enter Try.func47, Try.ntmps47
  go_wp2
  go_ret
  exact ⟨by first | rfl | (simp [errW_none, errW_some] <;> rfl) | (simp only [← hji2]; first | rfl | (simp [errW_none, errW_some] <;> rfl)) | (simp [*, errW_none, errW_some] <;> rfl), by repeat (first | (with_reducible first | exact HB.out | apply below_alloc | apply pw_below_drewN | apply below_drew1) | exact HB.out)⟩

/-! ### impl_square: function 42 -/
def impl_square.f (a0 : Int) : Option (Int × Int) := (impl_size.f a0).bind fun t150 => ((impl_size.f a0).bind fun t151 => ((bits_Mul64.f (IntKind.u64.wrap (t150)) (IntKind.u64.wrap (t151))).bind fun bt152 => (some (bt152.1, bt152.2))))
set_option maxHeartbeats 8000000 in
set_option maxRecDepth 100000 in
theorem impl_square.calls (a0 : Int) (r1 : Int) (r2 : Int) (w : World) (h : impl_square.f a0 = some (r1, r2)) :
    Calls Try.prog 42 #[.int .i64 a0] w fun e w' => e = .returned (.tuple #[.int .u64 r1, .int .u64 r2]) ∧ Below w.heap.size w w' := by
  have HB := Aside0.mk (Below.refl w.heap.size w)
  have H : ((impl_size.f a0).bind fun t150 => ((impl_size.f a0).bind fun t151 => ((bits_Mul64.f (IntKind.u64.wrap (t150)) (IntKind.u64.wrap (t151))).bind fun bt152 => (some (bt152.1, bt152.2))))) = some (r1, r2) := h
  clear h
  replace H := Option.bind_eq_some_iff.mp H
  obtain ⟨t150, A20, H⟩ := H
  replace H : ((impl_size.f a0).bind fun t151 => ((bits_Mul64.f (IntKind.u64.wrap (t150)) (IntKind.u64.wrap (t151))).bind fun bt152 => (some (bt152.1, bt152.2)))) = some (r1, r2) := H
  have A2 := Aside0.mk A20
  clear A20
  replace H := Option.bind_eq_some_iff.mp H
  obtain ⟨t151, A30, H⟩ := H
  replace H : ((bits_Mul64.f (IntKind.u64.wrap (t150)) (IntKind.u64.wrap (t151))).bind fun bt152 => (some (bt152.1, bt152.2))) = some (r1, r2) := H
  have A3 := Aside0.mk A30
  clear A30
  replace H := Option.bind_eq_some_iff.mp H
  obtain ⟨⟨t152, t153⟩, A40, H⟩ := H
  replace H : (some (t152, t153)) = some (r1, r2) := H
  have A4 := Aside0.mk A40
  clear A40
  simp only [Option.some.injEq, Prod.mk.injEq] at H
  obtain ⟨rfl, rfl⟩ := H
  go_enter Try.func42, Try.ntmps42
  go_wp2_with (first | ((with_reducible refine gate_callee (f := 47) rfl ?_); refine goesL_ (some 5) rfl rfl Try.func47 (by kernel_rfl) rfl #[.int .i64 a0] rfl (by (try simp only [List.map_toArray, List.map_cons, List.map_nil]); first | done | rfl | (simp only [List.length_drop, List.length_take]; rfl)) ?_; (with_reducible refine (impl_size.calls a0 t150 _ A2.out).mono ?_); rintro e w5 ⟨rfl, hb⟩; refine ⟨_, rfl, ?_⟩; have n0_ := Aside0.mk (below_step (by repeat (first | (with_reducible first | exact HB.out | apply below_alloc | apply pw_below_drewN | apply below_drew1) | exact HB.out)) hb); clear HB; have HB := n0_; clear n0_; (try clear hb); (try clear hb2); (try clear hk); (try clear hi)) | ((with_reducible refine gate_callee (f := 47) rfl ?_); refine goesL_ (some 8) rfl rfl Try.func47 (by kernel_rfl) rfl #[.int .i64 a0] rfl (by (try simp only [List.map_toArray, List.map_cons, List.map_nil]); first | done | rfl | (simp only [List.length_drop, List.length_take]; rfl)) ?_; (with_reducible refine (impl_size.calls a0 t151 _ A3.out).mono ?_); rintro e w6 ⟨rfl, hb⟩; refine ⟨_, rfl, ?_⟩; have n0_ := Aside0.mk (below_step (by repeat (first | (with_reducible first | exact HB.out | apply below_alloc | apply pw_below_drewN | apply below_drew1) | exact HB.out)) hb); clear HB; have HB := n0_; clear n0_; (try clear hb); (try clear hb2); (try clear hk); (try clear hi)) | ((with_reducible refine gate_callee (f := 46) rfl ?_); refine goesL_ (some 10) rfl rfl Try.func46 (by kernel_rfl) rfl #[.int .u64 (IntKind.u64.wrap (t150)), .int .u64 (IntKind.u64.wrap (t151))] rfl (by (try simp only [List.map_toArray, List.map_cons, List.map_nil]); first | done | rfl | (simp only [List.length_drop, List.length_take]; rfl)) ?_; (with_reducible refine (bits_Mul64.calls (IntKind.u64.wrap (t150)) (IntKind.u64.wrap (t151)) t152 t153 _ A4.out).mono ?_); rintro e w' ⟨rfl, ⟨nd, rfl⟩⟩; refine ⟨_, rfl, ?_⟩))
  go_ret2
  exact ⟨by first | rfl | (simp [errW_none, errW_some] <;> rfl) | (simp [*, errW_none, errW_some] <;> rfl), by repeat (first | (with_reducible first | exact HB.out | apply below_alloc | apply pw_below_drewN | apply below_drew1) | exact HB.out)⟩


/-! ### impl_LengthOf: function 24 -/
/-- The greatest number whose square is at most n. -/
def isq : Nat → Nat
  | 0 => 0
  | n + 1 => if (isq n + 1) * (isq n + 1) ≤ n + 1 then isq n + 1 else isq n
theorem isq_le (n : Nat) : isq n * isq n ≤ n ∧ n < (isq n + 1) * (isq n + 1) := by
  induction n with
  | zero => exact ⟨by decide, by decide⟩
  | succ n ih =>
    unfold isq
    by_cases h : (isq n + 1) * (isq n + 1) ≤ n + 1
    · rw [if_pos h]
      refine ⟨h, ?_⟩
      have : (isq n + 1 + 1) * (isq n + 1 + 1) = (isq n + 1) * (isq n + 1) + 2 * (isq n + 1) + 1 := by
        rw [Nat.add_mul (isq n + 1) 1 (isq n + 1 + 1), Nat.mul_add (isq n + 1) (isq n + 1) 1]; omega
      omega
    · rw [if_neg h]
      exact ⟨by omega, by omega⟩
theorem isq_iff (n m : Nat) : m * m ≤ n ↔ m ≤ isq n := by
  obtain ⟨h1, h2⟩ := isq_le n
  constructor
  · intro h
    rcases Nat.lt_or_ge (isq n) m with hc | hc
    · have := Nat.mul_le_mul (show isq n + 1 ≤ m from hc) (show isq n + 1 ≤ m from hc)
      omega
    · exact hc
  · intro h
    exact Nat.le_trans (Nat.mul_le_mul h h) h1
set_option maxHeartbeats 4000000 in
set_option maxRecDepth 100000 in
/-- 'greatest' finds the last number for which the condition holds, where it holds up to r and not beyond. -/
theorem greatest_calls (g : Nat) (cap : Array Value) (eg : ∀ args w, (callFunc g args).run Try.prog w = .ok (.enter g args) w) (high r : Int) (h0 : 0 ≤ r) (h1 : r ≤ high) (h2 : high ≤ 1152921504606846976) (w : World)
    (hG : ∀ n : Int, 0 ≤ n → n ≤ high → ∀ W, Below w.heap.size w W → Calls Try.prog g (#[.int .i64 n] ++ cap) W fun e w' => e = .returned (.bool (decide (n ≤ r))) ∧ Below W.heap.size W w') :
    Calls Try.prog 44 #[.int .i64 high, .func (.func g) #[] cap] w fun e w' => e = .returned (.int .i64 r) ∧ Below w.heap.size w w' := by
  have HG := Aside0.mk hG
  clear hG
  go_enter Try.func44, Try.ntmps44
  go_wp2
  go_loopg [0, 5] (high.toNat + 1) (fun gg s0 s5 wr => ∃ hi lo : Int, s0 = .int .i64 hi ∧ s5 = .int .i64 lo ∧ 0 ≤ lo ∧ lo ≤ r ∧ r ≤ hi ∧ hi ≤ high ∧ (hi - lo).toNat < gg ∧ Aside0 (Below w.heap.size w wr))
  case atStart => exact ⟨high, 0, rfl, rfl, by omega, h0, h1, by omega, by omega, ⟨Below.refl _ _⟩⟩
  case round =>
    obtain ⟨hi, lo, rfl, rfl, l0, l1, l2, l3, hg, HB⟩ := hrel
    by_cases hlt : lo < hi
    · have hm0 : 0 ≤ (hi - lo + 1) / 2 := by omega
      have hm1 : (hi - lo + 1) / 2 ≤ hi - lo := by omega
      have hm2 : 0 < (hi - lo + 1) / 2 := by omega
      by_cases hr : lo + (hi - lo + 1) / 2 ≤ r
      · have HC := Aside0.mk (HG.out (lo + (hi - lo + 1) / 2) (by omega) (by omega) _ HB.out)
        rw [decide_eq_true hr] at HC
        go_wp2_with (first | (go_at_fn g; refine HC.out.mono ?_; rintro e w1 ⟨rfl, hb⟩; have n0_ := Aside0.mk (below_step (w := w) HB.out hb); clear HB hb; have HB := n0_; clear n0_))
        go_roundg ((hi - (lo + (hi - lo + 1) / 2)).toNat + 1)
        case measure => omega
        case rel => exact ⟨hi, lo + (hi - lo + 1) / 2, rfl, rfl, by omega, hr, l2, l3, by omega, HB⟩
      · have HC := Aside0.mk (HG.out (lo + (hi - lo + 1) / 2) (by omega) (by omega) _ HB.out)
        rw [decide_eq_false hr] at HC
        go_wp2_with (first | (go_at_fn g; refine HC.out.mono ?_; rintro e w1 ⟨rfl, hb⟩; have n0_ := Aside0.mk (below_step (w := w) HB.out hb); clear HB hb; have HB := n0_; clear n0_))
        go_roundg ((lo + (hi - lo + 1) / 2 - 1 - lo).toNat + 1)
        case measure => omega
        case rel => exact ⟨lo + (hi - lo + 1) / 2 - 1, lo, rfl, rfl, by omega, l1, by omega, by omega, by omega, HB⟩
    · have e : lo = r := by omega
      have HE := Aside0.mk e
      clear e
      go_wp2
      go_ret
      exact ⟨by rw [← HE.out]; rfl, HB.out⟩
def impl_LengthOf.abs (a : Int) : Int := if a < 0 then -a else a
/-- The length of two fixed numbers: the root of the sum of their squares, at most MaxFixed. -/
def impl_LengthOf.g (a b : Int) : Int := mn (isq (impl_LengthOf.abs a * impl_LengthOf.abs a + impl_LengthOf.abs b * impl_LengthOf.abs b).toNat : Int) 1099511627776
def impl_LengthOf.f (k : Nat) (a0 : Int) (a1 : Int) : Option (Int) := (impl_areFixed.f k [a0, a1]).bind fun t => if t = true then (if -1099511627776 ≤ a0 ∧ a0 ≤ 1099511627776 ∧ -1099511627776 ≤ a1 ∧ a1 ≤ 1099511627776 then some (impl_LengthOf.g a0 a1) else none) else some 0
theorem impl_LengthOf.mono : ∀ a0 a1 k, LeO (impl_LengthOf.f k a0 a1) (impl_LengthOf.f (k + 1) a0 a1) := by
  intro a0 a1 k
  unfold impl_LengthOf.f
  exact LeO.bind (impl_areFixed.mono _ _) (fun _ => LeO.refl _)
theorem impl_LengthOf.ret {x y : Int} (h : x = y) : Ending.returned (.int .i64 x) = .returned (.int .i64 y) := by rw [h]
theorem impl_LengthOf.sized {a : Int} (h0 : -1099511627776 ≤ a) (h1 : a ≤ 1099511627776) : impl_size.f a = some (impl_LengthOf.abs a) := by
  unfold impl_size.f impl_LengthOf.abs mx
  congr 1
  have e : wrap64 (-a) = -a := by unfold wrap64; omega
  rw [e]
  split <;> split <;> omega
theorem impl_LengthOf.absIn {a : Int} (h0 : -1099511627776 ≤ a) (h1 : a ≤ 1099511627776) : 0 ≤ impl_LengthOf.abs a ∧ impl_LengthOf.abs a ≤ 1099511627776 := by
  unfold impl_LengthOf.abs; split <;> omega
theorem impl_LengthOf.add (x y : Int) (hx : 0 ≤ x) (hy : 0 ≤ y) (w : World) : (callFunc 43 #[.int .u64 x, .int .u64 y, .int .u64 0]).run Try.prog w = .ok (.value (.tuple #[.int .u64 ((x + y) % 18446744073709551616), .int .u64 ((x + y) / 18446744073709551616)])) w := by
  rw [run_callFunc_extern Try.func43 (by kernel_rfl) (by kernel_rfl) (by kernel_rfl) (e := add64Entry) (by kernel_rfl), run_add64 x y 0 hx hy (by omega) (by omega)]
  simp only [Result.andThen, Int.add_zero]
theorem impl_LengthOf.mul64 {x y : Int} (x0 : 0 ≤ x) (x1 : x ≤ 1099511627776) (y0 : 0 ≤ y) (y1 : y ≤ 1099511627776) : bits_Mul64.f x y = some (x * y / 18446744073709551616, x * y % 18446744073709551616) := by
  have wu : ∀ n : Int, IntKind.u64.wrap n = n % 18446744073709551616 := fun n => by simp [IntKind.wrap, IntKind.bits, IntKind.signed]
  have wi : ∀ n : Int, 0 ≤ n → n < 18446744073709551616 → IntKind.u64.wrap n = n := fun n h0 h1 => by rw [wu]; omega
  have msk : ∀ n : Int, 0 ≤ n → n < 18446744073709551616 → Go.bits .and .u64 n 4294967295 = n % 4294967296 := fun n h0 h1 => by
    exact Go.bits_mask .u64 64 (by decide) (fun n a b => by rw [wu]; omega) 32 (by decide) n h0 (by omega)
  unfold bits_Mul64.f
  obtain ⟨p, hp⟩ : ∃ p, x / 4294967296 = p := ⟨_, rfl⟩
  obtain ⟨q, hq⟩ : ∃ q, x % 4294967296 = q := ⟨_, rfl⟩
  obtain ⟨u, hu⟩ : ∃ u, y / 4294967296 = u := ⟨_, rfl⟩
  obtain ⟨v, hv⟩ : ∃ v, y % 4294967296 = v := ⟨_, rfl⟩
  rw [msk x x0 (by omega), msk y y0 (by omega), hp, hq, hu, hv]
  have p0 : 0 ≤ p ∧ p ≤ 256 := by omega
  have q0 : 0 ≤ q ∧ q < 4294967296 := by omega
  have u0 : 0 ≤ u ∧ u ≤ 256 := by omega
  have v0 : 0 ≤ v ∧ v < 4294967296 := by omega
  have hx : x = p * 4294967296 + q := by omega
  have hy : y = u * 4294967296 + v := by omega
  clear hp hq hu hv x0 x1 y0 y1
  have P0 : 0 ≤ p * u := Int.mul_nonneg p0.1 u0.1
  have P1 : p * u ≤ 256 * 256 := Int.mul_le_mul p0.2 u0.2 u0.1 (by omega)
  have Q0 : 0 ≤ p * v := Int.mul_nonneg p0.1 v0.1
  have Q1 : p * v ≤ 256 * 4294967295 := Int.mul_le_mul p0.2 (by omega) v0.1 (by omega)
  have R0 : 0 ≤ q * u := Int.mul_nonneg q0.1 u0.1
  have R1 : q * u ≤ 4294967295 * 256 := Int.mul_le_mul (by omega) u0.2 u0.1 (by omega)
  have S0 : 0 ≤ q * v := Int.mul_nonneg q0.1 v0.1
  have S1 : q * v ≤ 4294967295 * 4294967295 := Int.mul_le_mul (by omega) (by omega) v0.1 (by omega)
  have E : x * y = (p * u) * 18446744073709551616 + (p * v) * 4294967296 + (q * u) * 4294967296 + q * v := by
    rw [hx, hy, Int.add_mul, Int.mul_add, Int.mul_add]
    have e1 : p * 4294967296 * (u * 4294967296) = (p * u) * 18446744073709551616 := by
      rw [Int.mul_assoc, Int.mul_left_comm 4294967296 u 4294967296, ← Int.mul_assoc]; rfl
    have e2 : p * 4294967296 * v = (p * v) * 4294967296 := by rw [Int.mul_assoc, Int.mul_comm 4294967296 v, ← Int.mul_assoc]
    have e3 : q * (u * 4294967296) = (q * u) * 4294967296 := by rw [← Int.mul_assoc]
    rw [e1, e2, e3]; omega
  rw [E]
  clear E hx hy
  generalize p * u = P at *
  generalize p * v = Q at *
  generalize q * u = R at *
  generalize q * v = S at *
  rw [wi P (by omega) (by omega), wi Q (by omega) (by omega), wi R (by omega) (by omega), wi S (by omega) (by omega)]
  rw [wi (Q + S / 4294967296) (by omega) (by omega), wi (P + (Q + S / 4294967296) / 4294967296) (by omega) (by omega)]
  rw [msk (Q + S / 4294967296) (by omega) (by omega), wi ((Q + S / 4294967296) % 4294967296 + R) (by omega) (by omega)]
  rw [wi (P + (Q + S / 4294967296) / 4294967296 + ((Q + S / 4294967296) % 4294967296 + R) / 4294967296) (by omega) (by omega), wu]
  congr 1
  rw [Prod.mk.injEq]
  exact ⟨by omega, rfl⟩
theorem impl_LengthOf.sq {a : Int} (h0 : -1099511627776 ≤ a) (h1 : a ≤ 1099511627776) : impl_square.f a = some (impl_LengthOf.abs a * impl_LengthOf.abs a / 18446744073709551616, impl_LengthOf.abs a * impl_LengthOf.abs a % 18446744073709551616) := by
  have wi : ∀ n : Int, 0 ≤ n → n < 18446744073709551616 → IntKind.u64.wrap n = n := fun n h0 h1 => by
    have e : IntKind.u64.wrap n = n % 18446744073709551616 := by simp [IntKind.wrap, IntKind.bits, IntKind.signed]
    rw [e]; omega
  have I := impl_LengthOf.absIn h0 h1
  unfold impl_square.f
  rw [impl_LengthOf.sized h0 h1]
  simp only [Option.bind_some]
  rw [wi _ (by omega) (by omega), impl_LengthOf.mul64 I.1 I.2 I.1 I.2]
  rfl
set_option maxHeartbeats 4000000 in
set_option maxRecDepth 100000 in
theorem impl_LengthOf.cond (n H L hi lo : Int) (W : World) (p q : Addr) (hp : W.cell? p = some (.int .u64 hi)) (hq : W.cell? q = some (.int .u64 lo)) (hs : impl_square.f n = some (H, L)) :
    Calls Try.prog 45 #[.int .i64 n, .pointer (some p), .pointer (some q)] W fun e w' => e = .returned (.bool (decide (H < hi) || (decide (H = hi) && decide (L ≤ lo)))) ∧ Below W.heap.size W w' := by
  have HS := Aside0.mk hs
  have lp := World.block_lt_of_cell? W _ hp
  have lq := World.block_lt_of_cell? W _ hq
  clear hs
  by_cases c1 : H < hi
  · have d1 : decide (H < hi) = true := decide_eq_true c1
    have D := Aside0.mk d1
    clear c1
    go_enter Try.func45, Try.ntmps45
    go_wp2_with fail
    refine (impl_square.calls n H L _ HS.out).mono ?_
    rintro e w1 ⟨rfl, hb⟩
    have hp1 := (hb.cell lp).trans hp
    have hq1 := (hb.cell lq).trans hq
    have HB := Aside0.mk hb
    clear hb
    go_wp2
    go_ret
    exact ⟨by rw [D.out]; rfl, HB.out⟩
  · have d1 : decide (H < hi) = false := decide_eq_false c1
    by_cases c2 : H = hi
    · subst c2
      by_cases c3 : L ≤ lo
      all_goals
        first
        | (have d3 : decide (L ≤ lo) = true := decide_eq_true c3; have D := Aside0.mk (And.intro d1 d3); clear c3)
        | (have d3 : decide (L ≤ lo) = false := decide_eq_false c3; have D := Aside0.mk (And.intro d1 d3); clear c3)
        clear c1
        go_enter Try.func45, Try.ntmps45
        go_wp2_with fail
        refine (impl_square.calls n H L _ HS.out).mono ?_
        rintro e w1 ⟨rfl, hb⟩
        have hp1 := (hb.cell lp).trans hp
        have hq1 := (hb.cell lq).trans hq
        have HB := Aside0.mk hb
        clear hb
        go_wp2
        go_ret
        exact ⟨by rw [D.out.1, D.out.2]; simp, HB.out⟩
    · have d2 : (H == hi) = false := by rw [beq_eq_false_iff_ne]; exact c2
      have D := Aside0.mk (And.intro d1 (show decide (H = hi) = false from decide_eq_false c2))
      clear c1 c2
      go_enter Try.func45, Try.ntmps45
      go_wp2_with fail
      refine (impl_square.calls n H L _ HS.out).mono ?_
      rintro e w1 ⟨rfl, hb⟩
      have hp1 := (hb.cell lp).trans hp
      have hq1 := (hb.cell lq).trans hq
      have HB := Aside0.mk hb
      clear hb
      go_wp2
      go_ret
      exact ⟨by rw [D.out.1, D.out.2]; rfl, HB.out⟩
theorem impl_LengthOf.key (T n : Int) (T0 : 0 ≤ T) (n0 : 0 ≤ n) (n1 : n ≤ 1099511627776) :
    (decide (impl_LengthOf.abs n * impl_LengthOf.abs n / 18446744073709551616 < T / 18446744073709551616) || (decide (impl_LengthOf.abs n * impl_LengthOf.abs n / 18446744073709551616 = T / 18446744073709551616) && decide (impl_LengthOf.abs n * impl_LengthOf.abs n % 18446744073709551616 ≤ T % 18446744073709551616))) = decide (n ≤ mn (isq T.toNat : Int) 1099511627776) := by
  have e : impl_LengthOf.abs n = n := by unfold impl_LengthOf.abs; rw [if_neg (by omega)]
  rw [e]
  have h0 : 0 ≤ n * n := Int.mul_nonneg n0 n0
  have key : (n ≤ mn (isq T.toNat : Int) 1099511627776) ↔ n * n ≤ T := by
    obtain ⟨m, rfl⟩ := Int.eq_ofNat_of_zero_le n0
    have := isq_iff T.toNat m
    have e : ((m : Int) * m) = ((m * m : Nat) : Int) := by rw [Int.natCast_mul]
    rw [e]
    unfold mn
    split <;> omega
  rw [show decide (n ≤ mn (isq T.toNat : Int) 1099511627776) = decide (n * n ≤ T) from decide_eq_decide.mpr key]
  clear key
  generalize n * n = s at *
  by_cases c1 : s / 18446744073709551616 < T / 18446744073709551616
  · rw [decide_eq_true c1, decide_eq_true (show s ≤ T by omega)]; rfl
  · rw [decide_eq_false c1]
    by_cases c2 : s / 18446744073709551616 = T / 18446744073709551616
    · rw [decide_eq_true c2, Bool.false_or, Bool.true_and, decide_eq_decide]; omega
    · rw [decide_eq_false c2, decide_eq_false (show ¬ s ≤ T by omega)]; rfl
set_option maxHeartbeats 4000000 in
set_option maxRecDepth 100000 in
theorem impl_LengthOf.yes (k : Nat) (a b : Int) (w : World) (ht : impl_areFixed.f k [a, b] = some true) (h1 l1 h2 l2 C L T : Int) (hs1 : impl_square.f a = some (h1, l1)) (hs2 : impl_square.f b = some (h2, l2)) (g0 : 0 ≤ h1) (g1 : h1 ≤ 65536) (g2 : 0 ≤ h2) (g3 : h2 ≤ 65536) (c0 : 0 ≤ C) (c1 : C ≤ 1)
    (hT : h1 + h2 + C = T / 18446744073709551616) (hL : L = T % 18446744073709551616) (T0 : 0 ≤ T) (hadd : ∀ W : World, (callFunc 43 #[.int .u64 l1, .int .u64 l2, .int .u64 0]).run Try.prog W = .ok (.value (.tuple #[.int .u64 L, .int .u64 C])) W) :
    Calls Try.prog 24 #[.int .i64 a, .int .i64 b] w fun e w' => e = .returned (.int .i64 (mn (isq T.toNat : Int) 1099511627776)) ∧ Below w.heap.size w w' := by
  have HT := Aside0.mk ht
  have S1 := Aside0.mk hs1
  have S2 := Aside0.mk hs2
  have eg := Go.Proofs.enters_of Try.func45 (by kernel_rfl) rfl
  have r0 : 0 ≤ mn (isq T.toNat : Int) 1099511627776 := by unfold mn; split <;> omega
  have r1 : mn (isq T.toNat : Int) 1099511627776 ≤ 1099511627776 := by unfold mn; split <;> omega
  have HC := Aside0.mk (fun (W0 : World) (p q : Addr) (hp : W0.cell? p = some (.int .u64 (h1 + h2 + C))) (hq : W0.cell? q = some (.int .u64 L)) => greatest_calls 45 #[.pointer (some p), .pointer (some q)] eg 1099511627776 (mn (isq T.toNat : Int) 1099511627776) r0 r1 (by decide) W0 (fun n n0 n1 W hW2 => by
    have hp1 := (hW2.cell (World.block_lt_of_cell? W0 _ hp)).trans hp
    have hq1 := (hW2.cell (World.block_lt_of_cell? W0 _ hq)).trans hq
    have hc := impl_LengthOf.cond n _ _ _ _ W p q hp1 hq1 (impl_LengthOf.sq (a := n) (by omega) n1)
    rw [hT, hL, impl_LengthOf.key T n T0 n0 n1] at hc
    exact hc))
  clear ht hs1 hs2 hT hL T0 eg r0 r1
  go_enter Try.func24, Try.ntmps24
  go_wp2_with fail
  refine (impl_areFixed.calls k _ _ [a, b] true _ (C_two (ad := ⟨w.heap.size, 0, none⟩) (by simp [Addr.add]) (by simp [Addr.add])) (by simp) HT.out).mono ?_
  rintro e w1 ⟨rfl, ⟨n1, rfl⟩⟩
  go_wp2_with fail
  refine (impl_square.calls a h1 l1 _ S1.out).mono ?_
  rintro e w2 ⟨rfl, hb⟩
  have HB := Aside0.mk (below_step (w := w) (by repeat (first | exact Below.refl _ _ | apply below_alloc | apply pw_below_drewN | apply below_drew1)) hb)
  clear hb
  go_wp2_with fail
  refine (impl_square.calls b h2 l2 _ S2.out).mono ?_
  rintro e w3 ⟨rfl, hb⟩
  have HB2 := Aside0.mk (below_step (w := w) (by repeat (first | exact HB.out | apply below_alloc | apply pw_below_drewN | apply below_drew1)) hb)
  clear hb HB
  go_wp2_with fail
  refine (HC.out _ _ _ ?_ ?_).mono ?_
  · simp
  · simp
  rintro e w4 ⟨rfl, hb⟩
  have HB := Aside0.mk (below_step (w := w) (by repeat (first | exact HB2.out | apply below_alloc | apply pw_below_drewN | apply below_drew1)) hb)
  clear hb HB2
  go_wp2
  go_ret
  exact ⟨rfl, HB.out⟩
theorem impl_LengthOf.all (k : Nat) (a b : Int) (w : World) (ht : impl_areFixed.f k [a, b] = some true) (a0 : -1099511627776 ≤ a) (a1 : a ≤ 1099511627776) (b0 : -1099511627776 ≤ b) (b1 : b ≤ 1099511627776) :
    Calls Try.prog 24 #[.int .i64 a, .int .i64 b] w fun e w' => e = .returned (.int .i64 (impl_LengthOf.g a b)) ∧ Below w.heap.size w w' := by
  have I1 := impl_LengthOf.absIn a0 a1
  have I2 := impl_LengthOf.absIn b0 b1
  have s1 := impl_LengthOf.sq a0 a1
  have s2 := impl_LengthOf.sq b0 b1
  have P0 : 0 ≤ impl_LengthOf.abs a * impl_LengthOf.abs a := Int.mul_nonneg I1.1 I1.1
  have P1 : impl_LengthOf.abs a * impl_LengthOf.abs a ≤ 1099511627776 * 1099511627776 := Int.mul_le_mul I1.2 I1.2 I1.1 (by omega)
  have Q0 : 0 ≤ impl_LengthOf.abs b * impl_LengthOf.abs b := Int.mul_nonneg I2.1 I2.1
  have Q1 : impl_LengthOf.abs b * impl_LengthOf.abs b ≤ 1099511627776 * 1099511627776 := Int.mul_le_mul I2.2 I2.2 I2.1 (by omega)
  unfold impl_LengthOf.g
  generalize impl_LengthOf.abs a * impl_LengthOf.abs a = P at *
  generalize impl_LengthOf.abs b * impl_LengthOf.abs b = Q at *
  exact impl_LengthOf.yes k a b w ht _ _ _ _ ((P % 18446744073709551616 + Q % 18446744073709551616) / 18446744073709551616) ((P % 18446744073709551616 + Q % 18446744073709551616) % 18446744073709551616) (P + Q) s1 s2 (by omega) (by omega) (by omega) (by omega) (by omega) (by omega) (by omega) (by omega) (by omega) (fun W => impl_LengthOf.add _ _ (by omega) (by omega) W)
theorem impl_LengthOf.calls (k : Nat) (a0 : Int) (a1 : Int) (r : Int) (w : World) (h : impl_LengthOf.f k a0 a1 = some r) :
    Calls Try.prog 24 #[.int .i64 a0, .int .i64 a1] w fun e w' => e = .returned (.int .i64 r) ∧ Below w.heap.size w w' := by
  unfold impl_LengthOf.f at h
  obtain ⟨t, ht, h⟩ := Option.bind_eq_some_iff.mp h
  cases t with
  | false =>
    rw [if_neg (show ¬ (false = true) by decide)] at h
    obtain rfl := Option.some.inj h
    have HT := Aside0.mk ht
    clear ht h
    go_enter Try.func24, Try.ntmps24
    go_wp2_with fail
    refine (impl_areFixed.calls k _ _ [a0, a1] false _ (C_two (ad := ⟨w.heap.size, 0, none⟩) (by simp [Addr.add]) (by simp [Addr.add])) (by simp) HT.out).mono ?_
    rintro e w1 ⟨rfl, ⟨n1, rfl⟩⟩
    go_wp2
    go_ret
    exact ⟨rfl, by repeat (first | exact Below.refl _ _ | apply below_alloc | apply pw_below_drewN | apply below_drew1)⟩
  | true =>
    rw [if_pos rfl] at h
    split at h
    · rename_i hb
      obtain ⟨b0, b1, b2, b3⟩ := hb
      obtain rfl := Option.some.inj h
      exact impl_LengthOf.all k a0 a1 w ht b0 b1 b2 b3
    · cases h

end Go.Proofs.Ytcdchmdkcdlklaa.PFnExactSteer
