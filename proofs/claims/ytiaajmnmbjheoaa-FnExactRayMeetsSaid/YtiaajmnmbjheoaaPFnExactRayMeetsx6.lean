/- The machine's side of a law, function by function: a Lean function with the Go function's answers and the proof that the Go code comes to them. No condition. Written by this session's program over the kit's print, this session's own contracts set in. -/
import Derived.Test.YtiaajmnmbjheoaaPFnExactRayMeetsx0
import Derived.Test.YtiaajmnmbjheoaaPFnExactRayMeetsx4
import Derived.Test.YtiaajmnmbjheoaaPFnExactRayMeetsx5
namespace Go.Proofs.Ytiaajmnmbjheoaa.PFnExactRayMeets
open Go.RowKit Go.Proofs.YtiaajmnmbjheoaaW.PrintWords Go.Proofs.YtiaajmnmbjheoaaW.PrintLast Go.Proofs.YtiaajmnmbjheoaaW.PrintMore
attribute [local go_sem] max2_int min2_int max_two min_two max_three min_three max_four min_four   -- for this text's walks alone
set_option linter.unusedVariables false
set_option linter.unusedSimpArgs false

/-! ### impl_RayMeets: function 28 -/
mutual
def impl_RayMeets.j0 : Nat → List (S100) → Int → Int → Int → Int → Bool → Option ((List (S109)) × Bool)
  | 0, _, _, _, _, _, _ => none
  | k + 1, x0, x1, x2, x3, x4, x56 => if x56 = true then (some (([] : List (S109)), false)) else (impl_RayMeets.l0 k x1 x2 x3 x4 (([] : List (S109))) x0 (x0.length : Int) 0)
def impl_RayMeets.l0 : Nat → Int → Int → Int → Int → List (S109) → List (S100) → Int → Int → Option ((List (S109)) × Bool)
  | 0, _, _, _, _, _, _, _, _ => none
  | k + 1, x1, x2, x3, x4, x12, x58, x59, x60 => if x60 < x59 then (if 0 ≤ x60 then (if x60 < (x58.length : Int) then (if ((rd_T100 x58 x60).f0) = 1 then ((impl_Shape_bounds.f ((rd_T100 x58 x60).f0) ((rd_T100 x58 x60).f1) ((rd_T100 x58 x60).f2) ((rd_T100 x58 x60).f3) ((rd_T100 x58 x60).f4)).bind fun bt235 => ((impl_between.f x1 x3 bt235.1 bt235.2.2.1).bind fun bt239 => ((impl_between.f x2 x4 bt235.2.1 bt235.2.2.2).bind fun bt246 => ((impl_part_less.f bt239.1 bt239.2.1 bt246.1 bt246.2.1).bind fun t253 => (if t253 = true then (impl_RayMeets.j2 k x1 x2 x3 x4 x12 x60 bt239.2.2.2.2 bt246.2.2.2.2 x58 x59 x60 bt246.1 bt246.2.1 bt239.2.2.1 bt239.2.2.2.1 bt246.2.2.1 bt246.2.2.2.1) else (impl_RayMeets.j2 k x1 x2 x3 x4 x12 x60 bt239.2.2.2.2 bt246.2.2.2.2 x58 x59 x60 bt239.1 bt239.2.1 bt239.2.2.1 bt239.2.2.2.1 bt246.2.2.1 bt246.2.2.2.1)))))) else (impl_RayMeets.l0 k x1 x2 x3 x4 x12 x58 x59 (wrap64 (x60 + 1)))) else (none)) else (none)) else ((impl_Meet_73.f x12).bind fun t230 => (some (t230, true)))
def impl_RayMeets.j2 : Nat → Int → Int → Int → Int → List (S109) → Int → Bool → Bool → List (S100) → Int → Int → Int → Int → Int → Int → Int → Int → Option ((List (S109)) × Bool)
  | 0, _, _, _, _, _, _, _, _, _, _, _, _, _, _, _, _, _ => none
  | k + 1, x1, x2, x3, x4, x12, x13, x21, x24, x58, x59, x60, x245000, x245001, x246000, x246001, x253000, x253001 => if x21 = true then (if x24 = true then ((impl_part_less.f x246000 x246001 x245000 x245001).bind fun t254 => (if t254 = true then (impl_RayMeets.l0 k x1 x2 x3 x4 x12 x58 x59 (wrap64 (x60 + 1))) else ((impl_part_less.f x253000 x253001 x245000 x245001).bind fun t255 => (if t255 = true then (impl_RayMeets.l0 k x1 x2 x3 x4 x12 x58 x59 (wrap64 (x60 + 1))) else ((impl_common.f k x245000 x245001).bind fun t256 => (if t256 = 0 then (none) else (if x12.length < 5864062014805 then (impl_RayMeets.l0 k x1 x2 x3 x4 (x12 ++ [(⟨x13, wrap64 (Int.tdiv x245000 t256), wrap64 (Int.tdiv x245001 t256)⟩ : S109)]) x58 x59 (wrap64 (x60 + 1))) else (none)))))))) else (impl_RayMeets.l0 k x1 x2 x3 x4 x12 x58 x59 (wrap64 (x60 + 1)))) else (impl_RayMeets.l0 k x1 x2 x3 x4 x12 x58 x59 (wrap64 (x60 + 1)))
end
def impl_RayMeets.f (k : Nat) (l0 : List (S100)) (a1 : Int) (a2 : Int) (a3 : Int) (a4 : Int) : Option ((List (S109)) × Bool) := (impl_areShapes.f l0).bind fun t222 => (if t222 = true then ((impl_isSpan.f a1).bind fun t223 => (if t223 = true then ((impl_isSpan.f a2).bind fun t224 => (if t224 = true then ((impl_isSpan.f a3).bind fun t225 => (if t225 = true then ((impl_isSpan.f a4).bind fun t226 => (if t226 = true then (if a3 = 0 then (impl_RayMeets.j0 k l0 a1 a2 a3 a4 (a4 == 0)) else (impl_RayMeets.j0 k l0 a1 a2 a3 a4 false)) else (impl_RayMeets.j0 k l0 a1 a2 a3 a4 true))) else (impl_RayMeets.j0 k l0 a1 a2 a3 a4 true))) else (impl_RayMeets.j0 k l0 a1 a2 a3 a4 true))) else (impl_RayMeets.j0 k l0 a1 a2 a3 a4 true))) else (impl_RayMeets.j0 k l0 a1 a2 a3 a4 true))
theorem impl_RayMeets.mono_l : ∀ k, (∀ y0 y1 y2 y3 y4 y5, LeO (impl_RayMeets.j0 k y0 y1 y2 y3 y4 y5) (impl_RayMeets.j0 (k + 1) y0 y1 y2 y3 y4 y5)) ∧ (∀ y0 y1 y2 y3 y4 y5 y6 y7, LeO (impl_RayMeets.l0 k y0 y1 y2 y3 y4 y5 y6 y7) (impl_RayMeets.l0 (k + 1) y0 y1 y2 y3 y4 y5 y6 y7)) ∧ (∀ y0 y1 y2 y3 y4 y5 y6 y7 y8 y9 y10 y11 y12 y13 y14 y15 y16, LeO (impl_RayMeets.j2 k y0 y1 y2 y3 y4 y5 y6 y7 y8 y9 y10 y11 y12 y13 y14 y15 y16) (impl_RayMeets.j2 (k + 1) y0 y1 y2 y3 y4 y5 y6 y7 y8 y9 y10 y11 y12 y13 y14 y15 y16))
  | 0 => ⟨fun _ _ _ _ _ _ r h => by simp [impl_RayMeets.j0] at h, fun _ _ _ _ _ _ _ _ r h => by simp [impl_RayMeets.l0] at h, fun _ _ _ _ _ _ _ _ _ _ _ _ _ _ _ _ _ r h => by simp [impl_RayMeets.j2] at h⟩
  | k + 1 => by
    obtain ⟨ih0, ih1, ih2⟩ := impl_RayMeets.mono_l k
    refine ⟨?_, ?_, ?_⟩
    · intro y0 y1 y2 y3 y4 y5
      unfold impl_RayMeets.j0
      repeat' first
      | (with_reducible exact ih0 _ _ _ _ _ _)
      | (with_reducible exact ih1 _ _ _ _ _ _ _ _)
      | (with_reducible exact ih2 _ _ _ _ _ _ _ _ _ _ _ _ _ _ _ _ _)
      | (with_reducible exact impl_common.mono _ _ _)
      | (with_reducible exact LeO.refl _)
      | (with_reducible exact LeO.none _)
      | (with_reducible refine LeO.ite ?_ ?_)
      | (with_reducible refine LeO.bind ?_ (fun _ => ?_))
      | exact ih0 _ _ _ _ _ _
      | exact ih1 _ _ _ _ _ _ _ _
      | exact ih2 _ _ _ _ _ _ _ _ _ _ _ _ _ _ _ _ _
      | exact impl_common.mono _ _ _
      | exact LeO.none _
      | refine LeO.ite ?_ ?_
      | refine LeO.bind ?_ (fun _ => ?_)
    · intro y0 y1 y2 y3 y4 y5 y6 y7
      unfold impl_RayMeets.l0
      repeat' first
      | (with_reducible exact ih0 _ _ _ _ _ _)
      | (with_reducible exact ih1 _ _ _ _ _ _ _ _)
      | (with_reducible exact ih2 _ _ _ _ _ _ _ _ _ _ _ _ _ _ _ _ _)
      | (with_reducible exact impl_common.mono _ _ _)
      | (with_reducible exact LeO.refl _)
      | (with_reducible exact LeO.none _)
      | (with_reducible refine LeO.ite ?_ ?_)
      | (with_reducible refine LeO.bind ?_ (fun _ => ?_))
      | exact ih0 _ _ _ _ _ _
      | exact ih1 _ _ _ _ _ _ _ _
      | exact ih2 _ _ _ _ _ _ _ _ _ _ _ _ _ _ _ _ _
      | exact impl_common.mono _ _ _
      | exact LeO.none _
      | refine LeO.ite ?_ ?_
      | refine LeO.bind ?_ (fun _ => ?_)
    · intro y0 y1 y2 y3 y4 y5 y6 y7 y8 y9 y10 y11 y12 y13 y14 y15 y16
      unfold impl_RayMeets.j2
      repeat' first
      | (with_reducible exact ih0 _ _ _ _ _ _)
      | (with_reducible exact ih1 _ _ _ _ _ _ _ _)
      | (with_reducible exact ih2 _ _ _ _ _ _ _ _ _ _ _ _ _ _ _ _ _)
      | (with_reducible exact impl_common.mono _ _ _)
      | (with_reducible exact LeO.refl _)
      | (with_reducible exact LeO.none _)
      | (with_reducible refine LeO.ite ?_ ?_)
      | (with_reducible refine LeO.bind ?_ (fun _ => ?_))
      | exact ih0 _ _ _ _ _ _
      | exact ih1 _ _ _ _ _ _ _ _
      | exact ih2 _ _ _ _ _ _ _ _ _ _ _ _ _ _ _ _ _
      | exact impl_common.mono _ _ _
      | exact LeO.none _
      | refine LeO.ite ?_ ?_
      | refine LeO.bind ?_ (fun _ => ?_)
theorem impl_RayMeets.mono : ∀ a0 a1 a2 a3 a4 k, LeO (impl_RayMeets.f k a0 a1 a2 a3 a4) (impl_RayMeets.f (k + 1) a0 a1 a2 a3 a4) := by
  intro a0 a1 a2 a3 a4 k
  obtain ⟨ih0, ih1, ih2⟩ := impl_RayMeets.mono_l k
  unfold impl_RayMeets.f
  repeat' first
      | (with_reducible exact ih0 _ _ _ _ _ _)
      | (with_reducible exact ih1 _ _ _ _ _ _ _ _)
      | (with_reducible exact ih2 _ _ _ _ _ _ _ _ _ _ _ _ _ _ _ _ _)
      | (with_reducible exact impl_common.mono _ _ _)
      | (with_reducible exact LeO.refl _)
      | (with_reducible exact LeO.none _)
      | (with_reducible refine LeO.ite ?_ ?_)
      | (with_reducible refine LeO.bind ?_ (fun _ => ?_))
      | exact ih0 _ _ _ _ _ _
      | exact ih1 _ _ _ _ _ _ _ _
      | exact ih2 _ _ _ _ _ _ _ _ _ _ _ _ _ _ _ _ _
      | exact impl_common.mono _ _ _
      | exact LeO.none _
      | refine LeO.ite ?_ ?_
      | refine LeO.bind ?_ (fun _ => ?_)
def impl_RayMeets.T15 : Bool × List (List Nat × List Nat) := (true, [([], []), ([], []), ([], []), ([2], [2]), ([], []), ([3, 4], [3, 4]), ([], []), ([6], [6]), ([], []), ([7, 8], [7, 8]), ([1, 5, 9], [1, 5, 9]), ([10], [10]), ([0, 11], [0, 11]), ([12, 12, 0, 1, 2, 3, 4, 5, 6, 7, 8, 9, 10, 11, 12], [0, 12])])
def impl_RayMeets.B15 : List Nat := [0, 0, 0, 4, 0, 28, 0, 64, 0, 448, 1022, 2046, 4095, 8191]
theorem impl_RayMeets.tab15 : rtab .any (opsOf Try.f28 15) = impl_RayMeets.T15 := by kernel_rfl
theorem impl_RayMeets.bits15 : waitsOk impl_RayMeets.T15.2 impl_RayMeets.B15 = true := by kernel_rfl
set_option maxHeartbeats 8000000 in
set_option maxRecDepth 100000 in
theorem impl_RayMeets.calls (k : Nat) (A0 : Option Addr) (c0 : Nat) (l0 : List (S100)) (a1 : Int) (a2 : Int) (a3 : Int) (a4 : Int) (r1 : List (S109)) (r2 : Bool) (w : World) (hr0 : Kd.C k100 w A0 l0.length l0) (hc0 : l0.length ≤ c0) (h : impl_RayMeets.f k l0 a1 a2 a3 a4 = some (r1, r2)) :
    Calls Try.prog 28 #[.slice A0 l0.length c0, .int .i64 a1, .int .i64 a2, .int .i64 a3, .int .i64 a4] w fun e w' => ∃ v0_ : Value, e = .returned (.tuple #[v0_, .bool r2]) ∧ Kd.R k109 109 w' w.heap.size (fun _ => True) v0_ r1 ∧ Below w.heap.size w w' := by
  have hu100 := Try.underlying100
  have hu115 := Try.underlying115
  have hu109 := Try.underlying109
  have HR0 := Aside0.mk hr0
  have HC0 := Aside0.mk hc0
  clear hr0 hc0
  have HB := Aside0.mk (Below.refl w.heap.size w)
  have H : ((impl_areShapes.f l0).bind fun t222 => (if t222 = true then ((impl_isSpan.f a1).bind fun t223 => (if t223 = true then ((impl_isSpan.f a2).bind fun t224 => (if t224 = true then ((impl_isSpan.f a3).bind fun t225 => (if t225 = true then ((impl_isSpan.f a4).bind fun t226 => (if t226 = true then (if a3 = 0 then (impl_RayMeets.j0 k l0 a1 a2 a3 a4 (a4 == 0)) else (impl_RayMeets.j0 k l0 a1 a2 a3 a4 false)) else (impl_RayMeets.j0 k l0 a1 a2 a3 a4 true))) else (impl_RayMeets.j0 k l0 a1 a2 a3 a4 true))) else (impl_RayMeets.j0 k l0 a1 a2 a3 a4 true))) else (impl_RayMeets.j0 k l0 a1 a2 a3 a4 true))) else (impl_RayMeets.j0 k l0 a1 a2 a3 a4 true))) = some (r1, r2) := h
  clear h
  have HC6 := Aside0.mk H
  clear H
  go_enter Try.func28, Try.ntmps28
  go_upto_region 1 with (fail)
  go_cut [56] (fun v56 wc => ∃ (kq : Nat) (x56_5 : Bool), v56 = .bool x56_5 ∧ Aside0 (impl_RayMeets.j0 kq l0 a1 a2 a3 a4 x56_5 = some (r1, r2)) ∧ Aside0 (kq ≤ k) ∧ Aside0 (Below w.heap.size w wc))
  case first =>
    have H := HC6.out
    clear HC6
    replace H := Option.bind_eq_some_iff.mp H
    obtain ⟨t222, A70, H⟩ := H
    replace H : (if t222 = true then ((impl_isSpan.f a1).bind fun t223 => (if t223 = true then ((impl_isSpan.f a2).bind fun t224 => (if t224 = true then ((impl_isSpan.f a3).bind fun t225 => (if t225 = true then ((impl_isSpan.f a4).bind fun t226 => (if t226 = true then (if a3 = 0 then (impl_RayMeets.j0 k l0 a1 a2 a3 a4 (a4 == 0)) else (impl_RayMeets.j0 k l0 a1 a2 a3 a4 false)) else (impl_RayMeets.j0 k l0 a1 a2 a3 a4 true))) else (impl_RayMeets.j0 k l0 a1 a2 a3 a4 true))) else (impl_RayMeets.j0 k l0 a1 a2 a3 a4 true))) else (impl_RayMeets.j0 k l0 a1 a2 a3 a4 true))) else (impl_RayMeets.j0 k l0 a1 a2 a3 a4 true)) = some (r1, r2) := H
    have A7 := Aside0.mk A70
    clear A70
    by_cases c8 : t222 = true
    · subst c8
      have H1 : ((impl_isSpan.f a1).bind fun t223 => (if t223 = true then ((impl_isSpan.f a2).bind fun t224 => (if t224 = true then ((impl_isSpan.f a3).bind fun t225 => (if t225 = true then ((impl_isSpan.f a4).bind fun t226 => (if t226 = true then (if a3 = 0 then (impl_RayMeets.j0 k l0 a1 a2 a3 a4 (a4 == 0)) else (impl_RayMeets.j0 k l0 a1 a2 a3 a4 false)) else (impl_RayMeets.j0 k l0 a1 a2 a3 a4 true))) else (impl_RayMeets.j0 k l0 a1 a2 a3 a4 true))) else (impl_RayMeets.j0 k l0 a1 a2 a3 a4 true))) else (impl_RayMeets.j0 k l0 a1 a2 a3 a4 true))) = some (r1, r2) := by rw [if_pos rfl] at H; exact H
      clear H
      have H := H1
      clear H1
      replace H := Option.bind_eq_some_iff.mp H
      obtain ⟨t223, A90, H⟩ := H
      replace H : (if t223 = true then ((impl_isSpan.f a2).bind fun t224 => (if t224 = true then ((impl_isSpan.f a3).bind fun t225 => (if t225 = true then ((impl_isSpan.f a4).bind fun t226 => (if t226 = true then (if a3 = 0 then (impl_RayMeets.j0 k l0 a1 a2 a3 a4 (a4 == 0)) else (impl_RayMeets.j0 k l0 a1 a2 a3 a4 false)) else (impl_RayMeets.j0 k l0 a1 a2 a3 a4 true))) else (impl_RayMeets.j0 k l0 a1 a2 a3 a4 true))) else (impl_RayMeets.j0 k l0 a1 a2 a3 a4 true))) else (impl_RayMeets.j0 k l0 a1 a2 a3 a4 true)) = some (r1, r2) := H
      have A9 := Aside0.mk A90
      clear A90
      by_cases c10 : t223 = true
      · subst c10
        have H1 : ((impl_isSpan.f a2).bind fun t224 => (if t224 = true then ((impl_isSpan.f a3).bind fun t225 => (if t225 = true then ((impl_isSpan.f a4).bind fun t226 => (if t226 = true then (if a3 = 0 then (impl_RayMeets.j0 k l0 a1 a2 a3 a4 (a4 == 0)) else (impl_RayMeets.j0 k l0 a1 a2 a3 a4 false)) else (impl_RayMeets.j0 k l0 a1 a2 a3 a4 true))) else (impl_RayMeets.j0 k l0 a1 a2 a3 a4 true))) else (impl_RayMeets.j0 k l0 a1 a2 a3 a4 true))) = some (r1, r2) := by rw [if_pos rfl] at H; exact H
        clear H
        have H := H1
        clear H1
        replace H := Option.bind_eq_some_iff.mp H
        obtain ⟨t224, A110, H⟩ := H
        replace H : (if t224 = true then ((impl_isSpan.f a3).bind fun t225 => (if t225 = true then ((impl_isSpan.f a4).bind fun t226 => (if t226 = true then (if a3 = 0 then (impl_RayMeets.j0 k l0 a1 a2 a3 a4 (a4 == 0)) else (impl_RayMeets.j0 k l0 a1 a2 a3 a4 false)) else (impl_RayMeets.j0 k l0 a1 a2 a3 a4 true))) else (impl_RayMeets.j0 k l0 a1 a2 a3 a4 true))) else (impl_RayMeets.j0 k l0 a1 a2 a3 a4 true)) = some (r1, r2) := H
        have A11 := Aside0.mk A110
        clear A110
        by_cases c12 : t224 = true
        · subst c12
          have H1 : ((impl_isSpan.f a3).bind fun t225 => (if t225 = true then ((impl_isSpan.f a4).bind fun t226 => (if t226 = true then (if a3 = 0 then (impl_RayMeets.j0 k l0 a1 a2 a3 a4 (a4 == 0)) else (impl_RayMeets.j0 k l0 a1 a2 a3 a4 false)) else (impl_RayMeets.j0 k l0 a1 a2 a3 a4 true))) else (impl_RayMeets.j0 k l0 a1 a2 a3 a4 true))) = some (r1, r2) := by rw [if_pos rfl] at H; exact H
          clear H
          have H := H1
          clear H1
          replace H := Option.bind_eq_some_iff.mp H
          obtain ⟨t225, A130, H⟩ := H
          replace H : (if t225 = true then ((impl_isSpan.f a4).bind fun t226 => (if t226 = true then (if a3 = 0 then (impl_RayMeets.j0 k l0 a1 a2 a3 a4 (a4 == 0)) else (impl_RayMeets.j0 k l0 a1 a2 a3 a4 false)) else (impl_RayMeets.j0 k l0 a1 a2 a3 a4 true))) else (impl_RayMeets.j0 k l0 a1 a2 a3 a4 true)) = some (r1, r2) := H
          have A13 := Aside0.mk A130
          clear A130
          by_cases c14 : t225 = true
          · subst c14
            have H1 : ((impl_isSpan.f a4).bind fun t226 => (if t226 = true then (if a3 = 0 then (impl_RayMeets.j0 k l0 a1 a2 a3 a4 (a4 == 0)) else (impl_RayMeets.j0 k l0 a1 a2 a3 a4 false)) else (impl_RayMeets.j0 k l0 a1 a2 a3 a4 true))) = some (r1, r2) := by rw [if_pos rfl] at H; exact H
            clear H
            have H := H1
            clear H1
            replace H := Option.bind_eq_some_iff.mp H
            obtain ⟨t226, A150, H⟩ := H
            replace H : (if t226 = true then (if a3 = 0 then (impl_RayMeets.j0 k l0 a1 a2 a3 a4 (a4 == 0)) else (impl_RayMeets.j0 k l0 a1 a2 a3 a4 false)) else (impl_RayMeets.j0 k l0 a1 a2 a3 a4 true)) = some (r1, r2) := H
            have A15 := Aside0.mk A150
            clear A150
            by_cases c16 : t226 = true
            · subst c16
              have H1 : (if a3 = 0 then (impl_RayMeets.j0 k l0 a1 a2 a3 a4 (a4 == 0)) else (impl_RayMeets.j0 k l0 a1 a2 a3 a4 false)) = some (r1, r2) := by rw [if_pos rfl] at H; exact H
              clear H
              have H := H1
              clear H1
              by_cases c17 : a3 = 0
              · rw [if_pos c17] at H
                have c17b0 : (a3 == 0) = true := beq_iff_eq.mpr c17
                have c17b1 : (a3 != 0) = false := bne_eq_false_iff_eq.mpr c17
                clear c17
                (first | rw [c17b0] | (simp only [i64_w, i32_w]; rw [c17b0]) | skip)
                have H' := Aside0.mk H
                clear H
                go_wp2_with (first | ((with_reducible refine gate_callee (f := 67) rfl ?_); refine goesL_ (some 27) rfl rfl Try.func67 (by kernel_rfl) rfl #[.slice A0 l0.length c0] rfl (by (try simp only [List.map_toArray, List.map_cons, List.map_nil]); first | done | rfl | (simp only [List.length_drop, List.length_take]; rfl)) ?_; (with_reducible refine (impl_areShapes.calls _ _ l0 true _ ?side1 ?side2 A7.out).mono ?_); (case side1 => repeat (first | exact (Kd.C_below HR0.out HB.out) | (with_reducible refine Kd.C_alloc ?_ _) | (with_reducible refine Kd.C_drewN ?_ _) | (with_reducible refine Kd.C_drew ?_))); (case side2 => exact HC0.out); rintro e w18 ⟨rfl, hb⟩; refine ⟨_, rfl, ?_⟩; have n0_ := Aside0.mk (below_step (by repeat (first | (with_reducible first | exact HB.out | apply below_alloc | apply pw_below_drewN | apply below_drew1) | exact HB.out)) hb); clear HB; have HB := n0_; clear n0_; (try clear hb); (try clear hb2); (try clear hk); (try clear hi)) | (go_at_call 68; (with_reducible refine (impl_isSpan.calls a1 true _ A9.out).mono ?_); rintro e w' ⟨rfl, ⟨nd, rfl⟩⟩) | (go_at_call 68; (with_reducible refine (impl_isSpan.calls a2 true _ A11.out).mono ?_); rintro e w' ⟨rfl, ⟨nd, rfl⟩⟩) | (go_at_call 68; (with_reducible refine (impl_isSpan.calls a3 true _ A13.out).mono ?_); rintro e w' ⟨rfl, ⟨nd, rfl⟩⟩) | (go_at_call 68; (with_reducible refine (impl_isSpan.calls a4 true _ A15.out).mono ?_); rintro e w' ⟨rfl, ⟨nd, rfl⟩⟩))
                go_meet
                case rel => exact ⟨_, ((a4 == 0)), (by first | rfl | (simp; done) | (simp [*]; done)), H', ⟨by first | omega | exact Nat.le_refl _⟩, ⟨by repeat (first | (with_reducible first | exact HB.out | apply below_alloc | apply pw_below_drewN | apply below_drew1) | exact HB.out)⟩⟩
              · rw [if_neg c17] at H
                have c17b0 : (a3 == 0) = false := beq_eq_false_iff_ne.mpr c17
                have c17b1 : (a3 != 0) = true := bne_iff_ne.mpr c17
                (first | rw [c17b0] | (simp only [i64_w, i32_w]; rw [c17b0]) | skip)
                have H' := Aside0.mk H
                clear H
                go_wp2_with (first | ((with_reducible refine gate_callee (f := 67) rfl ?_); refine goesL_ (some 27) rfl rfl Try.func67 (by kernel_rfl) rfl #[.slice A0 l0.length c0] rfl (by (try simp only [List.map_toArray, List.map_cons, List.map_nil]); first | done | rfl | (simp only [List.length_drop, List.length_take]; rfl)) ?_; (with_reducible refine (impl_areShapes.calls _ _ l0 true _ ?side1 ?side2 A7.out).mono ?_); (case side1 => repeat (first | exact (Kd.C_below HR0.out HB.out) | (with_reducible refine Kd.C_alloc ?_ _) | (with_reducible refine Kd.C_drewN ?_ _) | (with_reducible refine Kd.C_drew ?_))); (case side2 => exact HC0.out); rintro e w19 ⟨rfl, hb⟩; refine ⟨_, rfl, ?_⟩; have n0_ := Aside0.mk (below_step (by repeat (first | (with_reducible first | exact HB.out | apply below_alloc | apply pw_below_drewN | apply below_drew1) | exact HB.out)) hb); clear HB; have HB := n0_; clear n0_; (try clear hb); (try clear hb2); (try clear hk); (try clear hi)) | (go_at_call 68; (with_reducible refine (impl_isSpan.calls a1 true _ A9.out).mono ?_); rintro e w' ⟨rfl, ⟨nd, rfl⟩⟩) | (go_at_call 68; (with_reducible refine (impl_isSpan.calls a2 true _ A11.out).mono ?_); rintro e w' ⟨rfl, ⟨nd, rfl⟩⟩) | (go_at_call 68; (with_reducible refine (impl_isSpan.calls a3 true _ A13.out).mono ?_); rintro e w' ⟨rfl, ⟨nd, rfl⟩⟩) | (go_at_call 68; (with_reducible refine (impl_isSpan.calls a4 true _ A15.out).mono ?_); rintro e w' ⟨rfl, ⟨nd, rfl⟩⟩))
                go_meet
                case rel => exact ⟨_, (false), (by first | rfl | (simp; done) | (simp [*]; done)), H', ⟨by first | omega | exact Nat.le_refl _⟩, ⟨by repeat (first | (with_reducible first | exact HB.out | apply below_alloc | apply pw_below_drewN | apply below_drew1) | exact HB.out)⟩⟩
            · replace c16 := Bool.eq_false_iff.mpr c16
              subst c16
              have H1 : (impl_RayMeets.j0 k l0 a1 a2 a3 a4 true) = some (r1, r2) := by rw [if_neg (show ¬ (false = true) by decide)] at H; exact H
              clear H
              have H := H1
              clear H1
              have H' := Aside0.mk H
              clear H
              go_wp2_with (first | ((with_reducible refine gate_callee (f := 67) rfl ?_); refine goesL_ (some 27) rfl rfl Try.func67 (by kernel_rfl) rfl #[.slice A0 l0.length c0] rfl (by (try simp only [List.map_toArray, List.map_cons, List.map_nil]); first | done | rfl | (simp only [List.length_drop, List.length_take]; rfl)) ?_; (with_reducible refine (impl_areShapes.calls _ _ l0 true _ ?side1 ?side2 A7.out).mono ?_); (case side1 => repeat (first | exact (Kd.C_below HR0.out HB.out) | (with_reducible refine Kd.C_alloc ?_ _) | (with_reducible refine Kd.C_drewN ?_ _) | (with_reducible refine Kd.C_drew ?_))); (case side2 => exact HC0.out); rintro e w20 ⟨rfl, hb⟩; refine ⟨_, rfl, ?_⟩; have n0_ := Aside0.mk (below_step (by repeat (first | (with_reducible first | exact HB.out | apply below_alloc | apply pw_below_drewN | apply below_drew1) | exact HB.out)) hb); clear HB; have HB := n0_; clear n0_; (try clear hb); (try clear hb2); (try clear hk); (try clear hi)) | (go_at_call 68; (with_reducible refine (impl_isSpan.calls a1 true _ A9.out).mono ?_); rintro e w' ⟨rfl, ⟨nd, rfl⟩⟩) | (go_at_call 68; (with_reducible refine (impl_isSpan.calls a2 true _ A11.out).mono ?_); rintro e w' ⟨rfl, ⟨nd, rfl⟩⟩) | (go_at_call 68; (with_reducible refine (impl_isSpan.calls a3 true _ A13.out).mono ?_); rintro e w' ⟨rfl, ⟨nd, rfl⟩⟩) | (go_at_call 68; (with_reducible refine (impl_isSpan.calls a4 false _ A15.out).mono ?_); rintro e w' ⟨rfl, ⟨nd, rfl⟩⟩))
              go_meet
              case rel => exact ⟨_, (true), (by first | rfl | (simp; done) | (simp [*]; done)), H', ⟨by first | omega | exact Nat.le_refl _⟩, ⟨by repeat (first | (with_reducible first | exact HB.out | apply below_alloc | apply pw_below_drewN | apply below_drew1) | exact HB.out)⟩⟩
          · replace c14 := Bool.eq_false_iff.mpr c14
            subst c14
            have H1 : (impl_RayMeets.j0 k l0 a1 a2 a3 a4 true) = some (r1, r2) := by rw [if_neg (show ¬ (false = true) by decide)] at H; exact H
            clear H
            have H := H1
            clear H1
            have H' := Aside0.mk H
            clear H
            go_wp2_with (first | ((with_reducible refine gate_callee (f := 67) rfl ?_); refine goesL_ (some 27) rfl rfl Try.func67 (by kernel_rfl) rfl #[.slice A0 l0.length c0] rfl (by (try simp only [List.map_toArray, List.map_cons, List.map_nil]); first | done | rfl | (simp only [List.length_drop, List.length_take]; rfl)) ?_; (with_reducible refine (impl_areShapes.calls _ _ l0 true _ ?side1 ?side2 A7.out).mono ?_); (case side1 => repeat (first | exact (Kd.C_below HR0.out HB.out) | (with_reducible refine Kd.C_alloc ?_ _) | (with_reducible refine Kd.C_drewN ?_ _) | (with_reducible refine Kd.C_drew ?_))); (case side2 => exact HC0.out); rintro e w21 ⟨rfl, hb⟩; refine ⟨_, rfl, ?_⟩; have n0_ := Aside0.mk (below_step (by repeat (first | (with_reducible first | exact HB.out | apply below_alloc | apply pw_below_drewN | apply below_drew1) | exact HB.out)) hb); clear HB; have HB := n0_; clear n0_; (try clear hb); (try clear hb2); (try clear hk); (try clear hi)) | (go_at_call 68; (with_reducible refine (impl_isSpan.calls a1 true _ A9.out).mono ?_); rintro e w' ⟨rfl, ⟨nd, rfl⟩⟩) | (go_at_call 68; (with_reducible refine (impl_isSpan.calls a2 true _ A11.out).mono ?_); rintro e w' ⟨rfl, ⟨nd, rfl⟩⟩) | (go_at_call 68; (with_reducible refine (impl_isSpan.calls a3 false _ A13.out).mono ?_); rintro e w' ⟨rfl, ⟨nd, rfl⟩⟩))
            go_meet
            case rel => exact ⟨_, (true), (by first | rfl | (simp; done) | (simp [*]; done)), H', ⟨by first | omega | exact Nat.le_refl _⟩, ⟨by repeat (first | (with_reducible first | exact HB.out | apply below_alloc | apply pw_below_drewN | apply below_drew1) | exact HB.out)⟩⟩
        · replace c12 := Bool.eq_false_iff.mpr c12
          subst c12
          have H1 : (impl_RayMeets.j0 k l0 a1 a2 a3 a4 true) = some (r1, r2) := by rw [if_neg (show ¬ (false = true) by decide)] at H; exact H
          clear H
          have H := H1
          clear H1
          have H' := Aside0.mk H
          clear H
          go_wp2_with (first | ((with_reducible refine gate_callee (f := 67) rfl ?_); refine goesL_ (some 27) rfl rfl Try.func67 (by kernel_rfl) rfl #[.slice A0 l0.length c0] rfl (by (try simp only [List.map_toArray, List.map_cons, List.map_nil]); first | done | rfl | (simp only [List.length_drop, List.length_take]; rfl)) ?_; (with_reducible refine (impl_areShapes.calls _ _ l0 true _ ?side1 ?side2 A7.out).mono ?_); (case side1 => repeat (first | exact (Kd.C_below HR0.out HB.out) | (with_reducible refine Kd.C_alloc ?_ _) | (with_reducible refine Kd.C_drewN ?_ _) | (with_reducible refine Kd.C_drew ?_))); (case side2 => exact HC0.out); rintro e w22 ⟨rfl, hb⟩; refine ⟨_, rfl, ?_⟩; have n0_ := Aside0.mk (below_step (by repeat (first | (with_reducible first | exact HB.out | apply below_alloc | apply pw_below_drewN | apply below_drew1) | exact HB.out)) hb); clear HB; have HB := n0_; clear n0_; (try clear hb); (try clear hb2); (try clear hk); (try clear hi)) | (go_at_call 68; (with_reducible refine (impl_isSpan.calls a1 true _ A9.out).mono ?_); rintro e w' ⟨rfl, ⟨nd, rfl⟩⟩) | (go_at_call 68; (with_reducible refine (impl_isSpan.calls a2 false _ A11.out).mono ?_); rintro e w' ⟨rfl, ⟨nd, rfl⟩⟩))
          go_meet
          case rel => exact ⟨_, (true), (by first | rfl | (simp; done) | (simp [*]; done)), H', ⟨by first | omega | exact Nat.le_refl _⟩, ⟨by repeat (first | (with_reducible first | exact HB.out | apply below_alloc | apply pw_below_drewN | apply below_drew1) | exact HB.out)⟩⟩
      · replace c10 := Bool.eq_false_iff.mpr c10
        subst c10
        have H1 : (impl_RayMeets.j0 k l0 a1 a2 a3 a4 true) = some (r1, r2) := by rw [if_neg (show ¬ (false = true) by decide)] at H; exact H
        clear H
        have H := H1
        clear H1
        have H' := Aside0.mk H
        clear H
        go_wp2_with (first | ((with_reducible refine gate_callee (f := 67) rfl ?_); refine goesL_ (some 27) rfl rfl Try.func67 (by kernel_rfl) rfl #[.slice A0 l0.length c0] rfl (by (try simp only [List.map_toArray, List.map_cons, List.map_nil]); first | done | rfl | (simp only [List.length_drop, List.length_take]; rfl)) ?_; (with_reducible refine (impl_areShapes.calls _ _ l0 true _ ?side1 ?side2 A7.out).mono ?_); (case side1 => repeat (first | exact (Kd.C_below HR0.out HB.out) | (with_reducible refine Kd.C_alloc ?_ _) | (with_reducible refine Kd.C_drewN ?_ _) | (with_reducible refine Kd.C_drew ?_))); (case side2 => exact HC0.out); rintro e w23 ⟨rfl, hb⟩; refine ⟨_, rfl, ?_⟩; have n0_ := Aside0.mk (below_step (by repeat (first | (with_reducible first | exact HB.out | apply below_alloc | apply pw_below_drewN | apply below_drew1) | exact HB.out)) hb); clear HB; have HB := n0_; clear n0_; (try clear hb); (try clear hb2); (try clear hk); (try clear hi)) | (go_at_call 68; (with_reducible refine (impl_isSpan.calls a1 false _ A9.out).mono ?_); rintro e w' ⟨rfl, ⟨nd, rfl⟩⟩))
        go_meet
        case rel => exact ⟨_, (true), (by first | rfl | (simp; done) | (simp [*]; done)), H', ⟨by first | omega | exact Nat.le_refl _⟩, ⟨by repeat (first | (with_reducible first | exact HB.out | apply below_alloc | apply pw_below_drewN | apply below_drew1) | exact HB.out)⟩⟩
    · replace c8 := Bool.eq_false_iff.mpr c8
      subst c8
      have H1 : (impl_RayMeets.j0 k l0 a1 a2 a3 a4 true) = some (r1, r2) := by rw [if_neg (show ¬ (false = true) by decide)] at H; exact H
      clear H
      have H := H1
      clear H1
      have H' := Aside0.mk H
      clear H
      go_wp2_with (first | ((with_reducible refine gate_callee (f := 67) rfl ?_); refine goesL_ (some 27) rfl rfl Try.func67 (by kernel_rfl) rfl #[.slice A0 l0.length c0] rfl (by (try simp only [List.map_toArray, List.map_cons, List.map_nil]); first | done | rfl | (simp only [List.length_drop, List.length_take]; rfl)) ?_; (with_reducible refine (impl_areShapes.calls _ _ l0 false _ ?side1 ?side2 A7.out).mono ?_); (case side1 => repeat (first | exact (Kd.C_below HR0.out HB.out) | (with_reducible refine Kd.C_alloc ?_ _) | (with_reducible refine Kd.C_drewN ?_ _) | (with_reducible refine Kd.C_drew ?_))); (case side2 => exact HC0.out); rintro e w24 ⟨rfl, hb⟩; refine ⟨_, rfl, ?_⟩; have n0_ := Aside0.mk (below_step (by repeat (first | (with_reducible first | exact HB.out | apply below_alloc | apply pw_below_drewN | apply below_drew1) | exact HB.out)) hb); clear HB; have HB := n0_; clear n0_; (try clear hb); (try clear hb2); (try clear hk); (try clear hi)))
      go_meet
      case rel => exact ⟨_, (true), (by first | rfl | (simp; done) | (simp [*]; done)), H', ⟨by first | omega | exact Nat.le_refl _⟩, ⟨by repeat (first | (with_reducible first | exact HB.out | apply below_alloc | apply pw_below_drewN | apply below_drew1) | exact HB.out)⟩⟩
  case rest =>
    clear HC6
    try clear c1
    try clear c2
    try clear p2
    try clear c6
    try clear c8
    try clear c10
    try clear c12
    try clear c14
    try clear c16
    try clear c17
    try clear c17b0
    try clear c17b1
    obtain ⟨kq, x56_5, rfl, HA, HJ5, HB⟩ := hcut
    cases kq with
    | zero => exact absurd HA.out (by simp [impl_RayMeets.j0])
    | succ kj5 =>
      have H := HA.out
      clear HA
      simp only [impl_RayMeets.j0] at H
      by_cases c25 : x56_5 = true
      · subst c25
        have H1 : (some (([] : List (S109)), false)) = some (r1, r2) := by rw [if_pos rfl] at H; exact H
        clear H
        have H := H1
        clear H1
        simp only [Option.some.injEq, Prod.mk.injEq] at H
        obtain ⟨rfl, rfl⟩ := H
        go_wp2
        go_ret2
        exact ⟨_, by first | rfl | (simp [errW_none, errW_some] <;> rfl) | (simp [*, errW_none, errW_some] <;> rfl), by first | exact Kd.R_nil _ _ _ _ _ | exact Kd.N_nil _ _ _ _ _ | exact Kd.V_nil _ _ _ _ _ | exact Kd.Q_nil _ _ _ _ _ | exact Kd.S_nil _ _ _ _ _, by repeat (first | (with_reducible first | exact HB.out | apply below_alloc | apply pw_below_drewN | apply below_drew1) | exact HB.out)⟩
      · replace c25 := Bool.eq_false_iff.mpr c25
        subst c25
        have H1 : (impl_RayMeets.l0 kj5 a1 a2 a3 a4 (([] : List (S109))) l0 (l0.length : Int) 0) = some (r1, r2) := by rw [if_neg (show ¬ (false = true) by decide)] at H; exact H
        clear H
        have H := H1
        clear H1
        obtain ⟨y227, hy227⟩ : ∃ y_ : List (S109), y_ = (([] : List (S109))) := ⟨_, rfl⟩
        replace H : (impl_RayMeets.l0 kj5 a1 a2 a3 a4 y227 l0 (l0.length : Int) 0) = some (r1, r2) := by first | (rw [hy227]; with_reducible exact H) | (have H2_ := (Option.bind_some _ _).symm.trans H; rw [hy227]; with_reducible exact H2_) | (have H2_ := (Option.bind_some _ _).symm.trans H; with_reducible exact H2_) | with_reducible exact H | (rw [hy227]; exact H) | exact H
        have Ny227 := Aside0.mk hy227
        clear hy227
        have H' := Aside0.mk H
        clear H
        go_wp2_with (first | ((with_reducible refine gate_dst (N := 57) rfl ?_); refine Kd.R_lit k109 _ 109 ?hg (N := 57) ?hd (xs := ([] : List (S109))) (inner := []) (ok := fun _ => True) (okp := fun _ => True) ?hr ?hp (fun _ hk => hk) trivial (Below.refl _ _) (Nat.le_refl _) (by simp) ?_; (case hd => rfl); (case hg => rfl); (case hr => first | (go_simp; done) | (go_simp; rfl)); (case hp => exact (Reps.none _ _)); intro v228 w26 ho27 hb hg_ hnew_; clear hg_ hnew_; (first | rw [← Ny227.out] at ho27 | (simp only [Int.reduceToNat] at ho27; rw [← Ny227.out] at ho27)); have n0_ := Aside0.mk (Kd.R_lower ho27 (below_size (by repeat (first | (with_reducible first | exact HB.out | apply below_alloc | apply pw_below_drewN | apply below_drew1) | exact HB.out)))); have n1_ := Aside0.mk (below_step (by repeat (first | (with_reducible first | exact HB.out | apply below_alloc | apply pw_below_drewN | apply below_drew1) | exact HB.out)) hb); clear HB; have HO229 := n0_; have HB := n1_; clear n0_ n1_; clear hb ho27))
        go_loopg [12, 60] kj5 (fun kq v12 v60 w' => ∃ (x12_2 : List (S109)) (x60_2 : Int), v60 = .int .i64 x60_2 ∧ Aside0 (impl_RayMeets.l0 kq a1 a2 a3 a4 x12_2 l0 (l0.length : Int) x60_2 = some (r1, r2)) ∧ Aside0 (kq ≤ kj5) ∧ Aside0 (Kd.R k109 109 w' w.heap.size (fun _ => True) v12 x12_2) ∧ Aside0 (Below w.heap.size w w'))
        case atStart => exact ⟨(y227), (0), (by first | rfl | (simp; done) | (simp [*]; done)), H', ⟨Nat.le_refl _⟩, ⟨by (with_reducible repeat (first | apply Kd.R_alloc | apply Kd.R_drewN | apply Kd.R_drew)); exact HO229.out⟩, ⟨by repeat (first | (with_reducible first | exact HB.out | apply below_alloc | apply pw_below_drewN | apply below_drew1) | exact HB.out)⟩⟩
        case round =>
          clear H'
          try clear c1
          try clear c2
          try clear p2
          try clear c6
          try clear c8
          try clear c10
          try clear c12
          try clear c14
          try clear c16
          try clear c17
          try clear c17b0
          try clear c17b1
          try clear c25
          try clear p2
          obtain ⟨x12_2, x60_2, rfl, HA, HK2, HO_12, HB⟩ := hrel
          cases gk with
          | zero => exact absurd HA.out (by simp [impl_RayMeets.l0])
          | succ k2 =>
            have H := HA.out
            clear HA
            simp only [impl_RayMeets.l0] at H
            by_cases c28 : x60_2 < (l0.length : Int)
            · rw [if_pos c28] at H
              have c28b0 : decide (x60_2 < (l0.length : Int)) = true := decide_eq_true c28
              clear c28
              by_cases c29 : 0 ≤ x60_2
              · rw [if_pos c29] at H
                have c29b0 : decide (0 ≤ x60_2) = true := decide_eq_true c29
                clear c29
                by_cases c30 : x60_2 < (l0.length : Int)
                · rw [if_pos c30] at H
                  have c30b0 : decide (x60_2 < (l0.length : Int)) = true := decide_eq_true c30
                  clear c30
                  by_cases c31 : ((rd_T100 l0 x60_2).f0) = 1
                  · rw [if_pos c31] at H
                    have c31b0 : (((rd_T100 l0 x60_2).f0) == 1) = true := beq_iff_eq.mpr c31
                    have c31b1 : (((rd_T100 l0 x60_2).f0) != 1) = false := bne_eq_false_iff_eq.mpr c31
                    clear c31
                    replace H := Option.bind_eq_some_iff.mp H
                    obtain ⟨⟨t235, t236, t237, t238⟩, A320, H⟩ := H
                    replace H : ((impl_between.f a1 a3 t235 t237).bind fun bt239 => ((impl_between.f a2 a4 t236 t238).bind fun bt246 => ((impl_part_less.f bt239.1 bt239.2.1 bt246.1 bt246.2.1).bind fun t253 => (if t253 = true then (impl_RayMeets.j2 k2 a1 a2 a3 a4 x12_2 x60_2 bt239.2.2.2.2 bt246.2.2.2.2 l0 (l0.length : Int) x60_2 bt246.1 bt246.2.1 bt239.2.2.1 bt239.2.2.2.1 bt246.2.2.1 bt246.2.2.2.1) else (impl_RayMeets.j2 k2 a1 a2 a3 a4 x12_2 x60_2 bt239.2.2.2.2 bt246.2.2.2.2 l0 (l0.length : Int) x60_2 bt239.1 bt239.2.1 bt239.2.2.1 bt239.2.2.2.1 bt246.2.2.1 bt246.2.2.2.1))))) = some (r1, r2) := H
                    have A32 := Aside0.mk A320
                    clear A320
                    replace H := Option.bind_eq_some_iff.mp H
                    obtain ⟨⟨t239, t240, t241, t242, t243⟩, A330, H⟩ := H
                    replace H : ((impl_between.f a2 a4 t236 t238).bind fun bt246 => ((impl_part_less.f t239 t240 bt246.1 bt246.2.1).bind fun t253 => (if t253 = true then (impl_RayMeets.j2 k2 a1 a2 a3 a4 x12_2 x60_2 t243 bt246.2.2.2.2 l0 (l0.length : Int) x60_2 bt246.1 bt246.2.1 t241 t242 bt246.2.2.1 bt246.2.2.2.1) else (impl_RayMeets.j2 k2 a1 a2 a3 a4 x12_2 x60_2 t243 bt246.2.2.2.2 l0 (l0.length : Int) x60_2 t239 t240 t241 t242 bt246.2.2.1 bt246.2.2.2.1)))) = some (r1, r2) := H
                    have A33 := Aside0.mk A330
                    clear A330
                    replace H := Option.bind_eq_some_iff.mp H
                    obtain ⟨⟨t246, t247, t248, t249, t250⟩, A340, H⟩ := H
                    replace H : ((impl_part_less.f t239 t240 t246 t247).bind fun t253 => (if t253 = true then (impl_RayMeets.j2 k2 a1 a2 a3 a4 x12_2 x60_2 t243 t250 l0 (l0.length : Int) x60_2 t246 t247 t241 t242 t248 t249) else (impl_RayMeets.j2 k2 a1 a2 a3 a4 x12_2 x60_2 t243 t250 l0 (l0.length : Int) x60_2 t239 t240 t241 t242 t248 t249))) = some (r1, r2) := H
                    have A34 := Aside0.mk A340
                    clear A340
                    replace H := Option.bind_eq_some_iff.mp H
                    obtain ⟨t253, A350, H⟩ := H
                    replace H : (if t253 = true then (impl_RayMeets.j2 k2 a1 a2 a3 a4 x12_2 x60_2 t243 t250 l0 (l0.length : Int) x60_2 t246 t247 t241 t242 t248 t249) else (impl_RayMeets.j2 k2 a1 a2 a3 a4 x12_2 x60_2 t243 t250 l0 (l0.length : Int) x60_2 t239 t240 t241 t242 t248 t249)) = some (r1, r2) := H
                    have A35 := Aside0.mk A350
                    clear A350
                    have HC36 := Aside0.mk H
                    clear H
                    have p233 : 0 ≤ (x60_2 : Int) := of_decide_eq_true (by first | (with_reducible assumption) | assumption)
                    have q233 : x60_2 < (l0.length : Int) := of_decide_eq_true (by first | (with_reducible assumption) | assumption)
                    obtain ⟨ad233, e233, hx233_0, hx233_1, hx233_2, hx233_3, hx233_4⟩ := at_T100 HR0.out x60_2 p233 q233
                    cases e233
                    replace hx233_0 := (HB.out.cell (World.block_lt_of_cell? w _ hx233_0)).trans hx233_0
                    replace hx233_1 := (HB.out.cell (World.block_lt_of_cell? w _ hx233_1)).trans hx233_1
                    replace hx233_2 := (HB.out.cell (World.block_lt_of_cell? w _ hx233_2)).trans hx233_2
                    replace hx233_3 := (HB.out.cell (World.block_lt_of_cell? w _ hx233_3)).trans hx233_3
                    replace hx233_4 := (HB.out.cell (World.block_lt_of_cell? w _ hx233_4)).trans hx233_4
                    replace p233 := eq_true p233
                    replace q233 := eq_true q233
                    go_upto_if 95 with (first | ((with_reducible refine gate_dst (N := 14) rfl ?_); refine box_event ?hg (N := 14) ?hd (cs := #[.int .i64 0, .int .i64 0, .int .i64 0, .int .i64 0, .int .i64 0]) (t := 100) ?hr ?_; (case hd => rfl); (case hg => rfl); (case hr => first | (go_simp; done) | (go_simp; rfl)); intro gb234 hg w37 hbox hb; have n0_ := Aside0.mk (Kd.R_below (by (with_reducible repeat (first | apply Kd.R_alloc | apply Kd.R_drewN | apply Kd.R_drew)); exact HO_12.out) hb); have n1_ := Aside0.mk (below_step (by repeat (first | (with_reducible first | exact HB.out | apply below_alloc | apply pw_below_drewN | apply below_drew1) | exact HB.out)) hb); have n2_ := Aside0.mk (hbox); have n3_ := Aside0.mk ((by rw [hg]; exact (below_size (by repeat (first | (with_reducible first | exact HB.out | apply below_alloc | apply pw_below_drewN | apply below_drew1) | exact HB.out))) : w.heap.size ≤ gb234)); have n4_ := Aside0.mk ((by rw [hg]; exact (below_size (by repeat (first | (with_reducible first | exact HB.out | apply below_alloc | apply pw_below_drewN | apply below_drew1) | exact HB.out))) : w.heap.size ≤ gb234)); clear HO_12; clear HB; have HO_12 := n0_; have HB := n1_; have BK234 := n2_; have GW234 := n3_; have GE234 := n4_; clear n0_ n1_ n2_ n3_ n4_; clear hb hbox hg; have hcz38_0 : w37.cell? ⟨gb234, 0, none⟩ = some (.int .i64 0) := (blk_cell BK234.out 0).trans rfl; have hcz38_1 : w37.cell? ⟨gb234, 1, none⟩ = some (.int .i64 0) := (blk_cell BK234.out 1).trans rfl; have hcz38_2 : w37.cell? ⟨gb234, 2, none⟩ = some (.int .i64 0) := (blk_cell BK234.out 2).trans rfl; have hcz38_3 : w37.cell? ⟨gb234, 3, none⟩ = some (.int .i64 0) := (blk_cell BK234.out 3).trans rfl; have hcz38_4 : w37.cell? ⟨gb234, 4, none⟩ = some (.int .i64 0) := (blk_cell BK234.out 4).trans rfl; have hfz38_0 := blk_frozen BK234.out 0; have hfz38_1 := blk_frozen BK234.out 1; have hfz38_2 := blk_frozen BK234.out 2; have hfz38_3 := blk_frozen BK234.out 3; have hfz38_4 := blk_frozen BK234.out 4) | ((with_reducible refine gate_callee (f := 69) rfl ?_); refine goesL_ (some 70) rfl rfl Try.func69 (by kernel_rfl) rfl #[.agg #[.int .i64 ((rd_T100 l0 x60_2).f0), .int .i64 ((rd_T100 l0 x60_2).f1), .int .i64 ((rd_T100 l0 x60_2).f2), .int .i64 ((rd_T100 l0 x60_2).f3), .int .i64 ((rd_T100 l0 x60_2).f4)]] rfl (by (try simp only [List.map_toArray, List.map_cons, List.map_nil]); first | done | rfl | (simp only [List.length_drop, List.length_take]; rfl)) ?_; (with_reducible refine (impl_Shape_bounds.calls ((rd_T100 l0 x60_2).f0) ((rd_T100 l0 x60_2).f1) ((rd_T100 l0 x60_2).f2) ((rd_T100 l0 x60_2).f3) ((rd_T100 l0 x60_2).f4) t235 t236 t237 t238 _ A32.out).mono ?_); rintro e w39 ⟨rfl, hb⟩; refine ⟨_, rfl, ?_⟩; have n0_ := Aside0.mk (Kd.R_below (by (with_reducible repeat (first | apply Kd.R_alloc | apply Kd.R_drewN | apply Kd.R_drew)); exact (Kd.R_mono (Kd.R_far (p := ⟨gb234, 4, none⟩) (Kd.R_far (p := ⟨gb234, 3, none⟩) (Kd.R_far (p := ⟨gb234, 2, none⟩) (Kd.R_far (p := ⟨gb234, 1, none⟩) (Kd.R_far (p := ⟨gb234, 0, none⟩) (Kd.R_types HO_12.out BK234.out (by decide)) (fun _ hk => hk.2) (.int .i64 ((rd_T100 l0 x60_2).f0))) (fun _ hk => hk.2) (.int .i64 ((rd_T100 l0 x60_2).f1))) (fun _ hk => hk.2) (.int .i64 ((rd_T100 l0 x60_2).f2))) (fun _ hk => hk.2) (.int .i64 ((rd_T100 l0 x60_2).f3))) (fun _ hk => hk.2) (.int .i64 ((rd_T100 l0 x60_2).f4))) (fun _ h_ => h_.1))) hb); have n1_ := Aside0.mk (blk_below (g := gb234) (o := .cells #[.int .i64 ((rd_T100 l0 x60_2).f0), .int .i64 ((rd_T100 l0 x60_2).f1), .int .i64 ((rd_T100 l0 x60_2).f2), .int .i64 ((rd_T100 l0 x60_2).f3), .int .i64 ((rd_T100 l0 x60_2).f4)] 100 (0, 0)) (by (with_reducible repeat (first | refine blk_drewN ?_ _ | refine blk_drew ?_ | refine blk_alloc ?_ _)); refine blk_put (cs := #[.int .i64 ((rd_T100 l0 x60_2).f0), .int .i64 ((rd_T100 l0 x60_2).f1), .int .i64 ((rd_T100 l0 x60_2).f2), .int .i64 ((rd_T100 l0 x60_2).f3), .int .i64 0]) ?_ 4 _ rfl; (with_reducible repeat (first | refine blk_drewN ?_ _ | refine blk_drew ?_ | refine blk_alloc ?_ _)); refine blk_put (cs := #[.int .i64 ((rd_T100 l0 x60_2).f0), .int .i64 ((rd_T100 l0 x60_2).f1), .int .i64 ((rd_T100 l0 x60_2).f2), .int .i64 0, .int .i64 0]) ?_ 3 _ rfl; (with_reducible repeat (first | refine blk_drewN ?_ _ | refine blk_drew ?_ | refine blk_alloc ?_ _)); refine blk_put (cs := #[.int .i64 ((rd_T100 l0 x60_2).f0), .int .i64 ((rd_T100 l0 x60_2).f1), .int .i64 0, .int .i64 0, .int .i64 0]) ?_ 2 _ rfl; (with_reducible repeat (first | refine blk_drewN ?_ _ | refine blk_drew ?_ | refine blk_alloc ?_ _)); refine blk_put (cs := #[.int .i64 ((rd_T100 l0 x60_2).f0), .int .i64 0, .int .i64 0, .int .i64 0, .int .i64 0]) ?_ 1 _ rfl; (with_reducible repeat (first | refine blk_drewN ?_ _ | refine blk_drew ?_ | refine blk_alloc ?_ _)); refine blk_put (cs := #[.int .i64 0, .int .i64 0, .int .i64 0, .int .i64 0, .int .i64 0]) ?_ 0 _ rfl; (with_reducible repeat (first | refine blk_drewN ?_ _ | refine blk_drew ?_ | refine blk_alloc ?_ _)); exact BK234.out) hb); have n2_ := Aside0.mk (below_step (by repeat (first | (with_reducible first | exact HB.out | apply below_alloc | apply pw_below_drewN | apply below_drew1 | refine below_set ?_ GE234.out) | exact HB.out)) hb); clear HO_12; clear BK234; clear HB; have HO_12 := n0_; have BK234 := n1_; have HB := n2_; clear n0_ n1_ n2_; (try clear hb); (try clear hb2); (try clear hk); (try clear hi)) | ((with_reducible refine gate_callee (f := 70) rfl ?_); refine goesL_ (some 80) rfl rfl Try.func70 (by kernel_rfl) rfl #[.int .i64 a1, .int .i64 a3, .int .i64 t235, .int .i64 t237] rfl (by (try simp only [List.map_toArray, List.map_cons, List.map_nil]); first | done | rfl | (simp only [List.length_drop, List.length_take]; rfl)) ?_; (with_reducible refine (impl_between.calls a1 a3 t235 t237 t239 t240 t241 t242 t243 _ A33.out).mono ?_); rintro e w40 ⟨rfl, hb⟩; refine ⟨_, rfl, ?_⟩; have n0_ := Aside0.mk (Kd.R_below (by (with_reducible repeat (first | apply Kd.R_alloc | apply Kd.R_drewN | apply Kd.R_drew)); exact HO_12.out) hb); have n1_ := Aside0.mk (blk_below (g := gb234) (o := .cells #[.int .i64 ((rd_T100 l0 x60_2).f0), .int .i64 ((rd_T100 l0 x60_2).f1), .int .i64 ((rd_T100 l0 x60_2).f2), .int .i64 ((rd_T100 l0 x60_2).f3), .int .i64 ((rd_T100 l0 x60_2).f4)] 100 (0, 0)) (by (with_reducible repeat (first | refine blk_drewN ?_ _ | refine blk_drew ?_ | refine blk_alloc ?_ _)); exact BK234.out) hb); have n2_ := Aside0.mk (below_step (by repeat (first | (with_reducible first | exact HB.out | apply below_alloc | apply pw_below_drewN | apply below_drew1 | refine below_set ?_ GE234.out) | exact HB.out)) hb); clear HO_12; clear BK234; clear HB; have HO_12 := n0_; have BK234 := n1_; have HB := n2_; clear n0_ n1_ n2_; (try clear hb); (try clear hb2); (try clear hk); (try clear hi)) | ((with_reducible refine gate_dst (N := 19) rfl ?_); refine box_event ?hg (N := 19) ?hd (cs := #[.int .i64 0, .int .i64 0]) (t := 115) ?hr ?_; (case hd => rfl); (case hg => rfl); (case hr => first | (go_simp; done) | (go_simp; rfl)); intro gb244 hg w41 hbox hb; have n0_ := Aside0.mk (Kd.R_below (by (with_reducible repeat (first | apply Kd.R_alloc | apply Kd.R_drewN | apply Kd.R_drew)); exact HO_12.out) hb); have n1_ := Aside0.mk (blk_below (g := gb234) (o := .cells #[.int .i64 ((rd_T100 l0 x60_2).f0), .int .i64 ((rd_T100 l0 x60_2).f1), .int .i64 ((rd_T100 l0 x60_2).f2), .int .i64 ((rd_T100 l0 x60_2).f3), .int .i64 ((rd_T100 l0 x60_2).f4)] 100 (0, 0)) (by (with_reducible repeat (first | refine blk_drewN ?_ _ | refine blk_drew ?_ | refine blk_alloc ?_ _)); exact BK234.out) hb); have n2_ := Aside0.mk (below_step (by repeat (first | (with_reducible first | exact HB.out | apply below_alloc | apply pw_below_drewN | apply below_drew1 | refine below_set ?_ GE234.out) | exact HB.out)) hb); have n3_ := Aside0.mk (hbox); have n4_ := Aside0.mk ((by rw [hg]; exact (below_size (by repeat (first | (with_reducible first | exact HB.out | apply below_alloc | apply pw_below_drewN | apply below_drew1 | refine below_set ?_ GE234.out) | exact HB.out))) : w.heap.size ≤ gb244)); have n5_ := Aside0.mk ((by rw [hg]; exact (below_size (by repeat (first | (with_reducible first | exact HB.out | apply below_alloc | apply pw_below_drewN | apply below_drew1 | refine below_set ?_ GE234.out) | exact HB.out))) : w.heap.size ≤ gb244)); have n6_ := Aside0.mk ((by rw [hg]; exact Nat.ne_of_lt (blk_lt (g := gb234) (o := .cells #[.int .i64 ((rd_T100 l0 x60_2).f0), .int .i64 ((rd_T100 l0 x60_2).f1), .int .i64 ((rd_T100 l0 x60_2).f2), .int .i64 ((rd_T100 l0 x60_2).f3), .int .i64 ((rd_T100 l0 x60_2).f4)] 100 (0, 0)) (by (with_reducible repeat (first | refine blk_drewN ?_ _ | refine blk_drew ?_ | refine blk_alloc ?_ _)); exact BK234.out)) : gb234 ≠ gb244)); have n7_ := Aside0.mk ((by rw [hg]; exact Nat.ne_of_gt (blk_lt (g := gb234) (o := .cells #[.int .i64 ((rd_T100 l0 x60_2).f0), .int .i64 ((rd_T100 l0 x60_2).f1), .int .i64 ((rd_T100 l0 x60_2).f2), .int .i64 ((rd_T100 l0 x60_2).f3), .int .i64 ((rd_T100 l0 x60_2).f4)] 100 (0, 0)) (by (with_reducible repeat (first | refine blk_drewN ?_ _ | refine blk_drew ?_ | refine blk_alloc ?_ _)); exact BK234.out)) : gb244 ≠ gb234)); clear HO_12; clear BK234; clear HB; have HO_12 := n0_; have BK234 := n1_; have HB := n2_; have BK244 := n3_; have GW244 := n4_; have GE244 := n5_; have NB234_244 := n6_; have NB244_234 := n7_; clear n0_ n1_ n2_ n3_ n4_ n5_ n6_ n7_; clear hb hbox hg) | ((with_reducible refine gate_dst (N := 20) rfl ?_); refine box_event ?hg (N := 20) ?hd (cs := #[.int .i64 0, .int .i64 0]) (t := 115) ?hr ?_; (case hd => rfl); (case hg => rfl); (case hr => first | (go_simp; done) | (go_simp; rfl)); intro gb245 hg w42 hbox hb; have n0_ := Aside0.mk (Kd.R_below (by (with_reducible repeat (first | apply Kd.R_alloc | apply Kd.R_drewN | apply Kd.R_drew)); exact HO_12.out) hb); have n1_ := Aside0.mk (blk_below (g := gb234) (o := .cells #[.int .i64 ((rd_T100 l0 x60_2).f0), .int .i64 ((rd_T100 l0 x60_2).f1), .int .i64 ((rd_T100 l0 x60_2).f2), .int .i64 ((rd_T100 l0 x60_2).f3), .int .i64 ((rd_T100 l0 x60_2).f4)] 100 (0, 0)) (by (with_reducible repeat (first | refine blk_drewN ?_ _ | refine blk_drew ?_ | refine blk_alloc ?_ _)); exact BK234.out) hb); have n2_ := Aside0.mk (blk_below (g := gb244) (o := .cells #[.int .i64 0, .int .i64 0] 115 (0, 0)) (by (with_reducible repeat (first | refine blk_drewN ?_ _ | refine blk_drew ?_ | refine blk_alloc ?_ _)); exact BK244.out) hb); have n3_ := Aside0.mk (below_step (by repeat (first | (with_reducible first | exact HB.out | apply below_alloc | apply pw_below_drewN | apply below_drew1 | refine below_set ?_ GE234.out | refine below_set ?_ GE244.out) | exact HB.out)) hb); have n4_ := Aside0.mk (hbox); have n5_ := Aside0.mk ((by rw [hg]; exact (below_size (by repeat (first | (with_reducible first | exact HB.out | apply below_alloc | apply pw_below_drewN | apply below_drew1 | refine below_set ?_ GE234.out | refine below_set ?_ GE244.out) | exact HB.out))) : w.heap.size ≤ gb245)); have n6_ := Aside0.mk ((by rw [hg]; exact (below_size (by repeat (first | (with_reducible first | exact HB.out | apply below_alloc | apply pw_below_drewN | apply below_drew1 | refine below_set ?_ GE234.out | refine below_set ?_ GE244.out) | exact HB.out))) : w.heap.size ≤ gb245)); have n7_ := Aside0.mk ((by rw [hg]; exact Nat.ne_of_lt (blk_lt (g := gb234) (o := .cells #[.int .i64 ((rd_T100 l0 x60_2).f0), .int .i64 ((rd_T100 l0 x60_2).f1), .int .i64 ((rd_T100 l0 x60_2).f2), .int .i64 ((rd_T100 l0 x60_2).f3), .int .i64 ((rd_T100 l0 x60_2).f4)] 100 (0, 0)) (by (with_reducible repeat (first | refine blk_drewN ?_ _ | refine blk_drew ?_ | refine blk_alloc ?_ _)); exact BK234.out)) : gb234 ≠ gb245)); have n8_ := Aside0.mk ((by rw [hg]; exact Nat.ne_of_gt (blk_lt (g := gb234) (o := .cells #[.int .i64 ((rd_T100 l0 x60_2).f0), .int .i64 ((rd_T100 l0 x60_2).f1), .int .i64 ((rd_T100 l0 x60_2).f2), .int .i64 ((rd_T100 l0 x60_2).f3), .int .i64 ((rd_T100 l0 x60_2).f4)] 100 (0, 0)) (by (with_reducible repeat (first | refine blk_drewN ?_ _ | refine blk_drew ?_ | refine blk_alloc ?_ _)); exact BK234.out)) : gb245 ≠ gb234)); have n9_ := Aside0.mk ((by rw [hg]; exact Nat.ne_of_lt (blk_lt (g := gb244) (o := .cells #[.int .i64 0, .int .i64 0] 115 (0, 0)) (by (with_reducible repeat (first | refine blk_drewN ?_ _ | refine blk_drew ?_ | refine blk_alloc ?_ _)); exact BK244.out)) : gb244 ≠ gb245)); have n10_ := Aside0.mk ((by rw [hg]; exact Nat.ne_of_gt (blk_lt (g := gb244) (o := .cells #[.int .i64 0, .int .i64 0] 115 (0, 0)) (by (with_reducible repeat (first | refine blk_drewN ?_ _ | refine blk_drew ?_ | refine blk_alloc ?_ _)); exact BK244.out)) : gb245 ≠ gb244)); clear HO_12; clear BK234; clear BK244; clear HB; have HO_12 := n0_; have BK234 := n1_; have BK244 := n2_; have HB := n3_; have BK245 := n4_; have GW245 := n5_; have GE245 := n6_; have NB234_245 := n7_; have NB245_234 := n8_; have NB244_245 := n9_; have NB245_244 := n10_; clear n0_ n1_ n2_ n3_ n4_ n5_ n6_ n7_ n8_ n9_ n10_; clear hb hbox hg; have hnb43 := NB244_234.out; have hnc43 := NB234_244.out; have hnb44 := NB244_245.out; have hnc44 := NB245_244.out; have hcz45_0 : w42.cell? ⟨gb244, 0, none⟩ = some (.int .i64 0) := (blk_cell BK244.out 0).trans rfl; have hcz45_1 : w42.cell? ⟨gb244, 1, none⟩ = some (.int .i64 0) := (blk_cell BK244.out 1).trans rfl; have hfz45_0 := blk_frozen BK244.out 0; have hfz45_1 := blk_frozen BK244.out 1; have hnb46 := NB245_234.out; have hnc46 := NB234_245.out; have hcz47_0 : w42.cell? ⟨gb245, 0, none⟩ = some (.int .i64 0) := (blk_cell BK245.out 0).trans rfl; have hcz47_1 : w42.cell? ⟨gb245, 1, none⟩ = some (.int .i64 0) := (blk_cell BK245.out 1).trans rfl; have hfz47_0 := blk_frozen BK245.out 0; have hfz47_1 := blk_frozen BK245.out 1) | ((with_reducible refine gate_callee (f := 70) rfl ?_); refine goesL_ (some 89) rfl rfl Try.func70 (by kernel_rfl) rfl #[.int .i64 a2, .int .i64 a4, .int .i64 t236, .int .i64 t238] rfl (by (try simp only [List.map_toArray, List.map_cons, List.map_nil]); first | done | rfl | (simp only [List.length_drop, List.length_take]; rfl)) ?_; (with_reducible refine (impl_between.calls a2 a4 t236 t238 t246 t247 t248 t249 t250 _ A34.out).mono ?_); rintro e w48 ⟨rfl, hb⟩; refine ⟨_, rfl, ?_⟩; have n0_ := Aside0.mk (Kd.R_below (by (with_reducible repeat (first | apply Kd.R_alloc | apply Kd.R_drewN | apply Kd.R_drew)); exact (Kd.R_mono (Kd.R_mono (Kd.R_far (p := ⟨gb245, 1, none⟩) (Kd.R_far (p := ⟨gb245, 0, none⟩) (Kd.R_far (p := ⟨gb244, 1, none⟩) (Kd.R_far (p := ⟨gb244, 0, none⟩) (Kd.R_types (Kd.R_types HO_12.out BK244.out (by decide)) BK245.out (by decide)) (fun _ hk => hk.1.2) (.int .i64 t239)) (fun _ hk => hk.1.2) (.int .i64 t240)) (fun _ hk => hk.2) (.int .i64 t241)) (fun _ hk => hk.2) (.int .i64 t242)) (fun _ h_ => h_.1)) (fun _ h_ => h_.1))) hb); have n1_ := Aside0.mk (blk_below (g := gb234) (o := .cells #[.int .i64 ((rd_T100 l0 x60_2).f0), .int .i64 ((rd_T100 l0 x60_2).f1), .int .i64 ((rd_T100 l0 x60_2).f2), .int .i64 ((rd_T100 l0 x60_2).f3), .int .i64 ((rd_T100 l0 x60_2).f4)] 100 (0, 0)) (by (with_reducible repeat (first | refine blk_drewN ?_ _ | refine blk_drew ?_ | refine blk_alloc ?_ _)); refine blk_far ?_ NB234_245.out _; (with_reducible repeat (first | refine blk_drewN ?_ _ | refine blk_drew ?_ | refine blk_alloc ?_ _)); refine blk_far ?_ NB234_245.out _; (with_reducible repeat (first | refine blk_drewN ?_ _ | refine blk_drew ?_ | refine blk_alloc ?_ _)); refine blk_far ?_ NB234_244.out _; (with_reducible repeat (first | refine blk_drewN ?_ _ | refine blk_drew ?_ | refine blk_alloc ?_ _)); refine blk_far ?_ NB234_244.out _; (with_reducible repeat (first | refine blk_drewN ?_ _ | refine blk_drew ?_ | refine blk_alloc ?_ _)); exact BK234.out) hb); have n2_ := Aside0.mk (blk_below (g := gb244) (o := .cells #[.int .i64 t239, .int .i64 t240] 115 (0, 0)) (by (with_reducible repeat (first | refine blk_drewN ?_ _ | refine blk_drew ?_ | refine blk_alloc ?_ _)); refine blk_far ?_ NB244_245.out _; (with_reducible repeat (first | refine blk_drewN ?_ _ | refine blk_drew ?_ | refine blk_alloc ?_ _)); refine blk_far ?_ NB244_245.out _; (with_reducible repeat (first | refine blk_drewN ?_ _ | refine blk_drew ?_ | refine blk_alloc ?_ _)); refine blk_put (cs := #[.int .i64 t239, .int .i64 0]) ?_ 1 _ rfl; (with_reducible repeat (first | refine blk_drewN ?_ _ | refine blk_drew ?_ | refine blk_alloc ?_ _)); refine blk_put (cs := #[.int .i64 0, .int .i64 0]) ?_ 0 _ rfl; (with_reducible repeat (first | refine blk_drewN ?_ _ | refine blk_drew ?_ | refine blk_alloc ?_ _)); exact BK244.out) hb); have n3_ := Aside0.mk (blk_below (g := gb245) (o := .cells #[.int .i64 t241, .int .i64 t242] 115 (0, 0)) (by (with_reducible repeat (first | refine blk_drewN ?_ _ | refine blk_drew ?_ | refine blk_alloc ?_ _)); refine blk_put (cs := #[.int .i64 t241, .int .i64 0]) ?_ 1 _ rfl; (with_reducible repeat (first | refine blk_drewN ?_ _ | refine blk_drew ?_ | refine blk_alloc ?_ _)); refine blk_put (cs := #[.int .i64 0, .int .i64 0]) ?_ 0 _ rfl; (with_reducible repeat (first | refine blk_drewN ?_ _ | refine blk_drew ?_ | refine blk_alloc ?_ _)); refine blk_far ?_ NB245_244.out _; (with_reducible repeat (first | refine blk_drewN ?_ _ | refine blk_drew ?_ | refine blk_alloc ?_ _)); refine blk_far ?_ NB245_244.out _; (with_reducible repeat (first | refine blk_drewN ?_ _ | refine blk_drew ?_ | refine blk_alloc ?_ _)); exact BK245.out) hb); have n4_ := Aside0.mk (below_step (by repeat (first | (with_reducible first | exact HB.out | apply below_alloc | apply pw_below_drewN | apply below_drew1 | refine below_set ?_ GE234.out | refine below_set ?_ GE244.out | refine below_set ?_ GE245.out) | exact HB.out)) hb); clear HO_12; clear BK234; clear BK244; clear BK245; clear HB; have HO_12 := n0_; have BK234 := n1_; have BK244 := n2_; have BK245 := n3_; have HB := n4_; clear n0_ n1_ n2_ n3_ n4_; (try clear hb); (try clear hb2); (try clear hk); (try clear hi)) | ((with_reducible refine gate_dst (N := 22) rfl ?_); refine box_event ?hg (N := 22) ?hd (cs := #[.int .i64 0, .int .i64 0]) (t := 115) ?hr ?_; (case hd => rfl); (case hg => rfl); (case hr => first | (go_simp; done) | (go_simp; rfl)); intro gb251 hg w49 hbox hb; have n0_ := Aside0.mk (Kd.R_below (by (with_reducible repeat (first | apply Kd.R_alloc | apply Kd.R_drewN | apply Kd.R_drew)); exact HO_12.out) hb); have n1_ := Aside0.mk (blk_below (g := gb234) (o := .cells #[.int .i64 ((rd_T100 l0 x60_2).f0), .int .i64 ((rd_T100 l0 x60_2).f1), .int .i64 ((rd_T100 l0 x60_2).f2), .int .i64 ((rd_T100 l0 x60_2).f3), .int .i64 ((rd_T100 l0 x60_2).f4)] 100 (0, 0)) (by (with_reducible repeat (first | refine blk_drewN ?_ _ | refine blk_drew ?_ | refine blk_alloc ?_ _)); exact BK234.out) hb); have n2_ := Aside0.mk (blk_below (g := gb244) (o := .cells #[.int .i64 t239, .int .i64 t240] 115 (0, 0)) (by (with_reducible repeat (first | refine blk_drewN ?_ _ | refine blk_drew ?_ | refine blk_alloc ?_ _)); exact BK244.out) hb); have n3_ := Aside0.mk (blk_below (g := gb245) (o := .cells #[.int .i64 t241, .int .i64 t242] 115 (0, 0)) (by (with_reducible repeat (first | refine blk_drewN ?_ _ | refine blk_drew ?_ | refine blk_alloc ?_ _)); exact BK245.out) hb); have n4_ := Aside0.mk (below_step (by repeat (first | (with_reducible first | exact HB.out | apply below_alloc | apply pw_below_drewN | apply below_drew1 | refine below_set ?_ GE234.out | refine below_set ?_ GE244.out | refine below_set ?_ GE245.out) | exact HB.out)) hb); have n5_ := Aside0.mk (hbox); have n6_ := Aside0.mk ((by rw [hg]; exact (below_size (by repeat (first | (with_reducible first | exact HB.out | apply below_alloc | apply pw_below_drewN | apply below_drew1 | refine below_set ?_ GE234.out | refine below_set ?_ GE244.out | refine below_set ?_ GE245.out) | exact HB.out))) : w.heap.size ≤ gb251)); have n7_ := Aside0.mk ((by rw [hg]; exact (below_size (by repeat (first | (with_reducible first | exact HB.out | apply below_alloc | apply pw_below_drewN | apply below_drew1 | refine below_set ?_ GE234.out | refine below_set ?_ GE244.out | refine below_set ?_ GE245.out) | exact HB.out))) : w.heap.size ≤ gb251)); have n8_ := Aside0.mk ((by rw [hg]; exact Nat.ne_of_lt (blk_lt (g := gb234) (o := .cells #[.int .i64 ((rd_T100 l0 x60_2).f0), .int .i64 ((rd_T100 l0 x60_2).f1), .int .i64 ((rd_T100 l0 x60_2).f2), .int .i64 ((rd_T100 l0 x60_2).f3), .int .i64 ((rd_T100 l0 x60_2).f4)] 100 (0, 0)) (by (with_reducible repeat (first | refine blk_drewN ?_ _ | refine blk_drew ?_ | refine blk_alloc ?_ _)); exact BK234.out)) : gb234 ≠ gb251)); have n9_ := Aside0.mk ((by rw [hg]; exact Nat.ne_of_gt (blk_lt (g := gb234) (o := .cells #[.int .i64 ((rd_T100 l0 x60_2).f0), .int .i64 ((rd_T100 l0 x60_2).f1), .int .i64 ((rd_T100 l0 x60_2).f2), .int .i64 ((rd_T100 l0 x60_2).f3), .int .i64 ((rd_T100 l0 x60_2).f4)] 100 (0, 0)) (by (with_reducible repeat (first | refine blk_drewN ?_ _ | refine blk_drew ?_ | refine blk_alloc ?_ _)); exact BK234.out)) : gb251 ≠ gb234)); have n10_ := Aside0.mk ((by rw [hg]; exact Nat.ne_of_lt (blk_lt (g := gb244) (o := .cells #[.int .i64 t239, .int .i64 t240] 115 (0, 0)) (by (with_reducible repeat (first | refine blk_drewN ?_ _ | refine blk_drew ?_ | refine blk_alloc ?_ _)); exact BK244.out)) : gb244 ≠ gb251)); have n11_ := Aside0.mk ((by rw [hg]; exact Nat.ne_of_gt (blk_lt (g := gb244) (o := .cells #[.int .i64 t239, .int .i64 t240] 115 (0, 0)) (by (with_reducible repeat (first | refine blk_drewN ?_ _ | refine blk_drew ?_ | refine blk_alloc ?_ _)); exact BK244.out)) : gb251 ≠ gb244)); have n12_ := Aside0.mk ((by rw [hg]; exact Nat.ne_of_lt (blk_lt (g := gb245) (o := .cells #[.int .i64 t241, .int .i64 t242] 115 (0, 0)) (by (with_reducible repeat (first | refine blk_drewN ?_ _ | refine blk_drew ?_ | refine blk_alloc ?_ _)); exact BK245.out)) : gb245 ≠ gb251)); have n13_ := Aside0.mk ((by rw [hg]; exact Nat.ne_of_gt (blk_lt (g := gb245) (o := .cells #[.int .i64 t241, .int .i64 t242] 115 (0, 0)) (by (with_reducible repeat (first | refine blk_drewN ?_ _ | refine blk_drew ?_ | refine blk_alloc ?_ _)); exact BK245.out)) : gb251 ≠ gb245)); clear HO_12; clear BK234; clear BK244; clear BK245; clear HB; have HO_12 := n0_; have BK234 := n1_; have BK244 := n2_; have BK245 := n3_; have HB := n4_; have BK251 := n5_; have GW251 := n6_; have GE251 := n7_; have NB234_251 := n8_; have NB251_234 := n9_; have NB244_251 := n10_; have NB251_244 := n11_; have NB245_251 := n12_; have NB251_245 := n13_; clear n0_ n1_ n2_ n3_ n4_ n5_ n6_ n7_ n8_ n9_ n10_ n11_ n12_ n13_; clear hb hbox hg) | ((with_reducible refine gate_dst (N := 23) rfl ?_); refine box_event ?hg (N := 23) ?hd (cs := #[.int .i64 0, .int .i64 0]) (t := 115) ?hr ?_; (case hd => rfl); (case hg => rfl); (case hr => first | (go_simp; done) | (go_simp; rfl)); intro gb252 hg w50 hbox hb; have n0_ := Aside0.mk (Kd.R_below (by (with_reducible repeat (first | apply Kd.R_alloc | apply Kd.R_drewN | apply Kd.R_drew)); exact HO_12.out) hb); have n1_ := Aside0.mk (blk_below (g := gb234) (o := .cells #[.int .i64 ((rd_T100 l0 x60_2).f0), .int .i64 ((rd_T100 l0 x60_2).f1), .int .i64 ((rd_T100 l0 x60_2).f2), .int .i64 ((rd_T100 l0 x60_2).f3), .int .i64 ((rd_T100 l0 x60_2).f4)] 100 (0, 0)) (by (with_reducible repeat (first | refine blk_drewN ?_ _ | refine blk_drew ?_ | refine blk_alloc ?_ _)); exact BK234.out) hb); have n2_ := Aside0.mk (blk_below (g := gb244) (o := .cells #[.int .i64 t239, .int .i64 t240] 115 (0, 0)) (by (with_reducible repeat (first | refine blk_drewN ?_ _ | refine blk_drew ?_ | refine blk_alloc ?_ _)); exact BK244.out) hb); have n3_ := Aside0.mk (blk_below (g := gb245) (o := .cells #[.int .i64 t241, .int .i64 t242] 115 (0, 0)) (by (with_reducible repeat (first | refine blk_drewN ?_ _ | refine blk_drew ?_ | refine blk_alloc ?_ _)); exact BK245.out) hb); have n4_ := Aside0.mk (blk_below (g := gb251) (o := .cells #[.int .i64 0, .int .i64 0] 115 (0, 0)) (by (with_reducible repeat (first | refine blk_drewN ?_ _ | refine blk_drew ?_ | refine blk_alloc ?_ _)); exact BK251.out) hb); have n5_ := Aside0.mk (below_step (by repeat (first | (with_reducible first | exact HB.out | apply below_alloc | apply pw_below_drewN | apply below_drew1 | refine below_set ?_ GE234.out | refine below_set ?_ GE244.out | refine below_set ?_ GE245.out | refine below_set ?_ GE251.out) | exact HB.out)) hb); have n6_ := Aside0.mk (hbox); have n7_ := Aside0.mk ((by rw [hg]; exact (below_size (by repeat (first | (with_reducible first | exact HB.out | apply below_alloc | apply pw_below_drewN | apply below_drew1 | refine below_set ?_ GE234.out | refine below_set ?_ GE244.out | refine below_set ?_ GE245.out | refine below_set ?_ GE251.out) | exact HB.out))) : w.heap.size ≤ gb252)); have n8_ := Aside0.mk ((by rw [hg]; exact (below_size (by repeat (first | (with_reducible first | exact HB.out | apply below_alloc | apply pw_below_drewN | apply below_drew1 | refine below_set ?_ GE234.out | refine below_set ?_ GE244.out | refine below_set ?_ GE245.out | refine below_set ?_ GE251.out) | exact HB.out))) : w.heap.size ≤ gb252)); have n9_ := Aside0.mk ((by rw [hg]; exact Nat.ne_of_lt (blk_lt (g := gb234) (o := .cells #[.int .i64 ((rd_T100 l0 x60_2).f0), .int .i64 ((rd_T100 l0 x60_2).f1), .int .i64 ((rd_T100 l0 x60_2).f2), .int .i64 ((rd_T100 l0 x60_2).f3), .int .i64 ((rd_T100 l0 x60_2).f4)] 100 (0, 0)) (by (with_reducible repeat (first | refine blk_drewN ?_ _ | refine blk_drew ?_ | refine blk_alloc ?_ _)); exact BK234.out)) : gb234 ≠ gb252)); have n10_ := Aside0.mk ((by rw [hg]; exact Nat.ne_of_gt (blk_lt (g := gb234) (o := .cells #[.int .i64 ((rd_T100 l0 x60_2).f0), .int .i64 ((rd_T100 l0 x60_2).f1), .int .i64 ((rd_T100 l0 x60_2).f2), .int .i64 ((rd_T100 l0 x60_2).f3), .int .i64 ((rd_T100 l0 x60_2).f4)] 100 (0, 0)) (by (with_reducible repeat (first | refine blk_drewN ?_ _ | refine blk_drew ?_ | refine blk_alloc ?_ _)); exact BK234.out)) : gb252 ≠ gb234)); have n11_ := Aside0.mk ((by rw [hg]; exact Nat.ne_of_lt (blk_lt (g := gb244) (o := .cells #[.int .i64 t239, .int .i64 t240] 115 (0, 0)) (by (with_reducible repeat (first | refine blk_drewN ?_ _ | refine blk_drew ?_ | refine blk_alloc ?_ _)); exact BK244.out)) : gb244 ≠ gb252)); have n12_ := Aside0.mk ((by rw [hg]; exact Nat.ne_of_gt (blk_lt (g := gb244) (o := .cells #[.int .i64 t239, .int .i64 t240] 115 (0, 0)) (by (with_reducible repeat (first | refine blk_drewN ?_ _ | refine blk_drew ?_ | refine blk_alloc ?_ _)); exact BK244.out)) : gb252 ≠ gb244)); have n13_ := Aside0.mk ((by rw [hg]; exact Nat.ne_of_lt (blk_lt (g := gb245) (o := .cells #[.int .i64 t241, .int .i64 t242] 115 (0, 0)) (by (with_reducible repeat (first | refine blk_drewN ?_ _ | refine blk_drew ?_ | refine blk_alloc ?_ _)); exact BK245.out)) : gb245 ≠ gb252)); have n14_ := Aside0.mk ((by rw [hg]; exact Nat.ne_of_gt (blk_lt (g := gb245) (o := .cells #[.int .i64 t241, .int .i64 t242] 115 (0, 0)) (by (with_reducible repeat (first | refine blk_drewN ?_ _ | refine blk_drew ?_ | refine blk_alloc ?_ _)); exact BK245.out)) : gb252 ≠ gb245)); have n15_ := Aside0.mk ((by rw [hg]; exact Nat.ne_of_lt (blk_lt (g := gb251) (o := .cells #[.int .i64 0, .int .i64 0] 115 (0, 0)) (by (with_reducible repeat (first | refine blk_drewN ?_ _ | refine blk_drew ?_ | refine blk_alloc ?_ _)); exact BK251.out)) : gb251 ≠ gb252)); have n16_ := Aside0.mk ((by rw [hg]; exact Nat.ne_of_gt (blk_lt (g := gb251) (o := .cells #[.int .i64 0, .int .i64 0] 115 (0, 0)) (by (with_reducible repeat (first | refine blk_drewN ?_ _ | refine blk_drew ?_ | refine blk_alloc ?_ _)); exact BK251.out)) : gb252 ≠ gb251)); clear HO_12; clear BK234; clear BK244; clear BK245; clear BK251; clear HB; have HO_12 := n0_; have BK234 := n1_; have BK244 := n2_; have BK245 := n3_; have BK251 := n4_; have HB := n5_; have BK252 := n6_; have GW252 := n7_; have GE252 := n8_; have NB234_252 := n9_; have NB252_234 := n10_; have NB244_252 := n11_; have NB252_244 := n12_; have NB245_252 := n13_; have NB252_245 := n14_; have NB251_252 := n15_; have NB252_251 := n16_; clear n0_ n1_ n2_ n3_ n4_ n5_ n6_ n7_ n8_ n9_ n10_ n11_ n12_ n13_ n14_ n15_ n16_; clear hb hbox hg; have hnb51 := NB251_234.out; have hnc51 := NB234_251.out; have hnb52 := NB251_244.out; have hnc52 := NB244_251.out; have hnb53 := NB251_245.out; have hnc53 := NB245_251.out; have hnb54 := NB251_252.out; have hnc54 := NB252_251.out; have hcz55_0 : w50.cell? ⟨gb251, 0, none⟩ = some (.int .i64 0) := (blk_cell BK251.out 0).trans rfl; have hcz55_1 : w50.cell? ⟨gb251, 1, none⟩ = some (.int .i64 0) := (blk_cell BK251.out 1).trans rfl; have hfz55_0 := blk_frozen BK251.out 0; have hfz55_1 := blk_frozen BK251.out 1; have hnb56 := NB252_234.out; have hnc56 := NB234_252.out; have hnb57 := NB252_244.out; have hnc57 := NB244_252.out; have hnb58 := NB252_245.out; have hnc58 := NB245_252.out; have hcz59_0 : w50.cell? ⟨gb252, 0, none⟩ = some (.int .i64 0) := (blk_cell BK252.out 0).trans rfl; have hcz59_1 : w50.cell? ⟨gb252, 1, none⟩ = some (.int .i64 0) := (blk_cell BK252.out 1).trans rfl; have hfz59_0 := blk_frozen BK252.out 0; have hfz59_1 := blk_frozen BK252.out 1; have hcz60_0 : w50.cell? ⟨gb244, 0, none⟩ = some (.int .i64 t239) := (blk_cell BK244.out 0).trans rfl; have hcz60_1 : w50.cell? ⟨gb244, 1, none⟩ = some (.int .i64 t240) := (blk_cell BK244.out 1).trans rfl; have hfz60_0 := blk_frozen BK244.out 0; have hfz60_1 := blk_frozen BK244.out 1) | ((with_reducible refine gate_callee (f := 71) rfl ?_); refine goesL_ (some 95) rfl rfl Try.func71 (by kernel_rfl) rfl #[.agg #[.int .i64 t239, .int .i64 t240], .agg #[.int .i64 t246, .int .i64 t247]] rfl (by (try simp only [List.map_toArray, List.map_cons, List.map_nil]); first | done | rfl | (simp only [List.length_drop, List.length_take]; rfl)) ?_; (with_reducible refine (impl_part_less.calls t239 t240 t246 t247 t253 _ A35.out).mono ?_); rintro e w61 ⟨rfl, hb⟩; refine ⟨_, rfl, ?_⟩; have n0_ := Aside0.mk (Kd.R_below (by (with_reducible repeat (first | apply Kd.R_alloc | apply Kd.R_drewN | apply Kd.R_drew)); exact (Kd.R_mono (Kd.R_mono (Kd.R_far (p := ⟨gb252, 1, none⟩) (Kd.R_far (p := ⟨gb252, 0, none⟩) (Kd.R_far (p := ⟨gb251, 1, none⟩) (Kd.R_far (p := ⟨gb251, 0, none⟩) (Kd.R_types (Kd.R_types HO_12.out BK251.out (by decide)) BK252.out (by decide)) (fun _ hk => hk.1.2) (.int .i64 t246)) (fun _ hk => hk.1.2) (.int .i64 t247)) (fun _ hk => hk.2) (.int .i64 t248)) (fun _ hk => hk.2) (.int .i64 t249)) (fun _ h_ => h_.1)) (fun _ h_ => h_.1))) hb); have n1_ := Aside0.mk (blk_below (g := gb234) (o := .cells #[.int .i64 ((rd_T100 l0 x60_2).f0), .int .i64 ((rd_T100 l0 x60_2).f1), .int .i64 ((rd_T100 l0 x60_2).f2), .int .i64 ((rd_T100 l0 x60_2).f3), .int .i64 ((rd_T100 l0 x60_2).f4)] 100 (0, 0)) (by (with_reducible repeat (first | refine blk_drewN ?_ _ | refine blk_drew ?_ | refine blk_alloc ?_ _)); refine blk_far ?_ NB234_252.out _; (with_reducible repeat (first | refine blk_drewN ?_ _ | refine blk_drew ?_ | refine blk_alloc ?_ _)); refine blk_far ?_ NB234_252.out _; (with_reducible repeat (first | refine blk_drewN ?_ _ | refine blk_drew ?_ | refine blk_alloc ?_ _)); refine blk_far ?_ NB234_251.out _; (with_reducible repeat (first | refine blk_drewN ?_ _ | refine blk_drew ?_ | refine blk_alloc ?_ _)); refine blk_far ?_ NB234_251.out _; (with_reducible repeat (first | refine blk_drewN ?_ _ | refine blk_drew ?_ | refine blk_alloc ?_ _)); exact BK234.out) hb); have n2_ := Aside0.mk (blk_below (g := gb244) (o := .cells #[.int .i64 t239, .int .i64 t240] 115 (0, 0)) (by (with_reducible repeat (first | refine blk_drewN ?_ _ | refine blk_drew ?_ | refine blk_alloc ?_ _)); refine blk_far ?_ NB244_252.out _; (with_reducible repeat (first | refine blk_drewN ?_ _ | refine blk_drew ?_ | refine blk_alloc ?_ _)); refine blk_far ?_ NB244_252.out _; (with_reducible repeat (first | refine blk_drewN ?_ _ | refine blk_drew ?_ | refine blk_alloc ?_ _)); refine blk_far ?_ NB244_251.out _; (with_reducible repeat (first | refine blk_drewN ?_ _ | refine blk_drew ?_ | refine blk_alloc ?_ _)); refine blk_far ?_ NB244_251.out _; (with_reducible repeat (first | refine blk_drewN ?_ _ | refine blk_drew ?_ | refine blk_alloc ?_ _)); exact BK244.out) hb); have n3_ := Aside0.mk (blk_below (g := gb245) (o := .cells #[.int .i64 t241, .int .i64 t242] 115 (0, 0)) (by (with_reducible repeat (first | refine blk_drewN ?_ _ | refine blk_drew ?_ | refine blk_alloc ?_ _)); refine blk_far ?_ NB245_252.out _; (with_reducible repeat (first | refine blk_drewN ?_ _ | refine blk_drew ?_ | refine blk_alloc ?_ _)); refine blk_far ?_ NB245_252.out _; (with_reducible repeat (first | refine blk_drewN ?_ _ | refine blk_drew ?_ | refine blk_alloc ?_ _)); refine blk_far ?_ NB245_251.out _; (with_reducible repeat (first | refine blk_drewN ?_ _ | refine blk_drew ?_ | refine blk_alloc ?_ _)); refine blk_far ?_ NB245_251.out _; (with_reducible repeat (first | refine blk_drewN ?_ _ | refine blk_drew ?_ | refine blk_alloc ?_ _)); exact BK245.out) hb); have n4_ := Aside0.mk (blk_below (g := gb251) (o := .cells #[.int .i64 t246, .int .i64 t247] 115 (0, 0)) (by (with_reducible repeat (first | refine blk_drewN ?_ _ | refine blk_drew ?_ | refine blk_alloc ?_ _)); refine blk_far ?_ NB251_252.out _; (with_reducible repeat (first | refine blk_drewN ?_ _ | refine blk_drew ?_ | refine blk_alloc ?_ _)); refine blk_far ?_ NB251_252.out _; (with_reducible repeat (first | refine blk_drewN ?_ _ | refine blk_drew ?_ | refine blk_alloc ?_ _)); refine blk_put (cs := #[.int .i64 t246, .int .i64 0]) ?_ 1 _ rfl; (with_reducible repeat (first | refine blk_drewN ?_ _ | refine blk_drew ?_ | refine blk_alloc ?_ _)); refine blk_put (cs := #[.int .i64 0, .int .i64 0]) ?_ 0 _ rfl; (with_reducible repeat (first | refine blk_drewN ?_ _ | refine blk_drew ?_ | refine blk_alloc ?_ _)); exact BK251.out) hb); have n5_ := Aside0.mk (blk_below (g := gb252) (o := .cells #[.int .i64 t248, .int .i64 t249] 115 (0, 0)) (by (with_reducible repeat (first | refine blk_drewN ?_ _ | refine blk_drew ?_ | refine blk_alloc ?_ _)); refine blk_put (cs := #[.int .i64 t248, .int .i64 0]) ?_ 1 _ rfl; (with_reducible repeat (first | refine blk_drewN ?_ _ | refine blk_drew ?_ | refine blk_alloc ?_ _)); refine blk_put (cs := #[.int .i64 0, .int .i64 0]) ?_ 0 _ rfl; (with_reducible repeat (first | refine blk_drewN ?_ _ | refine blk_drew ?_ | refine blk_alloc ?_ _)); refine blk_far ?_ NB252_251.out _; (with_reducible repeat (first | refine blk_drewN ?_ _ | refine blk_drew ?_ | refine blk_alloc ?_ _)); refine blk_far ?_ NB252_251.out _; (with_reducible repeat (first | refine blk_drewN ?_ _ | refine blk_drew ?_ | refine blk_alloc ?_ _)); exact BK252.out) hb); have n6_ := Aside0.mk (below_step (by repeat (first | (with_reducible first | exact HB.out | apply below_alloc | apply pw_below_drewN | apply below_drew1 | refine below_set ?_ GE234.out | refine below_set ?_ GE244.out | refine below_set ?_ GE245.out | refine below_set ?_ GE251.out | refine below_set ?_ GE252.out) | exact HB.out)) hb); clear HO_12; clear BK234; clear BK244; clear BK245; clear BK251; clear BK252; clear HB; have HO_12 := n0_; have BK234 := n1_; have BK244 := n2_; have BK245 := n3_; have BK251 := n4_; have BK252 := n5_; have HB := n6_; clear n0_ n1_ n2_ n3_ n4_ n5_ n6_; (try clear hb); (try clear hb2); (try clear hk); (try clear hi)))
                    (try simp only [Act.put, List.setIfInBounds_toArray, List.set_cons_zero, List.set_cons_succ])
                    go_cut [] (fun wc => ∃ (kq : Nat) (x245000_35 : Int) (x245001_35 : Int), Aside0 (impl_RayMeets.j2 kq a1 a2 a3 a4 x12_2 x60_2 t243 t250 l0 (l0.length : Int) x60_2 x245000_35 x245001_35 t241 t242 t248 t249 = some (r1, r2)) ∧ Aside0 (kq ≤ k2) ∧ Aside0 (Kd.R k109 109 wc w.heap.size (fun _ => True) u12 x12_2) ∧ Aside0 (wc.heap[gb234]? = some (.cells #[.int .i64 ((rd_T100 l0 x60_2).f0), .int .i64 ((rd_T100 l0 x60_2).f1), .int .i64 ((rd_T100 l0 x60_2).f2), .int .i64 ((rd_T100 l0 x60_2).f3), .int .i64 ((rd_T100 l0 x60_2).f4)] 100 (0, 0))) ∧ Aside0 (wc.heap[gb244]? = some (.cells #[.int .i64 x245000_35, .int .i64 x245001_35] 115 (0, 0))) ∧ Aside0 (wc.heap[gb245]? = some (.cells #[.int .i64 t241, .int .i64 t242] 115 (0, 0))) ∧ Aside0 (wc.heap[gb251]? = some (.cells #[.int .i64 t246, .int .i64 t247] 115 (0, 0))) ∧ Aside0 (wc.heap[gb252]? = some (.cells #[.int .i64 t248, .int .i64 t249] 115 (0, 0))) ∧ Aside0 (Below w.heap.size w wc))
                    case first =>
                      have H := HC36.out
                      clear HC36
                      by_cases c62 : t253 = true
                      · subst c62
                        have H1 : (impl_RayMeets.j2 k2 a1 a2 a3 a4 x12_2 x60_2 t243 t250 l0 (l0.length : Int) x60_2 t246 t247 t241 t242 t248 t249) = some (r1, r2) := by rw [if_pos rfl] at H; exact H
                        clear H
                        have H := H1
                        clear H1
                        have H' := Aside0.mk H
                        clear H
                        have hnb63 := NB251_234.out
                        have hnc63 := NB234_251.out
                        have hnb64 := NB251_244.out
                        have hnc64 := NB244_251.out
                        have hnb65 := NB251_245.out
                        have hnc65 := NB245_251.out
                        have hnb66 := NB251_252.out
                        have hnc66 := NB252_251.out
                        have hcz67_0 : w61.cell? ⟨gb251, 0, none⟩ = some (.int .i64 t246) := (blk_cell BK251.out 0).trans rfl
                        have hcz67_1 : w61.cell? ⟨gb251, 1, none⟩ = some (.int .i64 t247) := (blk_cell BK251.out 1).trans rfl
                        have hfz67_0 := blk_frozen BK251.out 0
                        have hfz67_1 := blk_frozen BK251.out 1
                        have hnb68 := NB244_234.out
                        have hnc68 := NB234_244.out
                        have hnb69 := NB244_245.out
                        have hnc69 := NB245_244.out
                        have hnb70 := NB244_252.out
                        have hnc70 := NB252_244.out
                        have hcz71_0 : w61.cell? ⟨gb244, 0, none⟩ = some (.int .i64 t239) := (blk_cell BK244.out 0).trans rfl
                        have hcz71_1 : w61.cell? ⟨gb244, 1, none⟩ = some (.int .i64 t240) := (blk_cell BK244.out 1).trans rfl
                        have hfz71_0 := blk_frozen BK244.out 0
                        have hfz71_1 := blk_frozen BK244.out 1
                        go_wp2
                        go_meet
                        case rel => exact ⟨_, (t246), (t247), H', ⟨by have := HJ5.out; have := HK2.out; first | omega | exact Nat.le_refl _⟩, ⟨by (with_reducible repeat (first | apply Kd.R_alloc | apply Kd.R_drewN | apply Kd.R_drew)); exact Kd.R_mono (Kd.R_far (p := ⟨gb244, 1, none⟩) (Kd.R_far (p := ⟨gb244, 0, none⟩) (Kd.R_types HO_12.out BK244.out (by decide)) (fun _ hk => hk.2) (.int .i64 t246)) (fun _ hk => hk.2) (.int .i64 t247)) (fun _ hk => trivial)⟩, ⟨by (with_reducible repeat (first | refine blk_drewN ?_ _ | refine blk_drew ?_ | refine blk_alloc ?_ _)); refine blk_far ?_ NB234_244.out _; (with_reducible repeat (first | refine blk_drewN ?_ _ | refine blk_drew ?_ | refine blk_alloc ?_ _)); refine blk_far ?_ NB234_244.out _; (with_reducible repeat (first | refine blk_drewN ?_ _ | refine blk_drew ?_ | refine blk_alloc ?_ _)); exact BK234.out⟩, ⟨by (with_reducible repeat (first | refine blk_drewN ?_ _ | refine blk_drew ?_ | refine blk_alloc ?_ _)); refine blk_put (cs := #[.int .i64 t246, .int .i64 t240]) ?_ 1 _ rfl; (with_reducible repeat (first | refine blk_drewN ?_ _ | refine blk_drew ?_ | refine blk_alloc ?_ _)); refine blk_put (cs := #[.int .i64 t239, .int .i64 t240]) ?_ 0 _ rfl; (with_reducible repeat (first | refine blk_drewN ?_ _ | refine blk_drew ?_ | refine blk_alloc ?_ _)); exact BK244.out⟩, ⟨by (with_reducible repeat (first | refine blk_drewN ?_ _ | refine blk_drew ?_ | refine blk_alloc ?_ _)); refine blk_far ?_ NB245_244.out _; (with_reducible repeat (first | refine blk_drewN ?_ _ | refine blk_drew ?_ | refine blk_alloc ?_ _)); refine blk_far ?_ NB245_244.out _; (with_reducible repeat (first | refine blk_drewN ?_ _ | refine blk_drew ?_ | refine blk_alloc ?_ _)); exact BK245.out⟩, ⟨by (with_reducible repeat (first | refine blk_drewN ?_ _ | refine blk_drew ?_ | refine blk_alloc ?_ _)); refine blk_far ?_ NB251_244.out _; (with_reducible repeat (first | refine blk_drewN ?_ _ | refine blk_drew ?_ | refine blk_alloc ?_ _)); refine blk_far ?_ NB251_244.out _; (with_reducible repeat (first | refine blk_drewN ?_ _ | refine blk_drew ?_ | refine blk_alloc ?_ _)); exact BK251.out⟩, ⟨by (with_reducible repeat (first | refine blk_drewN ?_ _ | refine blk_drew ?_ | refine blk_alloc ?_ _)); refine blk_far ?_ NB252_244.out _; (with_reducible repeat (first | refine blk_drewN ?_ _ | refine blk_drew ?_ | refine blk_alloc ?_ _)); refine blk_far ?_ NB252_244.out _; (with_reducible repeat (first | refine blk_drewN ?_ _ | refine blk_drew ?_ | refine blk_alloc ?_ _)); exact BK252.out⟩, ⟨by repeat (first | (with_reducible first | exact HB.out | apply below_alloc | apply pw_below_drewN | apply below_drew1 | refine below_set ?_ GE234.out | refine below_set ?_ GE244.out | refine below_set ?_ GE245.out | refine below_set ?_ GE251.out | refine below_set ?_ GE252.out) | exact HB.out)⟩⟩
                      · replace c62 := Bool.eq_false_iff.mpr c62
                        subst c62
                        have H1 : (impl_RayMeets.j2 k2 a1 a2 a3 a4 x12_2 x60_2 t243 t250 l0 (l0.length : Int) x60_2 t239 t240 t241 t242 t248 t249) = some (r1, r2) := by rw [if_neg (show ¬ (false = true) by decide)] at H; exact H
                        clear H
                        have H := H1
                        clear H1
                        have H' := Aside0.mk H
                        clear H
                        go_wp2
                        go_meet
                        case rel => exact ⟨_, (t239), (t240), H', ⟨by have := HJ5.out; have := HK2.out; first | omega | exact Nat.le_refl _⟩, ⟨by (with_reducible repeat (first | apply Kd.R_alloc | apply Kd.R_drewN | apply Kd.R_drew)); exact HO_12.out⟩, ⟨by (with_reducible repeat (first | refine blk_drewN ?_ _ | refine blk_drew ?_ | refine blk_alloc ?_ _)); exact BK234.out⟩, ⟨by (with_reducible repeat (first | refine blk_drewN ?_ _ | refine blk_drew ?_ | refine blk_alloc ?_ _)); exact BK244.out⟩, ⟨by (with_reducible repeat (first | refine blk_drewN ?_ _ | refine blk_drew ?_ | refine blk_alloc ?_ _)); exact BK245.out⟩, ⟨by (with_reducible repeat (first | refine blk_drewN ?_ _ | refine blk_drew ?_ | refine blk_alloc ?_ _)); exact BK251.out⟩, ⟨by (with_reducible repeat (first | refine blk_drewN ?_ _ | refine blk_drew ?_ | refine blk_alloc ?_ _)); exact BK252.out⟩, ⟨by repeat (first | (with_reducible first | exact HB.out | apply below_alloc | apply pw_below_drewN | apply below_drew1 | refine below_set ?_ GE234.out | refine below_set ?_ GE244.out | refine below_set ?_ GE245.out | refine below_set ?_ GE251.out | refine below_set ?_ GE252.out) | exact HB.out)⟩⟩
                    case rest =>
                      clear HC36
                      try clear c1
                      try clear c2
                      try clear p2
                      try clear q2
                      try clear hx2
                      try clear c3
                      try clear c4
                      try clear c5
                      try clear c6
                      try clear c7
                      try clear c8
                      try clear c10
                      try clear c12
                      try clear c14
                      try clear c16
                      try clear c17
                      try clear c17b0
                      try clear c17b1
                      try clear p23
                      try clear q23
                      try clear hx23
                      try clear c25
                      try clear c28
                      try clear c28b0
                      try clear c29
                      try clear c29b0
                      try clear c30
                      try clear c30b0
                      try clear c31
                      try clear c31b0
                      try clear c31b1
                      try clear c43
                      try clear c44
                      try clear c46
                      try clear c51
                      try clear c52
                      try clear c53
                      try clear c54
                      try clear c56
                      try clear c57
                      try clear c58
                      try clear c62
                      try clear c63
                      try clear c64
                      try clear c65
                      try clear c66
                      try clear c67
                      try clear c68
                      try clear c69
                      try clear c70
                      try clear c71
                      try clear hcz38_0
                      try clear hcz38_1
                      try clear hcz38_2
                      try clear hcz38_3
                      try clear hcz38_4
                      try clear hcz45_0
                      try clear hcz45_1
                      try clear hcz47_0
                      try clear hcz47_1
                      try clear hcz55_0
                      try clear hcz55_1
                      try clear hcz59_0
                      try clear hcz59_1
                      try clear hcz60_0
                      try clear hcz60_1
                      try clear hcz67_0
                      try clear hcz67_1
                      try clear hcz71_0
                      try clear hcz71_1
                      try clear hfz38_0
                      try clear hfz38_1
                      try clear hfz38_2
                      try clear hfz38_3
                      try clear hfz38_4
                      try clear hfz45_0
                      try clear hfz45_1
                      try clear hfz47_0
                      try clear hfz47_1
                      try clear hfz55_0
                      try clear hfz55_1
                      try clear hfz59_0
                      try clear hfz59_1
                      try clear hfz60_0
                      try clear hfz60_1
                      try clear hfz67_0
                      try clear hfz67_1
                      try clear hfz71_0
                      try clear hfz71_1
                      try clear hx233_0
                      try clear hx233_1
                      try clear hx233_2
                      try clear hx233_3
                      try clear hx233_4
                      try clear p2
                      try clear p233
                      try clear q233
                      obtain ⟨kq, x245000_35, x245001_35, HA, HJ35, HO_12, BK234, BK244, BK245, BK251, BK252, HB⟩ := hcut
                      cases kq with
                      | zero => exact absurd HA.out (by simp [impl_RayMeets.j2])
                      | succ kj35 =>
                        have H := HA.out
                        clear HA
                        simp only [impl_RayMeets.j2] at H
                        by_cases c72 : t243 = true
                        · subst c72
                          have H1 : (if t250 = true then ((impl_part_less.f t241 t242 x245000_35 x245001_35).bind fun t254 => (if t254 = true then (impl_RayMeets.l0 kj35 a1 a2 a3 a4 x12_2 l0 (l0.length : Int) (wrap64 (x60_2 + 1))) else ((impl_part_less.f t248 t249 x245000_35 x245001_35).bind fun t255 => (if t255 = true then (impl_RayMeets.l0 kj35 a1 a2 a3 a4 x12_2 l0 (l0.length : Int) (wrap64 (x60_2 + 1))) else ((impl_common.f kj35 x245000_35 x245001_35).bind fun t256 => (if t256 = 0 then (none) else (if x12_2.length < 5864062014805 then (impl_RayMeets.l0 kj35 a1 a2 a3 a4 (x12_2 ++ [(⟨x60_2, wrap64 (Int.tdiv x245000_35 t256), wrap64 (Int.tdiv x245001_35 t256)⟩ : S109)]) l0 (l0.length : Int) (wrap64 (x60_2 + 1))) else (none)))))))) else (impl_RayMeets.l0 kj35 a1 a2 a3 a4 x12_2 l0 (l0.length : Int) (wrap64 (x60_2 + 1)))) = some (r1, r2) := by rw [if_pos rfl] at H; exact H
                          clear H
                          have H := H1
                          clear H1
                          by_cases c73 : t250 = true
                          · subst c73
                            have H1 : ((impl_part_less.f t241 t242 x245000_35 x245001_35).bind fun t254 => (if t254 = true then (impl_RayMeets.l0 kj35 a1 a2 a3 a4 x12_2 l0 (l0.length : Int) (wrap64 (x60_2 + 1))) else ((impl_part_less.f t248 t249 x245000_35 x245001_35).bind fun t255 => (if t255 = true then (impl_RayMeets.l0 kj35 a1 a2 a3 a4 x12_2 l0 (l0.length : Int) (wrap64 (x60_2 + 1))) else ((impl_common.f kj35 x245000_35 x245001_35).bind fun t256 => (if t256 = 0 then (none) else (if x12_2.length < 5864062014805 then (impl_RayMeets.l0 kj35 a1 a2 a3 a4 (x12_2 ++ [(⟨x60_2, wrap64 (Int.tdiv x245000_35 t256), wrap64 (Int.tdiv x245001_35 t256)⟩ : S109)]) l0 (l0.length : Int) (wrap64 (x60_2 + 1))) else (none)))))))) = some (r1, r2) := by rw [if_pos rfl] at H; exact H
                            clear H
                            have H := H1
                            clear H1
                            replace H := Option.bind_eq_some_iff.mp H
                            obtain ⟨t254, A740, H⟩ := H
                            replace H : (if t254 = true then (impl_RayMeets.l0 kj35 a1 a2 a3 a4 x12_2 l0 (l0.length : Int) (wrap64 (x60_2 + 1))) else ((impl_part_less.f t248 t249 x245000_35 x245001_35).bind fun t255 => (if t255 = true then (impl_RayMeets.l0 kj35 a1 a2 a3 a4 x12_2 l0 (l0.length : Int) (wrap64 (x60_2 + 1))) else ((impl_common.f kj35 x245000_35 x245001_35).bind fun t256 => (if t256 = 0 then (none) else (if x12_2.length < 5864062014805 then (impl_RayMeets.l0 kj35 a1 a2 a3 a4 (x12_2 ++ [(⟨x60_2, wrap64 (Int.tdiv x245000_35 t256), wrap64 (Int.tdiv x245001_35 t256)⟩ : S109)]) l0 (l0.length : Int) (wrap64 (x60_2 + 1))) else (none))))))) = some (r1, r2) := H
                            have A74 := Aside0.mk A740
                            clear A740
                            by_cases c75 : t254 = true
                            · subst c75
                              have H1 : (impl_RayMeets.l0 kj35 a1 a2 a3 a4 x12_2 l0 (l0.length : Int) (wrap64 (x60_2 + 1))) = some (r1, r2) := by rw [if_pos rfl] at H; exact H
                              clear H
                              have H := H1
                              clear H1
                              have H' := Aside0.mk H
                              clear H
                              have hnb76 := NB245_234.out
                              have hnc76 := NB234_245.out
                              have hnb77 := NB245_244.out
                              have hnc77 := NB244_245.out
                              have hnb78 := NB245_251.out
                              have hnc78 := NB251_245.out
                              have hnb79 := NB245_252.out
                              have hnc79 := NB252_245.out
                              have hcz80_0 : wc.cell? ⟨gb245, 0, none⟩ = some (.int .i64 t241) := (blk_cell BK245.out 0).trans rfl
                              have hcz80_1 : wc.cell? ⟨gb245, 1, none⟩ = some (.int .i64 t242) := (blk_cell BK245.out 1).trans rfl
                              have hfz80_0 := blk_frozen BK245.out 0
                              have hfz80_1 := blk_frozen BK245.out 1
                              have hnb81 := NB244_234.out
                              have hnc81 := NB234_244.out
                              have hnb82 := NB244_251.out
                              have hnc82 := NB251_244.out
                              have hnb83 := NB244_252.out
                              have hnc83 := NB252_244.out
                              have hcz84_0 : wc.cell? ⟨gb244, 0, none⟩ = some (.int .i64 x245000_35) := (blk_cell BK244.out 0).trans rfl
                              have hcz84_1 : wc.cell? ⟨gb244, 1, none⟩ = some (.int .i64 x245001_35) := (blk_cell BK244.out 1).trans rfl
                              have hfz84_0 := blk_frozen BK244.out 0
                              have hfz84_1 := blk_frozen BK244.out 1
                              go_wp2_with (first | (go_at_call 71; (with_reducible refine (impl_part_less.calls t241 t242 x245000_35 x245001_35 true _ A74.out).mono ?_); rintro e w85 ⟨rfl, hb⟩; have n0_ := Aside0.mk (Kd.R_below (by (with_reducible repeat (first | apply Kd.R_alloc | apply Kd.R_drewN | apply Kd.R_drew)); exact HO_12.out) hb); have n1_ := Aside0.mk (blk_below (g := gb234) (o := .cells #[.int .i64 ((rd_T100 l0 x60_2).f0), .int .i64 ((rd_T100 l0 x60_2).f1), .int .i64 ((rd_T100 l0 x60_2).f2), .int .i64 ((rd_T100 l0 x60_2).f3), .int .i64 ((rd_T100 l0 x60_2).f4)] 100 (0, 0)) (by (with_reducible repeat (first | refine blk_drewN ?_ _ | refine blk_drew ?_ | refine blk_alloc ?_ _)); exact BK234.out) hb); have n2_ := Aside0.mk (blk_below (g := gb244) (o := .cells #[.int .i64 x245000_35, .int .i64 x245001_35] 115 (0, 0)) (by (with_reducible repeat (first | refine blk_drewN ?_ _ | refine blk_drew ?_ | refine blk_alloc ?_ _)); exact BK244.out) hb); have n3_ := Aside0.mk (blk_below (g := gb245) (o := .cells #[.int .i64 t241, .int .i64 t242] 115 (0, 0)) (by (with_reducible repeat (first | refine blk_drewN ?_ _ | refine blk_drew ?_ | refine blk_alloc ?_ _)); exact BK245.out) hb); have n4_ := Aside0.mk (blk_below (g := gb251) (o := .cells #[.int .i64 t246, .int .i64 t247] 115 (0, 0)) (by (with_reducible repeat (first | refine blk_drewN ?_ _ | refine blk_drew ?_ | refine blk_alloc ?_ _)); exact BK251.out) hb); have n5_ := Aside0.mk (blk_below (g := gb252) (o := .cells #[.int .i64 t248, .int .i64 t249] 115 (0, 0)) (by (with_reducible repeat (first | refine blk_drewN ?_ _ | refine blk_drew ?_ | refine blk_alloc ?_ _)); exact BK252.out) hb); have n6_ := Aside0.mk (below_step (by repeat (first | (with_reducible first | exact HB.out | apply below_alloc | apply pw_below_drewN | apply below_drew1 | refine below_set ?_ GE234.out | refine below_set ?_ GE244.out | refine below_set ?_ GE245.out | refine below_set ?_ GE251.out | refine below_set ?_ GE252.out) | exact HB.out)) hb); clear HO_12; clear BK234; clear BK244; clear BK245; clear BK251; clear BK252; clear HB; have HO_12 := n0_; have BK234 := n1_; have BK244 := n2_; have BK245 := n3_; have BK251 := n4_; have BK252 := n5_; have HB := n6_; clear n0_ n1_ n2_ n3_ n4_ n5_ n6_; (try clear hb); (try clear hb2); (try clear hk); (try clear hi)))
                              go_roundg kj35
                              case measure => have := HJ5.out; have := HK2.out; have := HJ35.out; omega
                              case rel => exact ⟨(x12_2), (wrap64 (x60_2 + 1)), (by first | rfl | (simp; done) | (simp [*]; done)), H', ⟨by have := HJ5.out; have := HK2.out; have := HJ35.out; omega⟩, ⟨by (with_reducible repeat (first | apply Kd.R_alloc | apply Kd.R_drewN | apply Kd.R_drew)); exact HO_12.out⟩, ⟨by repeat (first | (with_reducible first | exact HB.out | apply below_alloc | apply pw_below_drewN | apply below_drew1 | refine below_set ?_ GE234.out | refine below_set ?_ GE244.out | refine below_set ?_ GE245.out | refine below_set ?_ GE251.out | refine below_set ?_ GE252.out) | exact HB.out)⟩⟩
                            · replace c75 := Bool.eq_false_iff.mpr c75
                              subst c75
                              have H1 : ((impl_part_less.f t248 t249 x245000_35 x245001_35).bind fun t255 => (if t255 = true then (impl_RayMeets.l0 kj35 a1 a2 a3 a4 x12_2 l0 (l0.length : Int) (wrap64 (x60_2 + 1))) else ((impl_common.f kj35 x245000_35 x245001_35).bind fun t256 => (if t256 = 0 then (none) else (if x12_2.length < 5864062014805 then (impl_RayMeets.l0 kj35 a1 a2 a3 a4 (x12_2 ++ [(⟨x60_2, wrap64 (Int.tdiv x245000_35 t256), wrap64 (Int.tdiv x245001_35 t256)⟩ : S109)]) l0 (l0.length : Int) (wrap64 (x60_2 + 1))) else (none)))))) = some (r1, r2) := by rw [if_neg (show ¬ (false = true) by decide)] at H; exact H
                              clear H
                              have H := H1
                              clear H1
                              replace H := Option.bind_eq_some_iff.mp H
                              obtain ⟨t255, A860, H⟩ := H
                              replace H : (if t255 = true then (impl_RayMeets.l0 kj35 a1 a2 a3 a4 x12_2 l0 (l0.length : Int) (wrap64 (x60_2 + 1))) else ((impl_common.f kj35 x245000_35 x245001_35).bind fun t256 => (if t256 = 0 then (none) else (if x12_2.length < 5864062014805 then (impl_RayMeets.l0 kj35 a1 a2 a3 a4 (x12_2 ++ [(⟨x60_2, wrap64 (Int.tdiv x245000_35 t256), wrap64 (Int.tdiv x245001_35 t256)⟩ : S109)]) l0 (l0.length : Int) (wrap64 (x60_2 + 1))) else (none))))) = some (r1, r2) := H
                              have A86 := Aside0.mk A860
                              clear A860
                              by_cases c87 : t255 = true
                              · subst c87
                                have H1 : (impl_RayMeets.l0 kj35 a1 a2 a3 a4 x12_2 l0 (l0.length : Int) (wrap64 (x60_2 + 1))) = some (r1, r2) := by rw [if_pos rfl] at H; exact H
                                clear H
                                have H := H1
                                clear H1
                                have H' := Aside0.mk H
                                clear H
                                have hnb88 := NB245_234.out
                                have hnc88 := NB234_245.out
                                have hnb89 := NB245_244.out
                                have hnc89 := NB244_245.out
                                have hnb90 := NB245_251.out
                                have hnc90 := NB251_245.out
                                have hnb91 := NB245_252.out
                                have hnc91 := NB252_245.out
                                have hcz92_0 : wc.cell? ⟨gb245, 0, none⟩ = some (.int .i64 t241) := (blk_cell BK245.out 0).trans rfl
                                have hcz92_1 : wc.cell? ⟨gb245, 1, none⟩ = some (.int .i64 t242) := (blk_cell BK245.out 1).trans rfl
                                have hfz92_0 := blk_frozen BK245.out 0
                                have hfz92_1 := blk_frozen BK245.out 1
                                have hnb93 := NB244_234.out
                                have hnc93 := NB234_244.out
                                have hnb94 := NB244_251.out
                                have hnc94 := NB251_244.out
                                have hnb95 := NB244_252.out
                                have hnc95 := NB252_244.out
                                have hcz96_0 : wc.cell? ⟨gb244, 0, none⟩ = some (.int .i64 x245000_35) := (blk_cell BK244.out 0).trans rfl
                                have hcz96_1 : wc.cell? ⟨gb244, 1, none⟩ = some (.int .i64 x245001_35) := (blk_cell BK244.out 1).trans rfl
                                have hfz96_0 := blk_frozen BK244.out 0
                                have hfz96_1 := blk_frozen BK244.out 1
                                go_wp2_with (first | (go_at_call 71; (with_reducible refine (impl_part_less.calls t241 t242 x245000_35 x245001_35 false _ A74.out).mono ?_); rintro e w97 ⟨rfl, hb⟩; have n0_ := Aside0.mk (Kd.R_below (by (with_reducible repeat (first | apply Kd.R_alloc | apply Kd.R_drewN | apply Kd.R_drew)); exact HO_12.out) hb); have n1_ := Aside0.mk (blk_below (g := gb234) (o := .cells #[.int .i64 ((rd_T100 l0 x60_2).f0), .int .i64 ((rd_T100 l0 x60_2).f1), .int .i64 ((rd_T100 l0 x60_2).f2), .int .i64 ((rd_T100 l0 x60_2).f3), .int .i64 ((rd_T100 l0 x60_2).f4)] 100 (0, 0)) (by (with_reducible repeat (first | refine blk_drewN ?_ _ | refine blk_drew ?_ | refine blk_alloc ?_ _)); exact BK234.out) hb); have n2_ := Aside0.mk (blk_below (g := gb244) (o := .cells #[.int .i64 x245000_35, .int .i64 x245001_35] 115 (0, 0)) (by (with_reducible repeat (first | refine blk_drewN ?_ _ | refine blk_drew ?_ | refine blk_alloc ?_ _)); exact BK244.out) hb); have n3_ := Aside0.mk (blk_below (g := gb245) (o := .cells #[.int .i64 t241, .int .i64 t242] 115 (0, 0)) (by (with_reducible repeat (first | refine blk_drewN ?_ _ | refine blk_drew ?_ | refine blk_alloc ?_ _)); exact BK245.out) hb); have n4_ := Aside0.mk (blk_below (g := gb251) (o := .cells #[.int .i64 t246, .int .i64 t247] 115 (0, 0)) (by (with_reducible repeat (first | refine blk_drewN ?_ _ | refine blk_drew ?_ | refine blk_alloc ?_ _)); exact BK251.out) hb); have n5_ := Aside0.mk (blk_below (g := gb252) (o := .cells #[.int .i64 t248, .int .i64 t249] 115 (0, 0)) (by (with_reducible repeat (first | refine blk_drewN ?_ _ | refine blk_drew ?_ | refine blk_alloc ?_ _)); exact BK252.out) hb); have n6_ := Aside0.mk (below_step (by repeat (first | (with_reducible first | exact HB.out | apply below_alloc | apply pw_below_drewN | apply below_drew1 | refine below_set ?_ GE234.out | refine below_set ?_ GE244.out | refine below_set ?_ GE245.out | refine below_set ?_ GE251.out | refine below_set ?_ GE252.out) | exact HB.out)) hb); clear HO_12; clear BK234; clear BK244; clear BK245; clear BK251; clear BK252; clear HB; have HO_12 := n0_; have BK234 := n1_; have BK244 := n2_; have BK245 := n3_; have BK251 := n4_; have BK252 := n5_; have HB := n6_; clear n0_ n1_ n2_ n3_ n4_ n5_ n6_; (try clear hb); (try clear hb2); (try clear hk); (try clear hi); have hnb98 := NB252_234.out; have hnc98 := NB234_252.out; have hnb99 := NB252_251.out; have hnc99 := NB251_252.out; have hcz100_0 : w97.cell? ⟨gb252, 0, none⟩ = some (.int .i64 t248) := (blk_cell BK252.out 0).trans rfl; have hcz100_1 : w97.cell? ⟨gb252, 1, none⟩ = some (.int .i64 t249) := (blk_cell BK252.out 1).trans rfl; have hfz100_0 := blk_frozen BK252.out 0; have hfz100_1 := blk_frozen BK252.out 1; have hcz101_0 : w97.cell? ⟨gb244, 0, none⟩ = some (.int .i64 x245000_35) := (blk_cell BK244.out 0).trans rfl; have hcz101_1 : w97.cell? ⟨gb244, 1, none⟩ = some (.int .i64 x245001_35) := (blk_cell BK244.out 1).trans rfl; have hfz101_0 := blk_frozen BK244.out 0; have hfz101_1 := blk_frozen BK244.out 1) | (go_at_call 71; (with_reducible refine (impl_part_less.calls t248 t249 x245000_35 x245001_35 true _ A86.out).mono ?_); rintro e w102 ⟨rfl, hb⟩; have n0_ := Aside0.mk (Kd.R_below (by (with_reducible repeat (first | apply Kd.R_alloc | apply Kd.R_drewN | apply Kd.R_drew)); exact HO_12.out) hb); have n1_ := Aside0.mk (blk_below (g := gb234) (o := .cells #[.int .i64 ((rd_T100 l0 x60_2).f0), .int .i64 ((rd_T100 l0 x60_2).f1), .int .i64 ((rd_T100 l0 x60_2).f2), .int .i64 ((rd_T100 l0 x60_2).f3), .int .i64 ((rd_T100 l0 x60_2).f4)] 100 (0, 0)) (by (with_reducible repeat (first | refine blk_drewN ?_ _ | refine blk_drew ?_ | refine blk_alloc ?_ _)); exact BK234.out) hb); have n2_ := Aside0.mk (blk_below (g := gb244) (o := .cells #[.int .i64 x245000_35, .int .i64 x245001_35] 115 (0, 0)) (by (with_reducible repeat (first | refine blk_drewN ?_ _ | refine blk_drew ?_ | refine blk_alloc ?_ _)); exact BK244.out) hb); have n3_ := Aside0.mk (blk_below (g := gb245) (o := .cells #[.int .i64 t241, .int .i64 t242] 115 (0, 0)) (by (with_reducible repeat (first | refine blk_drewN ?_ _ | refine blk_drew ?_ | refine blk_alloc ?_ _)); exact BK245.out) hb); have n4_ := Aside0.mk (blk_below (g := gb251) (o := .cells #[.int .i64 t246, .int .i64 t247] 115 (0, 0)) (by (with_reducible repeat (first | refine blk_drewN ?_ _ | refine blk_drew ?_ | refine blk_alloc ?_ _)); exact BK251.out) hb); have n5_ := Aside0.mk (blk_below (g := gb252) (o := .cells #[.int .i64 t248, .int .i64 t249] 115 (0, 0)) (by (with_reducible repeat (first | refine blk_drewN ?_ _ | refine blk_drew ?_ | refine blk_alloc ?_ _)); exact BK252.out) hb); have n6_ := Aside0.mk (below_step (by repeat (first | (with_reducible first | exact HB.out | apply below_alloc | apply pw_below_drewN | apply below_drew1 | refine below_set ?_ GE234.out | refine below_set ?_ GE244.out | refine below_set ?_ GE245.out | refine below_set ?_ GE251.out | refine below_set ?_ GE252.out) | exact HB.out)) hb); clear HO_12; clear BK234; clear BK244; clear BK245; clear BK251; clear BK252; clear HB; have HO_12 := n0_; have BK234 := n1_; have BK244 := n2_; have BK245 := n3_; have BK251 := n4_; have BK252 := n5_; have HB := n6_; clear n0_ n1_ n2_ n3_ n4_ n5_ n6_; (try clear hb); (try clear hb2); (try clear hk); (try clear hi)))
                                go_roundg kj35
                                case measure => have := HJ5.out; have := HK2.out; have := HJ35.out; omega
                                case rel => exact ⟨(x12_2), (wrap64 (x60_2 + 1)), (by first | rfl | (simp; done) | (simp [*]; done)), H', ⟨by have := HJ5.out; have := HK2.out; have := HJ35.out; omega⟩, ⟨by (with_reducible repeat (first | apply Kd.R_alloc | apply Kd.R_drewN | apply Kd.R_drew)); exact HO_12.out⟩, ⟨by repeat (first | (with_reducible first | exact HB.out | apply below_alloc | apply pw_below_drewN | apply below_drew1 | refine below_set ?_ GE234.out | refine below_set ?_ GE244.out | refine below_set ?_ GE245.out | refine below_set ?_ GE251.out | refine below_set ?_ GE252.out) | exact HB.out)⟩⟩
                              · replace c87 := Bool.eq_false_iff.mpr c87
                                subst c87
                                have H1 : ((impl_common.f kj35 x245000_35 x245001_35).bind fun t256 => (if t256 = 0 then (none) else (if x12_2.length < 5864062014805 then (impl_RayMeets.l0 kj35 a1 a2 a3 a4 (x12_2 ++ [(⟨x60_2, wrap64 (Int.tdiv x245000_35 t256), wrap64 (Int.tdiv x245001_35 t256)⟩ : S109)]) l0 (l0.length : Int) (wrap64 (x60_2 + 1))) else (none)))) = some (r1, r2) := by rw [if_neg (show ¬ (false = true) by decide)] at H; exact H
                                clear H
                                have H := H1
                                clear H1
                                replace H := Option.bind_eq_some_iff.mp H
                                obtain ⟨t256, A1030, H⟩ := H
                                replace H : (if t256 = 0 then (none) else (if x12_2.length < 5864062014805 then (impl_RayMeets.l0 kj35 a1 a2 a3 a4 (x12_2 ++ [(⟨x60_2, wrap64 (Int.tdiv x245000_35 t256), wrap64 (Int.tdiv x245001_35 t256)⟩ : S109)]) l0 (l0.length : Int) (wrap64 (x60_2 + 1))) else (none))) = some (r1, r2) := H
                                have A103 := Aside0.mk A1030
                                clear A1030
                                by_cases c104 : t256 = 0
                                · rw [if_pos c104] at H
                                  exact absurd H (by simp)
                                · rw [if_neg c104] at H
                                  have c104b0 : (t256 == 0) = false := beq_eq_false_iff_ne.mpr c104
                                  have c104b1 : (t256 != 0) = true := bne_iff_ne.mpr c104
                                  by_cases c105 : x12_2.length < 5864062014805
                                  · rw [if_pos c105] at H
                                    have LMc105 := Aside0.mk c105
                                    clear c105
                                    obtain ⟨y257, hy257⟩ : ∃ y_ : List (S109), y_ = (x12_2 ++ [(⟨x60_2, wrap64 (Int.tdiv x245000_35 t256), wrap64 (Int.tdiv x245001_35 t256)⟩ : S109)]) := ⟨_, rfl⟩
                                    replace H : (impl_RayMeets.l0 kj35 a1 a2 a3 a4 y257 l0 (l0.length : Int) (wrap64 (x60_2 + 1))) = some (r1, r2) := by first | (rw [hy257]; with_reducible exact H) | (have H2_ := (Option.bind_some _ _).symm.trans H; rw [hy257]; with_reducible exact H2_) | (have H2_ := (Option.bind_some _ _).symm.trans H; with_reducible exact H2_) | with_reducible exact H | (rw [hy257]; exact H) | exact H
                                    have Ny257 := Aside0.mk hy257
                                    clear hy257
                                    have H' := Aside0.mk H
                                    clear H
                                    have hnb106 := NB245_234.out
                                    have hnc106 := NB234_245.out
                                    have hnb107 := NB245_244.out
                                    have hnc107 := NB244_245.out
                                    have hnb108 := NB245_251.out
                                    have hnc108 := NB251_245.out
                                    have hnb109 := NB245_252.out
                                    have hnc109 := NB252_245.out
                                    have hcz110_0 : wc.cell? ⟨gb245, 0, none⟩ = some (.int .i64 t241) := (blk_cell BK245.out 0).trans rfl
                                    have hcz110_1 : wc.cell? ⟨gb245, 1, none⟩ = some (.int .i64 t242) := (blk_cell BK245.out 1).trans rfl
                                    have hfz110_0 := blk_frozen BK245.out 0
                                    have hfz110_1 := blk_frozen BK245.out 1
                                    have hnb111 := NB244_234.out
                                    have hnc111 := NB234_244.out
                                    have hnb112 := NB244_251.out
                                    have hnc112 := NB251_244.out
                                    have hnb113 := NB244_252.out
                                    have hnc113 := NB252_244.out
                                    have hcz114_0 : wc.cell? ⟨gb244, 0, none⟩ = some (.int .i64 x245000_35) := (blk_cell BK244.out 0).trans rfl
                                    have hcz114_1 : wc.cell? ⟨gb244, 1, none⟩ = some (.int .i64 x245001_35) := (blk_cell BK244.out 1).trans rfl
                                    have hfz114_0 := blk_frozen BK244.out 0
                                    have hfz114_1 := blk_frozen BK244.out 1
                                    try go_wp2_with (first | (go_at_call 71; (with_reducible refine (impl_part_less.calls t241 t242 x245000_35 x245001_35 false _ A74.out).mono ?_); rintro e w115 ⟨rfl, hb⟩; have n0_ := Aside0.mk (Kd.R_below (by (with_reducible repeat (first | apply Kd.R_alloc | apply Kd.R_drewN | apply Kd.R_drew)); exact HO_12.out) hb); have n1_ := Aside0.mk (blk_below (g := gb234) (o := .cells #[.int .i64 ((rd_T100 l0 x60_2).f0), .int .i64 ((rd_T100 l0 x60_2).f1), .int .i64 ((rd_T100 l0 x60_2).f2), .int .i64 ((rd_T100 l0 x60_2).f3), .int .i64 ((rd_T100 l0 x60_2).f4)] 100 (0, 0)) (by (with_reducible repeat (first | refine blk_drewN ?_ _ | refine blk_drew ?_ | refine blk_alloc ?_ _)); exact BK234.out) hb); have n2_ := Aside0.mk (blk_below (g := gb244) (o := .cells #[.int .i64 x245000_35, .int .i64 x245001_35] 115 (0, 0)) (by (with_reducible repeat (first | refine blk_drewN ?_ _ | refine blk_drew ?_ | refine blk_alloc ?_ _)); exact BK244.out) hb); have n3_ := Aside0.mk (blk_below (g := gb245) (o := .cells #[.int .i64 t241, .int .i64 t242] 115 (0, 0)) (by (with_reducible repeat (first | refine blk_drewN ?_ _ | refine blk_drew ?_ | refine blk_alloc ?_ _)); exact BK245.out) hb); have n4_ := Aside0.mk (blk_below (g := gb251) (o := .cells #[.int .i64 t246, .int .i64 t247] 115 (0, 0)) (by (with_reducible repeat (first | refine blk_drewN ?_ _ | refine blk_drew ?_ | refine blk_alloc ?_ _)); exact BK251.out) hb); have n5_ := Aside0.mk (blk_below (g := gb252) (o := .cells #[.int .i64 t248, .int .i64 t249] 115 (0, 0)) (by (with_reducible repeat (first | refine blk_drewN ?_ _ | refine blk_drew ?_ | refine blk_alloc ?_ _)); exact BK252.out) hb); have n6_ := Aside0.mk (below_step (by repeat (first | (with_reducible first | exact HB.out | apply below_alloc | apply pw_below_drewN | apply below_drew1 | refine below_set ?_ GE234.out | refine below_set ?_ GE244.out | refine below_set ?_ GE245.out | refine below_set ?_ GE251.out | refine below_set ?_ GE252.out) | exact HB.out)) hb); clear HO_12; clear BK234; clear BK244; clear BK245; clear BK251; clear BK252; clear HB; have HO_12 := n0_; have BK234 := n1_; have BK244 := n2_; have BK245 := n3_; have BK251 := n4_; have BK252 := n5_; have HB := n6_; clear n0_ n1_ n2_ n3_ n4_ n5_ n6_; (try clear hb); (try clear hb2); (try clear hk); (try clear hi); have hnb116 := NB252_234.out; have hnc116 := NB234_252.out; have hnb117 := NB252_251.out; have hnc117 := NB251_252.out; have hcz118_0 : w115.cell? ⟨gb252, 0, none⟩ = some (.int .i64 t248) := (blk_cell BK252.out 0).trans rfl; have hcz118_1 : w115.cell? ⟨gb252, 1, none⟩ = some (.int .i64 t249) := (blk_cell BK252.out 1).trans rfl; have hfz118_0 := blk_frozen BK252.out 0; have hfz118_1 := blk_frozen BK252.out 1; have hcz119_0 : w115.cell? ⟨gb244, 0, none⟩ = some (.int .i64 x245000_35) := (blk_cell BK244.out 0).trans rfl; have hcz119_1 : w115.cell? ⟨gb244, 1, none⟩ = some (.int .i64 x245001_35) := (blk_cell BK244.out 1).trans rfl; have hfz119_0 := blk_frozen BK244.out 0; have hfz119_1 := blk_frozen BK244.out 1) | (go_at_call 71; (with_reducible refine (impl_part_less.calls t248 t249 x245000_35 x245001_35 false _ A86.out).mono ?_); rintro e w120 ⟨rfl, hb⟩; have n0_ := Aside0.mk (Kd.R_below (by (with_reducible repeat (first | apply Kd.R_alloc | apply Kd.R_drewN | apply Kd.R_drew)); exact HO_12.out) hb); have n1_ := Aside0.mk (blk_below (g := gb234) (o := .cells #[.int .i64 ((rd_T100 l0 x60_2).f0), .int .i64 ((rd_T100 l0 x60_2).f1), .int .i64 ((rd_T100 l0 x60_2).f2), .int .i64 ((rd_T100 l0 x60_2).f3), .int .i64 ((rd_T100 l0 x60_2).f4)] 100 (0, 0)) (by (with_reducible repeat (first | refine blk_drewN ?_ _ | refine blk_drew ?_ | refine blk_alloc ?_ _)); exact BK234.out) hb); have n2_ := Aside0.mk (blk_below (g := gb244) (o := .cells #[.int .i64 x245000_35, .int .i64 x245001_35] 115 (0, 0)) (by (with_reducible repeat (first | refine blk_drewN ?_ _ | refine blk_drew ?_ | refine blk_alloc ?_ _)); exact BK244.out) hb); have n3_ := Aside0.mk (blk_below (g := gb245) (o := .cells #[.int .i64 t241, .int .i64 t242] 115 (0, 0)) (by (with_reducible repeat (first | refine blk_drewN ?_ _ | refine blk_drew ?_ | refine blk_alloc ?_ _)); exact BK245.out) hb); have n4_ := Aside0.mk (blk_below (g := gb251) (o := .cells #[.int .i64 t246, .int .i64 t247] 115 (0, 0)) (by (with_reducible repeat (first | refine blk_drewN ?_ _ | refine blk_drew ?_ | refine blk_alloc ?_ _)); exact BK251.out) hb); have n5_ := Aside0.mk (blk_below (g := gb252) (o := .cells #[.int .i64 t248, .int .i64 t249] 115 (0, 0)) (by (with_reducible repeat (first | refine blk_drewN ?_ _ | refine blk_drew ?_ | refine blk_alloc ?_ _)); exact BK252.out) hb); have n6_ := Aside0.mk (below_step (by repeat (first | (with_reducible first | exact HB.out | apply below_alloc | apply pw_below_drewN | apply below_drew1 | refine below_set ?_ GE234.out | refine below_set ?_ GE244.out | refine below_set ?_ GE245.out | refine below_set ?_ GE251.out | refine below_set ?_ GE252.out) | exact HB.out)) hb); clear HO_12; clear BK234; clear BK244; clear BK245; clear BK251; clear BK252; clear HB; have HO_12 := n0_; have BK234 := n1_; have BK244 := n2_; have BK245 := n3_; have BK251 := n4_; have BK252 := n5_; have HB := n6_; clear n0_ n1_ n2_ n3_ n4_ n5_ n6_; (try clear hb); (try clear hb2); (try clear hk); (try clear hi); have hcz121_0 : w120.cell? ⟨gb244, 0, none⟩ = some (.int .i64 x245000_35) := (blk_cell BK244.out 0).trans rfl; have hcz121_1 : w120.cell? ⟨gb244, 1, none⟩ = some (.int .i64 x245001_35) := (blk_cell BK244.out 1).trans rfl; have hfz121_0 := blk_frozen BK244.out 0; have hfz121_1 := blk_frozen BK244.out 1) | ((with_reducible refine gate_callee (f := 72) rfl ?_); refine goesL_ (some 117) rfl rfl Try.func72 (by kernel_rfl) rfl #[.int .i64 x245000_35, .int .i64 x245001_35] rfl (by (try simp only [List.map_toArray, List.map_cons, List.map_nil]); first | done | rfl | (simp only [List.length_drop, List.length_take]; rfl)) ?_; (with_reducible refine (impl_common.calls kj35 x245000_35 x245001_35 t256 _ A103.out).mono ?_); rintro e w' ⟨rfl, ⟨nd, rfl⟩⟩; refine ⟨_, rfl, ?_⟩))
                                    (try (rw [drewN_self w120]; generalize hq_ : World.drewN w120 _ = w120; have n0_ : Aside0 (Kd.R k109 109 w120 w.heap.size (fun _ => True) u12 x12_2) := ⟨by rw [← hq_]; exact (by (with_reducible repeat (first | apply Kd.R_alloc | apply Kd.R_drewN | apply Kd.R_drew)); exact HO_12.out)⟩; have n1_ : Aside0 (w120.heap[gb234]? = some (.cells #[.int .i64 ((rd_T100 l0 x60_2).f0), .int .i64 ((rd_T100 l0 x60_2).f1), .int .i64 ((rd_T100 l0 x60_2).f2), .int .i64 ((rd_T100 l0 x60_2).f3), .int .i64 ((rd_T100 l0 x60_2).f4)] 100 (0, 0))) := ⟨by rw [← hq_]; exact (by (with_reducible repeat (first | refine blk_drewN ?_ _ | refine blk_drew ?_ | refine blk_alloc ?_ _)); exact BK234.out)⟩; have n2_ : Aside0 (w120.heap[gb244]? = some (.cells #[.int .i64 x245000_35, .int .i64 x245001_35] 115 (0, 0))) := ⟨by rw [← hq_]; exact (by (with_reducible repeat (first | refine blk_drewN ?_ _ | refine blk_drew ?_ | refine blk_alloc ?_ _)); exact BK244.out)⟩; have n3_ : Aside0 (w120.heap[gb245]? = some (.cells #[.int .i64 t241, .int .i64 t242] 115 (0, 0))) := ⟨by rw [← hq_]; exact (by (with_reducible repeat (first | refine blk_drewN ?_ _ | refine blk_drew ?_ | refine blk_alloc ?_ _)); exact BK245.out)⟩; have n4_ : Aside0 (w120.heap[gb251]? = some (.cells #[.int .i64 t246, .int .i64 t247] 115 (0, 0))) := ⟨by rw [← hq_]; exact (by (with_reducible repeat (first | refine blk_drewN ?_ _ | refine blk_drew ?_ | refine blk_alloc ?_ _)); exact BK251.out)⟩; have n5_ : Aside0 (w120.heap[gb252]? = some (.cells #[.int .i64 t248, .int .i64 t249] 115 (0, 0))) := ⟨by rw [← hq_]; exact (by (with_reducible repeat (first | refine blk_drewN ?_ _ | refine blk_drew ?_ | refine blk_alloc ?_ _)); exact BK252.out)⟩; have n6_ : Aside0 (Below w.heap.size w w120) := ⟨by rw [← hq_]; exact (by repeat (first | (with_reducible first | exact HB.out | apply below_alloc | apply pw_below_drewN | apply below_drew1 | refine below_set ?_ GE234.out | refine below_set ?_ GE244.out | refine below_set ?_ GE245.out | refine below_set ?_ GE251.out | refine below_set ?_ GE252.out) | exact HB.out))⟩; clear HO_12 BK234 BK244 BK245 BK251 BK252 HB hq_; have HO_12 := n0_; have BK234 := n1_; have BK244 := n2_; have BK245 := n3_; have BK251 := n4_; have BK252 := n5_; have HB := n6_; clear n0_ n1_ n2_ n3_ n4_ n5_ n6_))
                                    have n0_ := Aside0.mk (Kd.R_drew HO_12.out)
                                    have n1_ := Aside0.mk (blk_drew BK234.out)
                                    have n2_ := Aside0.mk (blk_drew BK244.out)
                                    have n3_ := Aside0.mk (blk_drew BK245.out)
                                    have n4_ := Aside0.mk (blk_drew BK251.out)
                                    have n5_ := Aside0.mk (blk_drew BK252.out)
                                    have n6_ := Aside0.mk (below_drew1 HB.out)
                                    clear HO_12
                                    clear BK234
                                    clear BK244
                                    clear BK245
                                    clear BK251
                                    clear BK252
                                    clear HB
                                    have HO_12 := n0_
                                    have BK234 := n1_
                                    have BK244 := n2_
                                    have BK245 := n3_
                                    have BK251 := n4_
                                    have BK252 := n5_
                                    have HB := n6_
                                    clear n0_ n1_ n2_ n3_ n4_ n5_ n6_
                                    refine start_ (n := 14) (S := fun w' => w'.cell? ⟨gb244, 0, none⟩ = some (.int .i64 x245000_35) ∧ w'.cell? ⟨gb244, 1, none⟩ = some (.int .i64 x245001_35)) (ds := []) #[false, false, false, false, false, false, false, false, false, false, false, false, false, false] (by kernel_rfl) rfl rfl ⟨(blk_cell BK244.out 0).trans rfl, (blk_cell BK244.out 1).trans rfl⟩ (fun hHeld => ?_); refine with_tabW impl_RayMeets.tab15 impl_RayMeets.bits15 (fun HT_ HW_ => ?_)
                                    generalize w120.drew = w122 at HO_12 BK234 BK244 BK245 BK251 BK252 HB hHeld ⊢
                                    refine pure_ (i := 0) (N := some 118) (v := ?_) (a' := ?_) #[true, false, false, false, false, false, false, false, false, false, false, false, false, false] rfl rfl (any_of HT_.out (by kernel_rfl)) (fun _ _ _ h => h) (Or.inl ⟨by rfl, ?_⟩) ?_ ?_
                                    rotate_left; (· (intro w'; go_simp; with_reducible rfl)); rotate_left; (· (simp only [Act.put, List.setIfInBounds_toArray, List.set_cons_zero, List.set_cons_succ, i64_w, i32_w]; rfl))
                                    refine pure_ (i := 1) (N := some 119) (v := ?_) (a' := ?_) #[true, true, false, false, false, false, false, false, false, false, false, false, false, false] rfl rfl (any_of HT_.out (by kernel_rfl)) (fun _ _ _ h => h) (Or.inl ⟨by rfl, ?_⟩) ?_ ?_
                                    rotate_left; (· (intro w'; go_simp; with_reducible rfl)); rotate_left; (· (simp only [Act.put, List.setIfInBounds_toArray, List.set_cons_zero, List.set_cons_succ, i64_w, i32_w]; rfl))
                                    refine pure_ (i := 2) (N := some 120) (v := ?_) (a' := ?_) #[true, true, true, false, false, false, false, false, false, false, false, false, false, false] rfl rfl (any_of HT_.out (by kernel_rfl)) (fun _ _ _ h => h) (Or.inl ⟨by rfl, ?_⟩) ?_ ?_
                                    rotate_left; (· (intro w'; go_simp; with_reducible rfl)); rotate_left; (· (simp only [Act.put, List.setIfInBounds_toArray, List.set_cons_zero, List.set_cons_succ, i64_w, i32_w]; rfl))
                                    refine pure_ (i := 4) (N := some 122) (v := ?_) (a' := ?_) #[true, true, true, false, true, false, false, false, false, false, false, false, false, false] rfl rfl (any_of HT_.out (by kernel_rfl)) (fun _ _ _ h => h) (Or.inl ⟨by rfl, ?_⟩) ?_ ?_
                                    rotate_left; (· (intro w'; go_simp; with_reducible rfl)); rotate_left; (· (simp only [Act.put, List.setIfInBounds_toArray, List.set_cons_zero, List.set_cons_succ, i64_w, i32_w]; rfl))
                                    refine pure_ (i := 6) (N := some 124) (v := ?_) (a' := ?_) #[true, true, true, false, true, false, true, false, false, false, false, false, false, false] rfl rfl (any_of HT_.out (by kernel_rfl)) (fun _ _ _ h => h) (Or.inl ⟨by rfl, ?_⟩) ?_ ?_
                                    rotate_left; (· (intro w'; go_simp; with_reducible rfl)); rotate_left; (· (simp only [Act.put, List.setIfInBounds_toArray, List.set_cons_zero, List.set_cons_succ, i64_w, i32_w]; rfl))
                                    refine pure_ (i := 8) (N := some 126) (v := ?_) (a' := ?_) #[true, true, true, false, true, false, true, false, true, false, false, false, false, false] rfl rfl (any_of HT_.out (by kernel_rfl)) (fun _ _ _ h => h) (Or.inl ⟨by rfl, ?_⟩) ?_ ?_
                                    rotate_left; (· (intro w'; go_simp; with_reducible rfl)); rotate_left; (· (simp only [Act.put, List.setIfInBounds_toArray, List.set_cons_zero, List.set_cons_succ, i64_w, i32_w]; rfl))
                                    refine take_ (i := 3) (N := some 121) (v := ?_) (a' := ?_) #[true, true, true, true, true, false, true, false, true, false, false, false, false, false] rfl rfl (take_ofW HT_.out HW_.out (by kernel_rfl)) (fun _ _ _ h => h) (Or.inl ⟨by rfl, ?_⟩) hHeld ?_ ?_
                                    rotate_left; (· (rintro w' ⟨s0, s1⟩; go_simp; with_reducible rfl)); rotate_left; (· (simp only [Act.put, List.setIfInBounds_toArray, List.set_cons_zero, List.set_cons_succ, i64_w, i32_w]; rfl))
                                    refine pure_ (i := 5) (N := some 123) (v := ?_) (a' := ?_) #[true, true, true, true, true, true, true, false, true, false, false, false, false, false] rfl rfl (any_of HT_.out (by kernel_rfl)) (fun _ _ _ h => h) (Or.inl ⟨by rfl, ?_⟩) ?_ ?_
                                    rotate_left; (· (intro w'; go_simp; with_reducible rfl)); rotate_left; (· (simp only [Act.put, List.setIfInBounds_toArray, List.set_cons_zero, List.set_cons_succ, i64_w, i32_w]; rfl))
                                    refine take_ (i := 7) (N := some 125) (v := ?_) (a' := ?_) #[true, true, true, true, true, true, true, true, true, false, false, false, false, false] rfl rfl (take_ofW HT_.out HW_.out (by kernel_rfl)) (fun _ _ _ h => h) (Or.inl ⟨by rfl, ?_⟩) hHeld ?_ ?_
                                    rotate_left; (· (rintro w' ⟨s0, s1⟩; go_simp; with_reducible rfl)); rotate_left; (· (simp only [Act.put, List.setIfInBounds_toArray, List.set_cons_zero, List.set_cons_succ, i64_w, i32_w]; rfl))
                                    refine pure_ (i := 9) (N := some 127) (v := ?_) (a' := ?_) #[true, true, true, true, true, true, true, true, true, true, false, false, false, false] rfl rfl (any_of HT_.out (by kernel_rfl)) (fun _ _ _ h => h) (Or.inl ⟨by rfl, ?_⟩) ?_ ?_
                                    rotate_left; (· (intro w'; go_simp; with_reducible rfl)); rotate_left; (· (simp only [Act.put, List.setIfInBounds_toArray, List.set_cons_zero, List.set_cons_succ, i64_w, i32_w]; rfl))
                                    refine pure_ (i := 10) (N := some 128) (v := ?_) (a' := ?_) #[true, true, true, true, true, true, true, true, true, true, true, false, false, false] rfl rfl (any_of HT_.out (by kernel_rfl)) (fun _ _ _ h => h) (Or.inl ⟨by rfl, ?_⟩) ?_ ?_
                                    rotate_left; (· (intro w'; go_simp; with_reducible rfl)); rotate_left; (· (simp only [Act.put, List.setIfInBounds_toArray, List.set_cons_zero, List.set_cons_succ, i64_w, i32_w]; rfl))
                                    refine one_ (i := 11) (N := some 129) #[true, true, true, true, true, true, true, true, true, true, true, true, false, false] rfl rfl (one_of HT_.out (by kernel_rfl)) (by decide) (fun K hK => ?_)
                                    refine value_ (w1 := ?_) (v := ?_) (by rfl) rfl ?_ ?_
                                    rotate_left 2
                                    · go_simp
                                      constructor
                                      · rfl
                                      · rfl
                                    refine hK.out _ _ ⟨(blk_cell (blk_alloc BK244.out _) 0).trans rfl, (blk_cell (blk_alloc BK244.out _) 1).trans rfl⟩ (fun hHeld => ?_)
                                    clear hK K
                                    refine norm_ (a' := ?_) ?_ ?_
                                    rotate_left
                                    · show Act.put _ (some 129) _ = _
                                      simp only [Act.put, List.setIfInBounds_toArray, List.set_cons_zero, List.set_cons_succ, i64_w, i32_w]
                                      rfl
                                    refine one_ (i := 12) (N := some 130) #[true, true, true, true, true, true, true, true, true, true, true, true, true, false] rfl rfl (one_of HT_.out (by kernel_rfl)) (by decide) (fun K hK => ?_)
                                    refine Kd.R_append_step k109 (w0 := w) w.heap.size (by rfl) (.tmp 118) (.tmp 129) 52 109 (.agg #[(.int .i64 0), (.int .i64 0), (.int .i64 0)]) 24 rfl Try.underlying52 info109 rfl (by decide) (by omega) u12 x12_2 (⟨x60_2, wrap64 (Int.tdiv x245000_35 t256), wrap64 (Int.tdiv x245001_35 t256)⟩ : S109) [.int .i64 x60_2, .int .i64 (wrap64 (Int.tdiv x245000_35 t256)), .int .i64 (wrap64 (Int.tdiv x245001_35 t256))] (fun _ => True) (fun _ => False) rfl rfl ?aP (fun _ hk => hk.elim) ?aF ?aO ?aB ?aS ?aL ?_
                                    (case aP => exact k109_mkM _ _ _ (⟨x60_2, wrap64 (Int.tdiv x245000_35 t256), wrap64 (Int.tdiv x245001_35 t256)⟩ : S109))
                                    (case aB => exact (by repeat (first | (with_reducible first | exact HB.out | apply below_alloc | apply pw_below_drewN | apply below_drew1 | refine below_set ?_ GE234.out | refine below_set ?_ GE244.out | refine below_set ?_ GE245.out | refine below_set ?_ GE251.out | refine below_set ?_ GE252.out) | exact HB.out)))
                                    (case aF => exact (fun _ _ => trivial))
                                    (case aO => exact (by (with_reducible repeat (first | apply Kd.R_alloc | apply Kd.R_drewN | apply Kd.R_drew)); exact HO_12.out))
                                    (case aS => exact (below_size (by repeat (first | (with_reducible first | exact HB.out | apply below_alloc | apply pw_below_drewN | apply below_drew1 | refine below_set ?_ GE234.out | refine below_set ?_ GE244.out | refine below_set ?_ GE245.out | refine below_set ?_ GE251.out | refine below_set ?_ GE252.out) | exact HB.out))))
                                    (case aL => have := LMc105.out; omega)
                                    intro v258 w123 ho hb hg hat
                                    rw [← Ny257.out] at ho
                                    have n0_ := Aside0.mk (blk_grown (g := gb234) (o := .cells #[.int .i64 ((rd_T100 l0 x60_2).f0), .int .i64 ((rd_T100 l0 x60_2).f1), .int .i64 ((rd_T100 l0 x60_2).f2), .int .i64 ((rd_T100 l0 x60_2).f3), .int .i64 ((rd_T100 l0 x60_2).f4)] 100 (0, 0)) (by (with_reducible repeat (first | refine blk_drewN ?_ _ | refine blk_drew ?_ | refine blk_alloc ?_ _)); exact BK234.out) hg (Kd.R_ne HO_12.out BK234.out (by decide)))
                                    have n1_ := Aside0.mk (blk_grown (g := gb244) (o := .cells #[.int .i64 x245000_35, .int .i64 x245001_35] 115 (0, 0)) (by (with_reducible repeat (first | refine blk_drewN ?_ _ | refine blk_drew ?_ | refine blk_alloc ?_ _)); exact BK244.out) hg (Kd.R_ne HO_12.out BK244.out (by decide)))
                                    have n2_ := Aside0.mk (blk_grown (g := gb245) (o := .cells #[.int .i64 t241, .int .i64 t242] 115 (0, 0)) (by (with_reducible repeat (first | refine blk_drewN ?_ _ | refine blk_drew ?_ | refine blk_alloc ?_ _)); exact BK245.out) hg (Kd.R_ne HO_12.out BK245.out (by decide)))
                                    have n3_ := Aside0.mk (blk_grown (g := gb251) (o := .cells #[.int .i64 t246, .int .i64 t247] 115 (0, 0)) (by (with_reducible repeat (first | refine blk_drewN ?_ _ | refine blk_drew ?_ | refine blk_alloc ?_ _)); exact BK251.out) hg (Kd.R_ne HO_12.out BK251.out (by decide)))
                                    have n4_ := Aside0.mk (blk_grown (g := gb252) (o := .cells #[.int .i64 t248, .int .i64 t249] 115 (0, 0)) (by (with_reducible repeat (first | refine blk_drewN ?_ _ | refine blk_drew ?_ | refine blk_alloc ?_ _)); exact BK252.out) hg (Kd.R_ne HO_12.out BK252.out (by decide)))
                                    have n5_ := Aside0.mk (hb)
                                    have n6_ := Aside0.mk (ho)
                                    clear BK234
                                    clear BK244
                                    clear BK245
                                    clear BK251
                                    clear BK252
                                    clear HB
                                    clear HO_12
                                    have BK234 := n0_
                                    have BK244 := n1_
                                    have BK245 := n2_
                                    have BK251 := n3_
                                    have BK252 := n4_
                                    have HB := n5_
                                    have HO259 := n6_
                                    clear n0_ n1_ n2_ n3_ n4_ n5_ n6_
                                    clear ho hb hg hat
                                    refine hK.out _ _ ⟨(blk_cell BK244.out 0).trans rfl, (blk_cell BK244.out 1).trans rfl⟩ (fun hHeld => ?_)
                                    clear hK K
                                    refine norm_ (a' := ?_) ?_ ?_
                                    rotate_left
                                    · show Act.put _ (some 130) _ = _
                                      simp only [Act.put, List.setIfInBounds_toArray, List.set_cons_zero, List.set_cons_succ, i64_w, i32_w]
                                      rfl
                                    refine pure_ (i := 13) (N := some 12) (v := ?_) (a' := ?_) #[true, true, true, true, true, true, true, true, true, true, true, true, true, true] rfl rfl (any_of HT_.out (by kernel_rfl)) (fun _ _ _ h => h) (Or.inl ⟨by rfl, ?_⟩) ?_ ?_
                                    rotate_left; (· (intro w'; go_simp; with_reducible rfl)); rotate_left; (· (simp only [Act.put, List.setIfInBounds_toArray, List.set_cons_zero, List.set_cons_succ, i64_w, i32_w]; rfl))
                                    refine done_ (done_of HT_.out (by kernel_rfl)) ?_
                                    try go_wp2
                                    go_roundg kj35
                                    case measure => have := HJ5.out; have := HK2.out; have := HJ35.out; omega
                                    case rel => exact ⟨(y257), (wrap64 (x60_2 + 1)), (by first | rfl | (simp; done) | (simp [*]; done)), H', ⟨by have := HJ5.out; have := HK2.out; have := HJ35.out; omega⟩, ⟨by (with_reducible repeat (first | apply Kd.R_alloc | apply Kd.R_drewN | apply Kd.R_drew)); exact HO259.out⟩, ⟨by repeat (first | (with_reducible first | exact HB.out | apply below_alloc | apply pw_below_drewN | apply below_drew1 | refine below_set ?_ GE234.out | refine below_set ?_ GE244.out | refine below_set ?_ GE245.out | refine below_set ?_ GE251.out | refine below_set ?_ GE252.out) | exact HB.out)⟩⟩
                                  · rw [if_neg c105] at H
                                    exact absurd H (by simp)
                          · replace c73 := Bool.eq_false_iff.mpr c73
                            subst c73
                            have H1 : (impl_RayMeets.l0 kj35 a1 a2 a3 a4 x12_2 l0 (l0.length : Int) (wrap64 (x60_2 + 1))) = some (r1, r2) := by rw [if_neg (show ¬ (false = true) by decide)] at H; exact H
                            clear H
                            have H := H1
                            clear H1
                            have H' := Aside0.mk H
                            clear H
                            go_wp2
                            go_roundg kj35
                            case measure => have := HJ5.out; have := HK2.out; have := HJ35.out; omega
                            case rel => exact ⟨(x12_2), (wrap64 (x60_2 + 1)), (by first | rfl | (simp; done) | (simp [*]; done)), H', ⟨by have := HJ5.out; have := HK2.out; have := HJ35.out; omega⟩, ⟨by (with_reducible repeat (first | apply Kd.R_alloc | apply Kd.R_drewN | apply Kd.R_drew)); exact HO_12.out⟩, ⟨by repeat (first | (with_reducible first | exact HB.out | apply below_alloc | apply pw_below_drewN | apply below_drew1 | refine below_set ?_ GE234.out | refine below_set ?_ GE244.out | refine below_set ?_ GE245.out | refine below_set ?_ GE251.out | refine below_set ?_ GE252.out) | exact HB.out)⟩⟩
                        · replace c72 := Bool.eq_false_iff.mpr c72
                          subst c72
                          have H1 : (impl_RayMeets.l0 kj35 a1 a2 a3 a4 x12_2 l0 (l0.length : Int) (wrap64 (x60_2 + 1))) = some (r1, r2) := by rw [if_neg (show ¬ (false = true) by decide)] at H; exact H
                          clear H
                          have H := H1
                          clear H1
                          have H' := Aside0.mk H
                          clear H
                          go_wp2
                          go_roundg kj35
                          case measure => have := HJ5.out; have := HK2.out; have := HJ35.out; omega
                          case rel => exact ⟨(x12_2), (wrap64 (x60_2 + 1)), (by first | rfl | (simp; done) | (simp [*]; done)), H', ⟨by have := HJ5.out; have := HK2.out; have := HJ35.out; omega⟩, ⟨by (with_reducible repeat (first | apply Kd.R_alloc | apply Kd.R_drewN | apply Kd.R_drew)); exact HO_12.out⟩, ⟨by repeat (first | (with_reducible first | exact HB.out | apply below_alloc | apply pw_below_drewN | apply below_drew1 | refine below_set ?_ GE234.out | refine below_set ?_ GE244.out | refine below_set ?_ GE245.out | refine below_set ?_ GE251.out | refine below_set ?_ GE252.out) | exact HB.out)⟩⟩
                  · rw [if_neg c31] at H
                    have c31b0 : (((rd_T100 l0 x60_2).f0) == 1) = false := beq_eq_false_iff_ne.mpr c31
                    have c31b1 : (((rd_T100 l0 x60_2).f0) != 1) = true := bne_iff_ne.mpr c31
                    have H' := Aside0.mk H
                    clear H
                    have p233 : 0 ≤ (x60_2 : Int) := of_decide_eq_true (by first | (with_reducible assumption) | assumption)
                    have q233 : x60_2 < (l0.length : Int) := of_decide_eq_true (by first | (with_reducible assumption) | assumption)
                    obtain ⟨ad233, e233, hx233_0, hx233_1, hx233_2, hx233_3, hx233_4⟩ := at_T100 HR0.out x60_2 p233 q233
                    cases e233
                    replace hx233_0 := (HB.out.cell (World.block_lt_of_cell? w _ hx233_0)).trans hx233_0
                    replace hx233_1 := (HB.out.cell (World.block_lt_of_cell? w _ hx233_1)).trans hx233_1
                    replace hx233_2 := (HB.out.cell (World.block_lt_of_cell? w _ hx233_2)).trans hx233_2
                    replace hx233_3 := (HB.out.cell (World.block_lt_of_cell? w _ hx233_3)).trans hx233_3
                    replace hx233_4 := (HB.out.cell (World.block_lt_of_cell? w _ hx233_4)).trans hx233_4
                    replace p233 := eq_true p233
                    replace q233 := eq_true q233
                    go_wp2_with (first | ((with_reducible refine gate_dst (N := 14) rfl ?_); refine box_event ?hg (N := 14) ?hd (cs := #[.int .i64 0, .int .i64 0, .int .i64 0, .int .i64 0, .int .i64 0]) (t := 100) ?hr ?_; (case hd => rfl); (case hg => rfl); (case hr => first | (go_simp; done) | (go_simp; rfl)); intro gb234 hg w124 hbox hb; have n0_ := Aside0.mk (Kd.R_below (by (with_reducible repeat (first | apply Kd.R_alloc | apply Kd.R_drewN | apply Kd.R_drew)); exact HO_12.out) hb); have n1_ := Aside0.mk (below_step (by repeat (first | (with_reducible first | exact HB.out | apply below_alloc | apply pw_below_drewN | apply below_drew1) | exact HB.out)) hb); have n2_ := Aside0.mk (hbox); have n3_ := Aside0.mk ((by rw [hg]; exact (below_size (by repeat (first | (with_reducible first | exact HB.out | apply below_alloc | apply pw_below_drewN | apply below_drew1) | exact HB.out))) : w.heap.size ≤ gb234)); have n4_ := Aside0.mk ((by rw [hg]; exact (below_size (by repeat (first | (with_reducible first | exact HB.out | apply below_alloc | apply pw_below_drewN | apply below_drew1) | exact HB.out))) : w.heap.size ≤ gb234)); clear HO_12; clear HB; have HO_12 := n0_; have HB := n1_; have BK234 := n2_; have GW234 := n3_; have GE234 := n4_; clear n0_ n1_ n2_ n3_ n4_; clear hb hbox hg; have hcz125_0 : w124.cell? ⟨gb234, 0, none⟩ = some (.int .i64 0) := (blk_cell BK234.out 0).trans rfl; have hcz125_1 : w124.cell? ⟨gb234, 1, none⟩ = some (.int .i64 0) := (blk_cell BK234.out 1).trans rfl; have hcz125_2 : w124.cell? ⟨gb234, 2, none⟩ = some (.int .i64 0) := (blk_cell BK234.out 2).trans rfl; have hcz125_3 : w124.cell? ⟨gb234, 3, none⟩ = some (.int .i64 0) := (blk_cell BK234.out 3).trans rfl; have hcz125_4 : w124.cell? ⟨gb234, 4, none⟩ = some (.int .i64 0) := (blk_cell BK234.out 4).trans rfl; have hfz125_0 := blk_frozen BK234.out 0; have hfz125_1 := blk_frozen BK234.out 1; have hfz125_2 := blk_frozen BK234.out 2; have hfz125_3 := blk_frozen BK234.out 3; have hfz125_4 := blk_frozen BK234.out 4))
                    go_roundg k2
                    case measure => have := HJ5.out; have := HK2.out; omega
                    case rel => exact ⟨(x12_2), (wrap64 (x60_2 + 1)), (by first | rfl | (simp; done) | (simp [*]; done)), H', ⟨by have := HJ5.out; have := HK2.out; omega⟩, ⟨by (with_reducible repeat (first | apply Kd.R_alloc | apply Kd.R_drewN | apply Kd.R_drew)); exact Kd.R_mono (Kd.R_far (p := ⟨gb234, 4, none⟩) (Kd.R_far (p := ⟨gb234, 3, none⟩) (Kd.R_far (p := ⟨gb234, 2, none⟩) (Kd.R_far (p := ⟨gb234, 1, none⟩) (Kd.R_far (p := ⟨gb234, 0, none⟩) (Kd.R_types HO_12.out BK234.out (by decide)) (fun _ hk => hk.2) (.int .i64 ((rd_T100 l0 x60_2).f0))) (fun _ hk => hk.2) (.int .i64 ((rd_T100 l0 x60_2).f1))) (fun _ hk => hk.2) (.int .i64 ((rd_T100 l0 x60_2).f2))) (fun _ hk => hk.2) (.int .i64 ((rd_T100 l0 x60_2).f3))) (fun _ hk => hk.2) (.int .i64 ((rd_T100 l0 x60_2).f4))) (fun _ hk => trivial)⟩, ⟨by repeat (first | (with_reducible first | exact HB.out | apply below_alloc | apply pw_below_drewN | apply below_drew1 | refine below_set ?_ GE234.out) | exact HB.out)⟩⟩
                · rw [if_neg c30] at H
                  exact absurd H (by simp)
              · rw [if_neg c29] at H
                exact absurd H (by simp)
            · rw [if_neg c28] at H
              have c28b0 : decide (x60_2 < (l0.length : Int)) = false := decide_eq_false c28
              clear c28
              replace H := Option.bind_eq_some_iff.mp H
              obtain ⟨t230, A1260, H⟩ := H
              replace H : (some (t230, true)) = some (r1, r2) := H
              have A126 := Aside0.mk A1260
              clear A1260
              simp only [Option.some.injEq, Prod.mk.injEq] at H
              obtain ⟨rfl, rfl⟩ := H
              obtain ⟨Ao127, co127, eo127⟩ := Kd.R_slice HO_12.out
              subst eo127
              go_wp2_with (first | ((with_reducible refine gate_callee (f := 73) rfl ?_); refine goesL_ (some 133) rfl rfl Try.func73 (by kernel_rfl) rfl #[.slice Ao127 x12_2.length co127, .func (.func 74) #[] #[]] rfl (by (try simp only [List.map_toArray, List.map_cons, List.map_nil]); first | done | rfl | (simp only [List.length_drop, List.length_take]; rfl)) ?_; refine (impl_Meet_73.real (.slice Ao127 x12_2.length co127) x12_2 t230 w _ (by repeat (first | (with_reducible first | exact HB.out | apply below_alloc | apply pw_below_drewN | apply below_drew1) | exact HB.out)) (by (with_reducible repeat (first | apply Kd.R_alloc | apply Kd.R_drewN | apply Kd.R_drew)); exact HO_12.out) A126.out).mono ?_; rintro e w128 ⟨rfl, ho0, hb⟩; refine ⟨_, rfl, ?_⟩; clear HO_12; clear HB; have HO232 := Aside0.mk ho0; have HB := Aside0.mk hb; clear ho0 hb))
              go_ret2
              exact ⟨_, by first | rfl | (simp [errW_none, errW_some] <;> rfl) | (simp [*, errW_none, errW_some] <;> rfl), by (with_reducible repeat (first | apply Kd.R_alloc | apply Kd.R_drewN | apply Kd.R_drew)); exact Kd.R_mono HO232.out (fun _ hk => trivial), by repeat (first | (with_reducible first | exact HB.out | apply below_alloc | apply pw_below_drewN | apply below_drew1) | exact HB.out)⟩

end Go.Proofs.Ytiaajmnmbjheoaa.PFnExactRayMeets
