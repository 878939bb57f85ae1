/- The machine's side of a law, function by function: a Lean function with the Go function's answers and the proof that the Go code comes to them. No condition. Written by this session's program over the kit's print, this session's own contracts set in. -/
import Derived.Test.YtiaajmnmbjheoaaPFnExactIslandsOfx0
import Derived.Test.YtiaajmnmbjheoaaPFnExactIslandsOfx1
namespace Go.Proofs.Ytiaajmnmbjheoaa.PFnExactIslandsOf
open Go.RowKit Go.Proofs.YtiaajmnmbjheoaaW.PrintWords Go.Proofs.YtiaajmnmbjheoaaW.PrintLast Go.Proofs.YtiaajmnmbjheoaaW.PrintMore
attribute [local go_sem] max2_int min2_int max_two min_two max_three min_three max_four min_four   -- for this text's walks alone
set_option linter.unusedVariables false
set_option linter.unusedSimpArgs false

/-! ### spec_IslandsOf: function 17 -/
mutual
def spec_IslandsOf.j0 : Nat → Int → List (S90) → Bool → Option ((List (List Int)) × Bool)
  | 0, _, _, _ => none
  | k + 1, x0, x1, x24 => if x24 = true then (some (([] : List (List Int)), false)) else (if 0 ≤ x0 then (if (x0 : Int).toNat ≤ 35184372088832 then ((some (List.replicate (x0 : Int).toNat 0 : List Int)).bind fun y102 => (spec_IslandsOf.l0 k x0 x1 y102 (y102.length : Int) 0)) else (none)) else (none))
def spec_IslandsOf.l0 : Nat → Int → List (S90) → List Int → Int → Int → Option ((List (List Int)) × Bool)
  | 0, _, _, _, _, _ => none
  | k + 1, x0, x1, x6, x28, x29 => if x29 < x28 then (if 0 ≤ x29 then (if x29 < (x6.length : Int) then (spec_IslandsOf.l0 k x0 x1 (x6.set (x29 : Int).toNat x29) x28 (wrap64 (x29 + 1))) else (none)) else (none)) else (spec_IslandsOf.l1 k x0 x6 x1 (x1.length : Int) 0)
def spec_IslandsOf.l1 : Nat → Int → List Int → List (S90) → Int → Int → Option ((List (List Int)) × Bool)
  | 0, _, _, _, _, _ => none
  | k + 1, x0, x6, x37, x38, x39 => if x39 < x38 then (if 0 ≤ x39 then (if x39 < (x37.length : Int) then ((spec_l1In.f ((rd_T90 x37 x39).f0) 0 (wrap64 (x0 - 1))).bind fun t108 => (if t108 = true then ((spec_l1In.f ((rd_T90 x37 x39).f1) (wrap64 (((rd_T90 x37 x39).f0) + 1)) (wrap64 (x0 - 1))).bind fun t109 => (spec_IslandsOf.j3 k x0 x6 x37 x38 x39 (!t109) ((rd_T90 x37 x39).f0) ((rd_T90 x37 x39).f1))) else (spec_IslandsOf.j3 k x0 x6 x37 x38 x39 true ((rd_T90 x37 x39).f0) ((rd_T90 x37 x39).f1)))) else (none)) else (none)) else (spec_IslandsOf.l3 k x6 ([] : List (List Int)) (x6.length : Int) 0)
def spec_IslandsOf.j3 : Nat → Int → List Int → List (S90) → Int → Int → Bool → Int → Int → Option ((List (List Int)) × Bool)
  | 0, _, _, _, _, _, _, _, _ => none
  | k + 1, x0, x6, x37, x38, x39, x59, x108000, x108001 => if x59 = true then (some (([] : List (List Int)), false)) else (if 0 ≤ x108000 then (if x108000 < (x6.length : Int) then (if 0 ≤ x108001 then (if x108001 < (x6.length : Int) then (if (rd x6 x108000) > (rd x6 x108001) then (spec_IslandsOf.j4 k x0 x6 (rd x6 x108001) (rd x6 x108000) x37 x38 x39) else (spec_IslandsOf.j4 k x0 x6 (rd x6 x108000) (rd x6 x108001) x37 x38 x39)) else (none)) else (none)) else (none)) else (none))
def spec_IslandsOf.j4 : Nat → Int → List Int → Int → Int → List (S90) → Int → Int → Option ((List (List Int)) × Bool)
  | 0, _, _, _, _, _, _, _ => none
  | k + 1, x0, x6, x10, x11, x37, x38, x39 => spec_IslandsOf.l2 k x0 x6 x10 x11 x37 x38 x39 (x6.length : Int) 0
def spec_IslandsOf.l2 : Nat → Int → List Int → Int → Int → List (S90) → Int → Int → Int → Int → Option ((List (List Int)) × Bool)
  | 0, _, _, _, _, _, _, _, _, _ => none
  | k + 1, x0, x6, x10, x11, x37, x38, x39, x84, x85 => if x85 < x84 then (if 0 ≤ x85 then (if x85 < (x6.length : Int) then (if (rd x6 x85) = x11 then (spec_IslandsOf.l2 k x0 (x6.set (x85 : Int).toNat x10) x10 x11 x37 x38 x39 x84 (wrap64 (x85 + 1))) else (spec_IslandsOf.l2 k x0 x6 x10 x11 x37 x38 x39 x84 (wrap64 (x85 + 1)))) else (none)) else (none)) else (spec_IslandsOf.l1 k x0 x6 x37 x38 (wrap64 (x39 + 1)))
def spec_IslandsOf.l3 : Nat → List Int → List (List Int) → Int → Int → Option ((List (List Int)) × Bool)
  | 0, _, _, _, _ => none
  | k + 1, x6, x13, x101, x102 => if x102 < x101 then (if 0 ≤ x102 then (if x102 < (x6.length : Int) then (if (rd x6 x102) = x102 then (spec_IslandsOf.l4 k x6 x13 x102 ([] : List Int) x101 x102 (x6.length : Int) 0) else (spec_IslandsOf.l3 k x6 x13 x101 (wrap64 (x102 + 1)))) else (none)) else (none)) else (some (x13, true))
def spec_IslandsOf.l4 : Nat → List Int → List (List Int) → Int → List Int → Int → Int → Int → Int → Option ((List (List Int)) × Bool)
  | 0, _, _, _, _, _, _, _, _ => none
  | k + 1, x6, x13, x14, x15, x101, x102, x112, x113 => if x113 < x112 then (if 0 ≤ x113 then (if x113 < (x6.length : Int) then (if (rd x6 x113) = x14 then (if x15.length < 17592186044416 then (spec_IslandsOf.l4 k x6 x13 x14 (x15 ++ [x113]) x101 x102 x112 (wrap64 (x113 + 1))) else (none)) else (spec_IslandsOf.l4 k x6 x13 x14 x15 x101 x102 x112 (wrap64 (x113 + 1)))) else (none)) else (none)) else (if x13.length < 5864062014805 then (spec_IslandsOf.l3 k x6 (x13 ++ [x15]) x101 (wrap64 (x102 + 1))) else (none))
end
def spec_IslandsOf.f (k : Nat) (a0 : Int) (l1 : List (S90)) : Option ((List (List Int)) × Bool) := (spec_l1In.f a0 0 40).bind fun t101 => (if t101 = true then (spec_IslandsOf.j0 k a0 l1 (decide ((l1.length : Int) > 200))) else (spec_IslandsOf.j0 k a0 l1 true))
theorem spec_IslandsOf.mono_l : ∀ k, (∀ y0 y1 y2, LeO (spec_IslandsOf.j0 k y0 y1 y2) (spec_IslandsOf.j0 (k + 1) y0 y1 y2)) ∧ (∀ y0 y1 y2 y3 y4, LeO (spec_IslandsOf.l0 k y0 y1 y2 y3 y4) (spec_IslandsOf.l0 (k + 1) y0 y1 y2 y3 y4)) ∧ (∀ y0 y1 y2 y3 y4, LeO (spec_IslandsOf.l1 k y0 y1 y2 y3 y4) (spec_IslandsOf.l1 (k + 1) y0 y1 y2 y3 y4)) ∧ (∀ y0 y1 y2 y3 y4 y5 y6 y7, LeO (spec_IslandsOf.j3 k y0 y1 y2 y3 y4 y5 y6 y7) (spec_IslandsOf.j3 (k + 1) y0 y1 y2 y3 y4 y5 y6 y7)) ∧ (∀ y0 y1 y2 y3 y4 y5 y6, LeO (spec_IslandsOf.j4 k y0 y1 y2 y3 y4 y5 y6) (spec_IslandsOf.j4 (k + 1) y0 y1 y2 y3 y4 y5 y6)) ∧ (∀ y0 y1 y2 y3 y4 y5 y6 y7 y8, LeO (spec_IslandsOf.l2 k y0 y1 y2 y3 y4 y5 y6 y7 y8) (spec_IslandsOf.l2 (k + 1) y0 y1 y2 y3 y4 y5 y6 y7 y8)) ∧ (∀ y0 y1 y2 y3, LeO (spec_IslandsOf.l3 k y0 y1 y2 y3) (spec_IslandsOf.l3 (k + 1) y0 y1 y2 y3)) ∧ (∀ y0 y1 y2 y3 y4 y5 y6 y7, LeO (spec_IslandsOf.l4 k y0 y1 y2 y3 y4 y5 y6 y7) (spec_IslandsOf.l4 (k + 1) y0 y1 y2 y3 y4 y5 y6 y7))
  | 0 => ⟨fun _ _ _ r h => by simp [spec_IslandsOf.j0] at h, fun _ _ _ _ _ r h => by simp [spec_IslandsOf.l0] at h, fun _ _ _ _ _ r h => by simp [spec_IslandsOf.l1] at h, fun _ _ _ _ _ _ _ _ r h => by simp [spec_IslandsOf.j3] at h, fun _ _ _ _ _ _ _ r h => by simp [spec_IslandsOf.j4] at h, fun _ _ _ _ _ _ _ _ _ r h => by simp [spec_IslandsOf.l2] at h, fun _ _ _ _ r h => by simp [spec_IslandsOf.l3] at h, fun _ _ _ _ _ _ _ _ r h => by simp [spec_IslandsOf.l4] at h⟩
  | k + 1 => by
    obtain ⟨ih0, ih1, ih2, ih3, ih4, ih5, ih6, ih7⟩ := spec_IslandsOf.mono_l k
    refine ⟨?_, ?_, ?_, ?_, ?_, ?_, ?_, ?_⟩
    · intro y0 y1 y2
      unfold spec_IslandsOf.j0
      repeat' first
      | (with_reducible exact ih0 _ _ _)
      | (with_reducible exact ih1 _ _ _ _ _)
      | (with_reducible exact ih2 _ _ _ _ _)
      | (with_reducible exact ih3 _ _ _ _ _ _ _ _)
      | (with_reducible exact ih4 _ _ _ _ _ _ _)
      | (with_reducible exact ih5 _ _ _ _ _ _ _ _ _)
      | (with_reducible exact ih6 _ _ _ _)
      | (with_reducible exact ih7 _ _ _ _ _ _ _ _)
      | (with_reducible exact LeO.refl _)
      | (with_reducible exact LeO.none _)
      | (with_reducible refine LeO.ite ?_ ?_)
      | (with_reducible refine LeO.bind ?_ (fun _ => ?_))
      | exact ih0 _ _ _
      | exact ih1 _ _ _ _ _
      | exact ih2 _ _ _ _ _
      | exact ih3 _ _ _ _ _ _ _ _
      | exact ih4 _ _ _ _ _ _ _
      | exact ih5 _ _ _ _ _ _ _ _ _
      | exact ih6 _ _ _ _
      | exact ih7 _ _ _ _ _ _ _ _
      | exact LeO.none _
      | refine LeO.ite ?_ ?_
      | refine LeO.bind ?_ (fun _ => ?_)
    · intro y0 y1 y2 y3 y4
      unfold spec_IslandsOf.l0
      repeat' first
      | (with_reducible exact ih0 _ _ _)
      | (with_reducible exact ih1 _ _ _ _ _)
      | (with_reducible exact ih2 _ _ _ _ _)
      | (with_reducible exact ih3 _ _ _ _ _ _ _ _)
      | (with_reducible exact ih4 _ _ _ _ _ _ _)
      | (with_reducible exact ih5 _ _ _ _ _ _ _ _ _)
      | (with_reducible exact ih6 _ _ _ _)
      | (with_reducible exact ih7 _ _ _ _ _ _ _ _)
      | (with_reducible exact LeO.refl _)
      | (with_reducible exact LeO.none _)
      | (with_reducible refine LeO.ite ?_ ?_)
      | (with_reducible refine LeO.bind ?_ (fun _ => ?_))
      | exact ih0 _ _ _
      | exact ih1 _ _ _ _ _
      | exact ih2 _ _ _ _ _
      | exact ih3 _ _ _ _ _ _ _ _
      | exact ih4 _ _ _ _ _ _ _
      | exact ih5 _ _ _ _ _ _ _ _ _
      | exact ih6 _ _ _ _
      | exact ih7 _ _ _ _ _ _ _ _
      | exact LeO.none _
      | refine LeO.ite ?_ ?_
      | refine LeO.bind ?_ (fun _ => ?_)
    · intro y0 y1 y2 y3 y4
      unfold spec_IslandsOf.l1
      repeat' first
      | (with_reducible exact ih0 _ _ _)
      | (with_reducible exact ih1 _ _ _ _ _)
      | (with_reducible exact ih2 _ _ _ _ _)
      | (with_reducible exact ih3 _ _ _ _ _ _ _ _)
      | (with_reducible exact ih4 _ _ _ _ _ _ _)
      | (with_reducible exact ih5 _ _ _ _ _ _ _ _ _)
      | (with_reducible exact ih6 _ _ _ _)
      | (with_reducible exact ih7 _ _ _ _ _ _ _ _)
      | (with_reducible exact LeO.refl _)
      | (with_reducible exact LeO.none _)
      | (with_reducible refine LeO.ite ?_ ?_)
      | (with_reducible refine LeO.bind ?_ (fun _ => ?_))
      | exact ih0 _ _ _
      | exact ih1 _ _ _ _ _
      | exact ih2 _ _ _ _ _
      | exact ih3 _ _ _ _ _ _ _ _
      | exact ih4 _ _ _ _ _ _ _
      | exact ih5 _ _ _ _ _ _ _ _ _
      | exact ih6 _ _ _ _
      | exact ih7 _ _ _ _ _ _ _ _
      | exact LeO.none _
      | refine LeO.ite ?_ ?_
      | refine LeO.bind ?_ (fun _ => ?_)
    · intro y0 y1 y2 y3 y4 y5 y6 y7
      unfold spec_IslandsOf.j3
      repeat' first
      | (with_reducible exact ih0 _ _ _)
      | (with_reducible exact ih1 _ _ _ _ _)
      | (with_reducible exact ih2 _ _ _ _ _)
      | (with_reducible exact ih3 _ _ _ _ _ _ _ _)
      | (with_reducible exact ih4 _ _ _ _ _ _ _)
      | (with_reducible exact ih5 _ _ _ _ _ _ _ _ _)
      | (with_reducible exact ih6 _ _ _ _)
      | (with_reducible exact ih7 _ _ _ _ _ _ _ _)
      | (with_reducible exact LeO.refl _)
      | (with_reducible exact LeO.none _)
      | (with_reducible refine LeO.ite ?_ ?_)
      | (with_reducible refine LeO.bind ?_ (fun _ => ?_))
      | exact ih0 _ _ _
      | exact ih1 _ _ _ _ _
      | exact ih2 _ _ _ _ _
      | exact ih3 _ _ _ _ _ _ _ _
      | exact ih4 _ _ _ _ _ _ _
      | exact ih5 _ _ _ _ _ _ _ _ _
      | exact ih6 _ _ _ _
      | exact ih7 _ _ _ _ _ _ _ _
      | exact LeO.none _
      | refine LeO.ite ?_ ?_
      | refine LeO.bind ?_ (fun _ => ?_)
    · intro y0 y1 y2 y3 y4 y5 y6
      unfold spec_IslandsOf.j4
      repeat' first
      | (with_reducible exact ih0 _ _ _)
      | (with_reducible exact ih1 _ _ _ _ _)
      | (with_reducible exact ih2 _ _ _ _ _)
      | (with_reducible exact ih3 _ _ _ _ _ _ _ _)
      | (with_reducible exact ih4 _ _ _ _ _ _ _)
      | (with_reducible exact ih5 _ _ _ _ _ _ _ _ _)
      | (with_reducible exact ih6 _ _ _ _)
      | (with_reducible exact ih7 _ _ _ _ _ _ _ _)
      | (with_reducible exact LeO.refl _)
      | (with_reducible exact LeO.none _)
      | (with_reducible refine LeO.ite ?_ ?_)
      | (with_reducible refine LeO.bind ?_ (fun _ => ?_))
      | exact ih0 _ _ _
      | exact ih1 _ _ _ _ _
      | exact ih2 _ _ _ _ _
      | exact ih3 _ _ _ _ _ _ _ _
      | exact ih4 _ _ _ _ _ _ _
      | exact ih5 _ _ _ _ _ _ _ _ _
      | exact ih6 _ _ _ _
      | exact ih7 _ _ _ _ _ _ _ _
      | exact LeO.none _
      | refine LeO.ite ?_ ?_
      | refine LeO.bind ?_ (fun _ => ?_)
    · intro y0 y1 y2 y3 y4 y5 y6 y7 y8
      unfold spec_IslandsOf.l2
      repeat' first
      | (with_reducible exact ih0 _ _ _)
      | (with_reducible exact ih1 _ _ _ _ _)
      | (with_reducible exact ih2 _ _ _ _ _)
      | (with_reducible exact ih3 _ _ _ _ _ _ _ _)
      | (with_reducible exact ih4 _ _ _ _ _ _ _)
      | (with_reducible exact ih5 _ _ _ _ _ _ _ _ _)
      | (with_reducible exact ih6 _ _ _ _)
      | (with_reducible exact ih7 _ _ _ _ _ _ _ _)
      | (with_reducible exact LeO.refl _)
      | (with_reducible exact LeO.none _)
      | (with_reducible refine LeO.ite ?_ ?_)
      | (with_reducible refine LeO.bind ?_ (fun _ => ?_))
      | exact ih0 _ _ _
      | exact ih1 _ _ _ _ _
      | exact ih2 _ _ _ _ _
      | exact ih3 _ _ _ _ _ _ _ _
      | exact ih4 _ _ _ _ _ _ _
      | exact ih5 _ _ _ _ _ _ _ _ _
      | exact ih6 _ _ _ _
      | exact ih7 _ _ _ _ _ _ _ _
      | exact LeO.none _
      | refine LeO.ite ?_ ?_
      | refine LeO.bind ?_ (fun _ => ?_)
    · intro y0 y1 y2 y3
      unfold spec_IslandsOf.l3
      repeat' first
      | (with_reducible exact ih0 _ _ _)
      | (with_reducible exact ih1 _ _ _ _ _)
      | (with_reducible exact ih2 _ _ _ _ _)
      | (with_reducible exact ih3 _ _ _ _ _ _ _ _)
      | (with_reducible exact ih4 _ _ _ _ _ _ _)
      | (with_reducible exact ih5 _ _ _ _ _ _ _ _ _)
      | (with_reducible exact ih6 _ _ _ _)
      | (with_reducible exact ih7 _ _ _ _ _ _ _ _)
      | (with_reducible exact LeO.refl _)
      | (with_reducible exact LeO.none _)
      | (with_reducible refine LeO.ite ?_ ?_)
      | (with_reducible refine LeO.bind ?_ (fun _ => ?_))
      | exact ih0 _ _ _
      | exact ih1 _ _ _ _ _
      | exact ih2 _ _ _ _ _
      | exact ih3 _ _ _ _ _ _ _ _
      | exact ih4 _ _ _ _ _ _ _
      | exact ih5 _ _ _ _ _ _ _ _ _
      | exact ih6 _ _ _ _
      | exact ih7 _ _ _ _ _ _ _ _
      | exact LeO.none _
      | refine LeO.ite ?_ ?_
      | refine LeO.bind ?_ (fun _ => ?_)
    · intro y0 y1 y2 y3 y4 y5 y6 y7
      unfold spec_IslandsOf.l4
      repeat' first
      | (with_reducible exact ih0 _ _ _)
      | (with_reducible exact ih1 _ _ _ _ _)
      | (with_reducible exact ih2 _ _ _ _ _)
      | (with_reducible exact ih3 _ _ _ _ _ _ _ _)
      | (with_reducible exact ih4 _ _ _ _ _ _ _)
      | (with_reducible exact ih5 _ _ _ _ _ _ _ _ _)
      | (with_reducible exact ih6 _ _ _ _)
      | (with_reducible exact ih7 _ _ _ _ _ _ _ _)
      | (with_reducible exact LeO.refl _)
      | (with_reducible exact LeO.none _)
      | (with_reducible refine LeO.ite ?_ ?_)
      | (with_reducible refine LeO.bind ?_ (fun _ => ?_))
      | exact ih0 _ _ _
      | exact ih1 _ _ _ _ _
      | exact ih2 _ _ _ _ _
      | exact ih3 _ _ _ _ _ _ _ _
      | exact ih4 _ _ _ _ _ _ _
      | exact ih5 _ _ _ _ _ _ _ _ _
      | exact ih6 _ _ _ _
      | exact ih7 _ _ _ _ _ _ _ _
      | exact LeO.none _
      | refine LeO.ite ?_ ?_
      | refine LeO.bind ?_ (fun _ => ?_)
theorem spec_IslandsOf.mono : ∀ a0 a1 k, LeO (spec_IslandsOf.f k a0 a1) (spec_IslandsOf.f (k + 1) a0 a1) := by
  intro a0 a1 k
  obtain ⟨ih0, ih1, ih2, ih3, ih4, ih5, ih6, ih7⟩ := spec_IslandsOf.mono_l k
  unfold spec_IslandsOf.f
  repeat' first
      | (with_reducible exact ih0 _ _ _)
      | (with_reducible exact ih1 _ _ _ _ _)
      | (with_reducible exact ih2 _ _ _ _ _)
      | (with_reducible exact ih3 _ _ _ _ _ _ _ _)
      | (with_reducible exact ih4 _ _ _ _ _ _ _)
      | (with_reducible exact ih5 _ _ _ _ _ _ _ _ _)
      | (with_reducible exact ih6 _ _ _ _)
      | (with_reducible exact ih7 _ _ _ _ _ _ _ _)
      | (with_reducible exact LeO.refl _)
      | (with_reducible exact LeO.none _)
      | (with_reducible refine LeO.ite ?_ ?_)
      | (with_reducible refine LeO.bind ?_ (fun _ => ?_))
      | exact ih0 _ _ _
      | exact ih1 _ _ _ _ _
      | exact ih2 _ _ _ _ _
      | exact ih3 _ _ _ _ _ _ _ _
      | exact ih4 _ _ _ _ _ _ _
      | exact ih5 _ _ _ _ _ _ _ _ _
      | exact ih6 _ _ _ _
      | exact ih7 _ _ _ _ _ _ _ _
      | exact LeO.none _
      | refine LeO.ite ?_ ?_
      | refine LeO.bind ?_ (fun _ => ?_)
set_option maxHeartbeats 8000000 in
set_option maxRecDepth 100000 in
theorem spec_IslandsOf.calls (k : Nat) (a0 : Int) (A1 : Option Addr) (c1 : Nat) (l1 : List (S90)) (r1 : List (List Int)) (r2 : Bool) (w : World) (hr1 : Kd.C k90 w A1 l1.length l1) (hc1 : l1.length ≤ c1) (h : spec_IslandsOf.f k a0 l1 = some (r1, r2)) :
    Calls Try.prog 17 #[.int .i64 a0, .slice A1 l1.length c1] w fun e w' => ∃ v0_ : Value, e = .returned (.tuple #[v0_, .bool r2]) ∧ Kd.S (Kd.slice 3 (Kd.int .i64)) 74 w' w.heap.size (fun _ => True) v0_ r1 ∧ Below w.heap.size w w' := by
  have hu90 := Try.underlying90
  have HR1 := Aside0.mk hr1
  have HC1 := Aside0.mk hc1
  clear hr1 hc1
  have HB := Aside0.mk (Below.refl w.heap.size w)
  have H : ((spec_l1In.f a0 0 40).bind fun t101 => (if t101 = true then (spec_IslandsOf.j0 k a0 l1 (decide ((l1.length : Int) > 200))) else (spec_IslandsOf.j0 k a0 l1 true))) = some (r1, r2) := h
  clear h
  have HC3 := Aside0.mk H
  clear H
  go_enter Try.func17, Try.ntmps17
  go_upto_region 1 with (fail)
  go_cut [24] (fun v24 wc => ∃ (kq : Nat) (x24_2 : Bool), v24 = .bool x24_2 ∧ Aside0 (spec_IslandsOf.j0 kq a0 l1 x24_2 = some (r1, r2)) ∧ Aside0 (kq ≤ k) ∧ Aside0 (Below w.heap.size w wc))
  case first =>
    have H := HC3.out
    clear HC3
    replace H := Option.bind_eq_some_iff.mp H
    obtain ⟨t101, A40, H⟩ := H
    replace H : (if t101 = true then (spec_IslandsOf.j0 k a0 l1 (decide ((l1.length : Int) > 200))) else (spec_IslandsOf.j0 k a0 l1 true)) = some (r1, r2) := H
    have A4 := Aside0.mk A40
    clear A40
    by_cases c5 : t101 = true
    · subst c5
      have H1 : (spec_IslandsOf.j0 k a0 l1 (decide ((l1.length : Int) > 200))) = some (r1, r2) := by rw [if_pos rfl] at H; exact H
      clear H
      have H := H1
      clear H1
      have H' := Aside0.mk H
      clear H
      go_wp2_with (first | ((with_reducible refine gate_callee (f := 55) rfl ?_); refine goesL_ (some 18) rfl rfl Try.func55 (by kernel_rfl) rfl #[.int .i64 a0, .int .i64 0, .int .i64 40] rfl (by (try simp only [List.map_toArray, List.map_cons, List.map_nil]); first | done | rfl | (simp only [List.length_drop, List.length_take]; rfl)) ?_; (with_reducible refine (spec_l1In.calls a0 0 40 true _ A4.out).mono ?_); rintro e w' ⟨rfl, ⟨nd, rfl⟩⟩; refine ⟨_, rfl, ?_⟩))
      go_meet
      case rel => exact ⟨_, (decide ((l1.length : Int) > 200)), (by first | rfl | (simp; done) | (simp [*]; done)), H', ⟨by first | omega | exact Nat.le_refl _⟩, ⟨by repeat (first | (with_reducible first | exact HB.out | apply below_alloc | apply pw_below_drewN | apply below_drew1) | exact HB.out)⟩⟩
    · replace c5 := Bool.eq_false_iff.mpr c5
      subst c5
      have H1 : (spec_IslandsOf.j0 k a0 l1 true) = some (r1, r2) := by rw [if_neg (show ¬ (false = true) by decide)] at H; exact H
      clear H
      have H := H1
      clear H1
      have H' := Aside0.mk H
      clear H
      go_wp2_with (first | ((with_reducible refine gate_callee (f := 55) rfl ?_); refine goesL_ (some 18) rfl rfl Try.func55 (by kernel_rfl) rfl #[.int .i64 a0, .int .i64 0, .int .i64 40] rfl (by (try simp only [List.map_toArray, List.map_cons, List.map_nil]); first | done | rfl | (simp only [List.length_drop, List.length_take]; rfl)) ?_; (with_reducible refine (spec_l1In.calls a0 0 40 false _ A4.out).mono ?_); rintro e w' ⟨rfl, ⟨nd, rfl⟩⟩; refine ⟨_, rfl, ?_⟩))
      go_meet
      case rel => exact ⟨_, (true), (by first | rfl | (simp; done) | (simp [*]; done)), H', ⟨by first | omega | exact Nat.le_refl _⟩, ⟨by repeat (first | (with_reducible first | exact HB.out | apply below_alloc | apply pw_below_drewN | apply below_drew1) | exact HB.out)⟩⟩
  case rest =>
    clear HC3
    try clear c1
    try clear p2
    try clear c5
    obtain ⟨kq, x24_2, rfl, HA, HJ2, HB⟩ := hcut
    cases kq with
    | zero => exact absurd HA.out (by simp [spec_IslandsOf.j0])
    | succ kj2 =>
      have H := HA.out
      clear HA
      simp only [spec_IslandsOf.j0] at H
      by_cases c6 : x24_2 = true
      · subst c6
        have H1 : (some (([] : List (List Int)), false)) = some (r1, r2) := by rw [if_pos rfl] at H; exact H
        clear H
        have H := H1
        clear H1
        simp only [Option.some.injEq, Prod.mk.injEq] at H
        obtain ⟨rfl, rfl⟩ := H
        go_wp2
        go_ret2
        exact ⟨_, by first | rfl | (simp [errW_none, errW_some] <;> rfl) | (simp [*, errW_none, errW_some] <;> rfl), by first | exact Kd.S_nil _ _ _ _ _ | exact Kd.N_nil _ _ _ _ _ | exact Kd.V_nil _ _ _ _ _ | exact Kd.Q_nil _ _ _ _ _ | exact Kd.R_nil _ _ _ _ _, by repeat (first | (with_reducible first | exact HB.out | apply below_alloc | apply pw_below_drewN | apply below_drew1) | exact HB.out)⟩
      · replace c6 := Bool.eq_false_iff.mpr c6
        subst c6
        have H1 : (if 0 ≤ a0 then (if (a0 : Int).toNat ≤ 35184372088832 then ((some (List.replicate (a0 : Int).toNat 0 : List Int)).bind fun y102 => (spec_IslandsOf.l0 kj2 a0 l1 y102 (y102.length : Int) 0)) else (none)) else (none)) = some (r1, r2) := by rw [if_neg (show ¬ (false = true) by decide)] at H; exact H
        clear H
        have H := H1
        clear H1
        by_cases c7 : 0 ≤ a0
        · rw [if_pos c7] at H
          have c7b0 := eq_true c7
          have c7b1 : decide (0 ≤ a0) = true := decide_eq_true c7
          clear c7
          by_cases c8 : (a0 : Int).toNat ≤ 35184372088832
          · rw [if_pos c8] at H
            have c8b0 := eq_true c8
            have c8b1 : decide ((a0 : Int).toNat ≤ 35184372088832) = true := decide_eq_true c8
            clear c8
            obtain ⟨y102, hy102⟩ : ∃ y_ : List Int, y_ = (List.replicate (a0 : Int).toNat 0) := ⟨_, rfl⟩
            replace H : (spec_IslandsOf.l0 kj2 a0 l1 y102 (y102.length : Int) 0) = some (r1, r2) := by first | (rw [hy102]; with_reducible exact H) | (have H2_ := (Option.bind_some _ _).symm.trans H; rw [hy102]; with_reducible exact H2_) | (have H2_ := (Option.bind_some _ _).symm.trans H; with_reducible exact H2_) | with_reducible exact H | (rw [hy102]; exact H) | exact H
            have Ny102 := Aside0.mk hy102
            clear hy102
            have H' := Aside0.mk H
            clear H
            go_wp2_with (first | ((with_reducible refine gate_dst (N := 26) rfl ?_); (try (refine gate_guard (by rfl) ?_; dsimp only)); refine Kd.R_make (Kd.int .i64) _ 3 rfl (N := 26) rfl 74 _ _ rfl a0 rfl rfl Try.underlying74 (.int .i64 0) 8 info3 rfl (by decide) (by omega) 0 (ok := fun _ => True) (okp := fun _ => True) rfl (fun _ hk => hk) trivial (of_decide_eq_true (by first | (with_reducible assumption) | assumption)) (Nat.le_trans (Nat.mul_le_mul_right _ (of_decide_eq_true (by first | (with_reducible assumption) | assumption) : a0.toNat ≤ 35184372088832)) (by omega)) (Below.refl _ _) (Nat.le_refl _) ?_; intro v103 w9 ho10 hb hg_ hnew_; clear hg_ hnew_; (first | rw [← Ny102.out] at ho10 | (simp only [Int.reduceToNat] at ho10; rw [← Ny102.out] at ho10)); have n0_ := Aside0.mk (Kd.R_lower ho10 (below_size (by repeat (first | (with_reducible first | exact HB.out | apply below_alloc | apply pw_below_drewN | apply below_drew1) | exact HB.out)))); have n1_ := Aside0.mk (below_step (by repeat (first | (with_reducible first | exact HB.out | apply below_alloc | apply pw_below_drewN | apply below_drew1) | exact HB.out)) hb); clear HB; have HO104 := n0_; have HB := n1_; clear n0_ n1_; clear hb ho10; obtain ⟨Ao11, co11, eo11⟩ := Kd.R_slice HO104.out; subst eo11))
            go_loopg [29] kj2 (fun kq v29 w' => ∃ (x6_2 : List Int) (x29_2 : Int), v29 = .int .i64 x29_2 ∧ Aside0 (spec_IslandsOf.l0 kq a0 l1 x6_2 (y102.length : Int) x29_2 = some (r1, r2)) ∧ Aside0 (kq ≤ kj2) ∧ Aside0 (Kd.R (Kd.int .i64) 3 w' w.heap.size (fun _ => True) (.slice Ao11 y102.length co11) x6_2) ∧ Aside0 (Below w.heap.size w w'))
            case atStart => exact ⟨(y102), (0), (by first | rfl | (simp; done) | (simp [*]; done)), H', ⟨Nat.le_refl _⟩, ⟨by (with_reducible repeat (first | apply Kd.R_alloc | apply Kd.R_drewN | apply Kd.R_drew)); exact HO104.out⟩, ⟨by repeat (first | (with_reducible first | exact HB.out | apply below_alloc | apply pw_below_drewN | apply below_drew1) | exact HB.out)⟩⟩
            case round =>
              clear H'
              try clear c1
              try clear p2
              try clear c5
              try clear c6
              try clear c7
              try clear c7b0
              try clear c7b1
              try clear c8
              try clear c8b0
              try clear c8b1
              try clear p2
              obtain ⟨x6_2, x29_2, rfl, HA, HK2, HO_6, HB⟩ := hrel
              have hl6_2 := (Kd.R_reads' HO_6.out).1
              rw [hl6_2] at HO_6
              (try simp only [hl6_2])
              cases gk with
              | zero => exact absurd HA.out (by simp [spec_IslandsOf.l0])
              | succ k2 =>
                have H := HA.out
                clear HA
                simp only [spec_IslandsOf.l0] at H
                by_cases c12 : x29_2 < (y102.length : Int)
                · rw [if_pos c12] at H
                  have c12b0 : decide (x29_2 < (y102.length : Int)) = true := decide_eq_true c12
                  clear c12
                  by_cases c13 : 0 ≤ x29_2
                  · rw [if_pos c13] at H
                    have c13b0 : decide (0 ≤ x29_2) = true := decide_eq_true c13
                    clear c13
                    by_cases c14 : x29_2 < (x6_2.length : Int)
                    · rw [if_pos c14] at H
                      have c14b0 : decide (x29_2 < (x6_2.length : Int)) = true := decide_eq_true c14
                      clear c14
                      obtain ⟨y105, hy105⟩ : ∃ y_ : List Int, y_ = (x6_2.set (x29_2 : Int).toNat x29_2) := ⟨_, rfl⟩
                      replace H : (spec_IslandsOf.l0 k2 a0 l1 y105 (y102.length : Int) (wrap64 (x29_2 + 1))) = some (r1, r2) := by first | (rw [hy105]; with_reducible exact H) | (have H2_ := (Option.bind_some _ _).symm.trans H; rw [hy105]; with_reducible exact H2_) | (have H2_ := (Option.bind_some _ _).symm.trans H; with_reducible exact H2_) | with_reducible exact H | (rw [hy105]; exact H) | exact H
                      have Ny105 := Aside0.mk hy105
                      clear hy105
                      have H' := Aside0.mk H
                      clear H
                      have p15 : 0 ≤ (x29_2 : Int) := of_decide_eq_true (by first | (with_reducible assumption) | assumption)
                      have q15 : (x29_2 : Int) < ((x6_2.length : Int) : Int) := of_decide_eq_true (by first | (with_reducible assumption) | assumption)
                      obtain ⟨go15, co15, eo15, gb15, gl15, cl15, HG15⟩ := Kd.R_form HO_6.out (by omega)
                      (first | cases eo15 | (injection eo15 with ea_ en_ ec_; (first | subst ea_ | (injection ea_ with ea_; subst ea_)); subst ec_; clear en_))
                      have GB15 := Aside0.mk gb15
                      have GG15 := Aside0.mk HG15
                      clear gb15 gl15 HG15
                      obtain ⟨hx15_0, hf15_0⟩ := Kd.R_celln 0 HO_6.out (x29_2 : Int) p15 q15
                      replace p15 := eq_true p15
                      replace q15 := eq_true q15
                      have HP16 := Kd.R_putg HO_6.out (x29_2 : Int) x29_2
                      go_wp2_with (first | ((with_reducible refine gate_store (t := 3) (p := 35) rfl ?_); refine store_event (t := 3) (p := 35) (v := ?vo_w17) (w1 := (wr.setCell ⟨go15, (x29_2 : Int).toNat, none⟩ (.int .i64 x29_2))) ?hg ?ho ?hn ?hr ?_; (case ho => rfl); (case hg => rfl); (case hn => rfl); (case hr => first | (go_simp; done) | (go_simp; rfl)); intro w17 hw; have hg : wr.grownBy w17 (some go15) := (by rw [hw]; exact HP16.2); have hp_ : Kd.R (Kd.int .i64) 3 w17 w.heap.size (fun _ => True) (.slice (some ⟨go15, 0, none⟩) x6_2.length co11) y105 := (by rw [hw, Ny105.out]; exact HP16.1); clear HP16; have n0_ := Aside0.mk (hp_); have n1_ := Aside0.mk ((by rw [hw]; exact below_set (HB.out) GB15.out : Below w.heap.size w w17)); clear HO_6; clear HB; have HO_6 := n0_; have HB := n1_; clear n0_ n1_; clear hg hw hp_))
                      (try simp only [← hl6_2])
                      go_roundg k2
                      case measure => have := HJ2.out; have := HK2.out; omega
                      case rel => exact ⟨(y105), (wrap64 (x29_2 + 1)), (by first | rfl | (simp; done) | (simp [*]; done)), H', ⟨by have := HJ2.out; have := HK2.out; omega⟩, ⟨by (try simp only [hl6_2]); (with_reducible repeat (first | apply Kd.R_alloc | apply Kd.R_drewN | apply Kd.R_drew)); exact HO_6.out⟩, ⟨by repeat (first | (with_reducible first | exact HB.out | apply below_alloc | apply pw_below_drewN | apply below_drew1) | exact HB.out)⟩⟩
                    · rw [if_neg c14] at H
                      exact absurd H (by simp)
                  · rw [if_neg c13] at H
                    exact absurd H (by simp)
                · rw [if_neg c12] at H
                  have c12b0 : decide (x29_2 < (y102.length : Int)) = false := decide_eq_false c12; (try (have c12bx := c12b0; rw [hl6_2] at c12bx)); (try (have c12by := c12b0; rw [hl6_6] at c12by))
                  clear c12
                  have H' := Aside0.mk H
                  clear H
                  go_wp2
                  go_loopg [39] k2 (fun kq v39 w' => ∃ (x6_3 : List Int) (x39_3 : Int), v39 = .int .i64 x39_3 ∧ Aside0 (spec_IslandsOf.l1 kq a0 x6_3 l1 (l1.length : Int) x39_3 = some (r1, r2)) ∧ Aside0 (kq ≤ k2) ∧ Aside0 (Kd.R (Kd.int .i64) 3 w' w.heap.size (fun _ => True) (.slice Ao11 x6_2.length co11) x6_3) ∧ Aside0 (Below w.heap.size w w'))
                  case atStart => exact ⟨(x6_2), (0), (by first | rfl | (simp; done) | (simp [*]; done)), H', ⟨Nat.le_refl _⟩, ⟨by (try simp only [hl6_2]); (with_reducible repeat (first | apply Kd.R_alloc | apply Kd.R_drewN | apply Kd.R_drew)); exact HO_6.out⟩, ⟨by repeat (first | (with_reducible first | exact HB.out | apply below_alloc | apply pw_below_drewN | apply below_drew1) | exact HB.out)⟩⟩
                  case round =>
                    clear H'
                    try clear c1
                    try clear p1
                    try clear q1
                    try clear hx1
                    try clear p2
                    try clear c5
                    try clear c6
                    try clear p6
                    try clear c7
                    try clear c7b0
                    try clear c7b1
                    try clear c8
                    try clear c8b0
                    try clear c8b1
                    try clear c12
                    try clear c12b0
                    try clear c13
                    try clear c13b0
                    try clear c14
                    try clear c14b0
                    try clear p15
                    try clear q15
                    try clear hx15
                    try clear hf15
                    try clear c17
                    try clear hx15_0
                    try clear p15
                    try clear p2
                    try clear q15
                    obtain ⟨x6_3, x39_3, rfl, HA, HK3, HO_6, HB⟩ := hrel
                    have hl6_3 := (Kd.R_reads' HO_6.out).1
                    rw [hl6_3] at HO_6
                    (try simp only [hl6_3])
                    cases gk with
                    | zero => exact absurd HA.out (by simp [spec_IslandsOf.l1])
                    | succ k3 =>
                      have H := HA.out
                      clear HA
                      simp only [spec_IslandsOf.l1] at H
                      by_cases c18 : x39_3 < (l1.length : Int)
                      · rw [if_pos c18] at H
                        have c18b0 : decide (x39_3 < (l1.length : Int)) = true := decide_eq_true c18
                        clear c18
                        by_cases c19 : 0 ≤ x39_3
                        · rw [if_pos c19] at H
                          have c19b0 : decide (0 ≤ x39_3) = true := decide_eq_true c19
                          clear c19
                          by_cases c20 : x39_3 < (l1.length : Int)
                          · rw [if_pos c20] at H
                            have c20b0 : decide (x39_3 < (l1.length : Int)) = true := decide_eq_true c20
                            clear c20
                            have HC21 := Aside0.mk H
                            clear H
                            have p106 : 0 ≤ (x39_3 : Int) := of_decide_eq_true (by first | (with_reducible assumption) | assumption)
                            have q106 : x39_3 < (l1.length : Int) := of_decide_eq_true (by first | (with_reducible assumption) | assumption)
                            obtain ⟨ad106, e106, hx106_0, hx106_1⟩ := at_T90 HR1.out x39_3 p106 q106
                            cases e106
                            replace hx106_0 := (HB.out.cell (World.block_lt_of_cell? w _ hx106_0)).trans hx106_0
                            replace hx106_1 := (HB.out.cell (World.block_lt_of_cell? w _ hx106_1)).trans hx106_1
                            replace p106 := eq_true p106
                            replace q106 := eq_true q106
                            go_upto_region 12 with (first | ((with_reducible refine gate_dst (N := 9) rfl ?_); (try (refine gate_guard (by rfl) ?_; dsimp only)); refine box_event ?hg (N := 9) ?hd (cs := #[.int .i64 0, .int .i64 0]) (t := 90) ?hr ?_; (case hd => rfl); (case hg => rfl); (case hr => first | (go_simp; done) | (go_simp; rfl)); intro gb107 hg w22 hbox hb; have n0_ := Aside0.mk (Kd.R_below (by (with_reducible repeat (first | apply Kd.R_alloc | apply Kd.R_drewN | apply Kd.R_drew)); exact HO_6.out) hb); have n1_ := Aside0.mk (below_step (by repeat (first | (with_reducible first | exact HB.out | apply below_alloc | apply pw_below_drewN | apply below_drew1) | exact HB.out)) hb); have n2_ := Aside0.mk (hbox); have n3_ := Aside0.mk ((by rw [hg]; exact (below_size (by repeat (first | (with_reducible first | exact HB.out | apply below_alloc | apply pw_below_drewN | apply below_drew1) | exact HB.out))) : w.heap.size ≤ gb107)); have n4_ := Aside0.mk ((by rw [hg]; exact (below_size (by repeat (first | (with_reducible first | exact HB.out | apply below_alloc | apply pw_below_drewN | apply below_drew1) | exact HB.out))) : w.heap.size ≤ gb107)); clear HO_6; clear HB; have HO_6 := n0_; have HB := n1_; have BK107 := n2_; have GW107 := n3_; have GE107 := n4_; clear n0_ n1_ n2_ n3_ n4_; clear hb hbox hg; have hcz23_0 : w22.cell? ⟨gb107, 0, none⟩ = some (.int .i64 0) := (blk_cell BK107.out 0).trans rfl; have hcz23_1 : w22.cell? ⟨gb107, 1, none⟩ = some (.int .i64 0) := (blk_cell BK107.out 1).trans rfl; have hfz23_0 := blk_frozen BK107.out 0; have hfz23_1 := blk_frozen BK107.out 1))
                            (try simp only [Act.put, List.setIfInBounds_toArray, List.set_cons_zero, List.set_cons_succ])
                            go_cut [59] (fun v59 wc => ∃ (kq : Nat) (x59_20 : Bool), v59 = .bool x59_20 ∧ Aside0 (spec_IslandsOf.j3 kq a0 x6_3 l1 (l1.length : Int) x39_3 x59_20 ((rd_T90 l1 x39_3).f0) ((rd_T90 l1 x39_3).f1) = some (r1, r2)) ∧ Aside0 (kq ≤ k3) ∧ Aside0 (Kd.R (Kd.int .i64) 3 wc w.heap.size (fun _ => True) (.slice Ao11 x6_3.length co11) x6_3) ∧ Aside0 (wc.heap[gb107]? = some (.cells #[.int .i64 ((rd_T90 l1 x39_3).f0), .int .i64 ((rd_T90 l1 x39_3).f1)] 90 (0, 0))) ∧ Aside0 (Below w.heap.size w wc))
                            case first =>
                              have H := HC21.out
                              clear HC21
                              replace H := Option.bind_eq_some_iff.mp H
                              obtain ⟨t108, A240, H⟩ := H
                              replace H : (if t108 = true then ((spec_l1In.f ((rd_T90 l1 x39_3).f1) (wrap64 (((rd_T90 l1 x39_3).f0) + 1)) (wrap64 (a0 - 1))).bind fun t109 => (spec_IslandsOf.j3 k3 a0 x6_3 l1 (l1.length : Int) x39_3 (!t109) ((rd_T90 l1 x39_3).f0) ((rd_T90 l1 x39_3).f1))) else (spec_IslandsOf.j3 k3 a0 x6_3 l1 (l1.length : Int) x39_3 true ((rd_T90 l1 x39_3).f0) ((rd_T90 l1 x39_3).f1))) = some (r1, r2) := H
                              have A24 := Aside0.mk A240
                              clear A240
                              by_cases c25 : t108 = true
                              · subst c25
                                have H1 : ((spec_l1In.f ((rd_T90 l1 x39_3).f1) (wrap64 (((rd_T90 l1 x39_3).f0) + 1)) (wrap64 (a0 - 1))).bind fun t109 => (spec_IslandsOf.j3 k3 a0 x6_3 l1 (l1.length : Int) x39_3 (!t109) ((rd_T90 l1 x39_3).f0) ((rd_T90 l1 x39_3).f1))) = some (r1, r2) := by rw [if_pos rfl] at H; exact H
                                clear H
                                have H := H1
                                clear H1
                                replace H := Option.bind_eq_some_iff.mp H
                                obtain ⟨t109, A260, H⟩ := H
                                replace H : (spec_IslandsOf.j3 k3 a0 x6_3 l1 (l1.length : Int) x39_3 (!t109) ((rd_T90 l1 x39_3).f0) ((rd_T90 l1 x39_3).f1)) = some (r1, r2) := H
                                have A26 := Aside0.mk A260
                                clear A260
                                have H' := Aside0.mk H
                                clear H
                                have hcz27_0 : w22.cell? ⟨gb107, 0, none⟩ = some (.int .i64 0) := (blk_cell BK107.out 0).trans rfl
                                have hcz27_1 : w22.cell? ⟨gb107, 1, none⟩ = some (.int .i64 0) := (blk_cell BK107.out 1).trans rfl
                                have hfz27_0 := blk_frozen BK107.out 0
                                have hfz27_1 := blk_frozen BK107.out 1
                                go_wp2_with (first | ((with_reducible refine gate_callee (f := 55) rfl ?_); refine goesL_ (some 47) rfl rfl Try.func55 (by kernel_rfl) rfl #[.int .i64 ((rd_T90 l1 x39_3).f0), .int .i64 0, .int .i64 (wrap64 (a0 - 1))] rfl (by (try simp only [List.map_toArray, List.map_cons, List.map_nil]); first | done | rfl | (simp only [List.length_drop, List.length_take]; rfl)) ?_; (with_reducible refine (spec_l1In.calls ((rd_T90 l1 x39_3).f0) 0 (wrap64 (a0 - 1)) true _ A24.out).mono ?_); rintro e w' ⟨rfl, ⟨nd, rfl⟩⟩; refine ⟨_, rfl, ?_⟩) | (go_at_call 55; (with_reducible refine (spec_l1In.calls ((rd_T90 l1 x39_3).f1) (wrap64 (((rd_T90 l1 x39_3).f0) + 1)) (wrap64 (a0 - 1)) t109 _ A26.out).mono ?_); rintro e w' ⟨rfl, ⟨nd, rfl⟩⟩))
                                go_meet
                                case rel => exact ⟨_, (!t109), (by first | rfl | (simp; done) | (simp [*]; done)), H', ⟨by have := HJ2.out; have := HK2.out; have := HK3.out; first | omega | exact Nat.le_refl _⟩, ⟨by (try simp only [hl6_2]); (try simp only [hl6_3]); (with_reducible repeat (first | apply Kd.R_alloc | apply Kd.R_drewN | apply Kd.R_drew)); exact Kd.R_mono (Kd.R_far (p := ⟨gb107, 1, none⟩) (Kd.R_far (p := ⟨gb107, 0, none⟩) (Kd.R_types HO_6.out BK107.out (by decide)) (fun _ hk => hk.2) (.int .i64 ((rd_T90 l1 x39_3).f0))) (fun _ hk => hk.2) (.int .i64 ((rd_T90 l1 x39_3).f1))) (fun _ hk => trivial)⟩, ⟨by (try simp only [hl6_2]); (try simp only [hl6_3]); (with_reducible repeat (first | refine blk_drewN ?_ _ | refine blk_drew ?_ | refine blk_alloc ?_ _)); refine blk_put (cs := #[.int .i64 ((rd_T90 l1 x39_3).f0), .int .i64 0]) ?_ 1 _ rfl; (with_reducible repeat (first | refine blk_drewN ?_ _ | refine blk_drew ?_ | refine blk_alloc ?_ _)); refine blk_put (cs := #[.int .i64 0, .int .i64 0]) ?_ 0 _ rfl; (with_reducible repeat (first | refine blk_drewN ?_ _ | refine blk_drew ?_ | refine blk_alloc ?_ _)); exact BK107.out⟩, ⟨by repeat (first | (with_reducible first | exact HB.out | apply below_alloc | apply pw_below_drewN | apply below_drew1 | refine below_set ?_ GE107.out) | exact HB.out)⟩⟩
                              · replace c25 := Bool.eq_false_iff.mpr c25
                                subst c25
                                have H1 : (spec_IslandsOf.j3 k3 a0 x6_3 l1 (l1.length : Int) x39_3 true ((rd_T90 l1 x39_3).f0) ((rd_T90 l1 x39_3).f1)) = some (r1, r2) := by rw [if_neg (show ¬ (false = true) by decide)] at H; exact H
                                clear H
                                have H := H1
                                clear H1
                                have H' := Aside0.mk H
                                clear H
                                have hcz28_0 : w22.cell? ⟨gb107, 0, none⟩ = some (.int .i64 0) := (blk_cell BK107.out 0).trans rfl
                                have hcz28_1 : w22.cell? ⟨gb107, 1, none⟩ = some (.int .i64 0) := (blk_cell BK107.out 1).trans rfl
                                have hfz28_0 := blk_frozen BK107.out 0
                                have hfz28_1 := blk_frozen BK107.out 1
                                go_wp2_with (first | ((with_reducible refine gate_callee (f := 55) rfl ?_); refine goesL_ (some 47) rfl rfl Try.func55 (by kernel_rfl) rfl #[.int .i64 ((rd_T90 l1 x39_3).f0), .int .i64 0, .int .i64 (wrap64 (a0 - 1))] rfl (by (try simp only [List.map_toArray, List.map_cons, List.map_nil]); first | done | rfl | (simp only [List.length_drop, List.length_take]; rfl)) ?_; (with_reducible refine (spec_l1In.calls ((rd_T90 l1 x39_3).f0) 0 (wrap64 (a0 - 1)) false _ A24.out).mono ?_); rintro e w' ⟨rfl, ⟨nd, rfl⟩⟩; refine ⟨_, rfl, ?_⟩))
                                go_meet
                                case rel => exact ⟨_, (true), (by first | rfl | (simp; done) | (simp [*]; done)), H', ⟨by have := HJ2.out; have := HK2.out; have := HK3.out; first | omega | exact Nat.le_refl _⟩, ⟨by (try simp only [hl6_2]); (try simp only [hl6_3]); (with_reducible repeat (first | apply Kd.R_alloc | apply Kd.R_drewN | apply Kd.R_drew)); exact Kd.R_mono (Kd.R_far (p := ⟨gb107, 1, none⟩) (Kd.R_far (p := ⟨gb107, 0, none⟩) (Kd.R_types HO_6.out BK107.out (by decide)) (fun _ hk => hk.2) (.int .i64 ((rd_T90 l1 x39_3).f0))) (fun _ hk => hk.2) (.int .i64 ((rd_T90 l1 x39_3).f1))) (fun _ hk => trivial)⟩, ⟨by (try simp only [hl6_2]); (try simp only [hl6_3]); (with_reducible repeat (first | refine blk_drewN ?_ _ | refine blk_drew ?_ | refine blk_alloc ?_ _)); refine blk_put (cs := #[.int .i64 ((rd_T90 l1 x39_3).f0), .int .i64 0]) ?_ 1 _ rfl; (with_reducible repeat (first | refine blk_drewN ?_ _ | refine blk_drew ?_ | refine blk_alloc ?_ _)); refine blk_put (cs := #[.int .i64 0, .int .i64 0]) ?_ 0 _ rfl; (with_reducible repeat (first | refine blk_drewN ?_ _ | refine blk_drew ?_ | refine blk_alloc ?_ _)); exact BK107.out⟩, ⟨by repeat (first | (with_reducible first | exact HB.out | apply below_alloc | apply pw_below_drewN | apply below_drew1 | refine below_set ?_ GE107.out) | exact HB.out)⟩⟩
                            case rest =>
                              clear HC21
                              try clear c1
                              try clear p1
                              try clear q1
                              try clear hx1
                              try clear c2
                              try clear p2
                              try clear c5
                              try clear c6
                              try clear p6
                              try clear c7
                              try clear c7b0
                              try clear c7b1
                              try clear c8
                              try clear c8b0
                              try clear c8b1
                              try clear p10
                              try clear q10
                              try clear hx10
                              try clear c12
                              try clear c12b0
                              try clear c13
                              try clear c13b0
                              try clear c14
                              try clear c14b0
                              try clear p15
                              try clear q15
                              try clear hx15
                              try clear hf15
                              try clear c17
                              try clear c18
                              try clear c18b0
                              try clear c19
                              try clear c19b0
                              try clear c20
                              try clear c20b0
                              try clear c25
                              try clear hcz23_0
                              try clear hcz23_1
                              try clear hcz27_0
                              try clear hcz27_1
                              try clear hcz28_0
                              try clear hcz28_1
                              try clear hfz23_0
                              try clear hfz23_1
                              try clear hfz27_0
                              try clear hfz27_1
                              try clear hfz28_0
                              try clear hfz28_1
                              try clear hx106_0
                              try clear hx106_1
                              try clear hx15_0
                              try clear p1
                              try clear p106
                              try clear p15
                              try clear p2
                              try clear p6
                              try clear q1
                              try clear q106
                              try clear q15
                              obtain ⟨kq, x59_20, rfl, HA, HJ20, HO_6, BK107, HB⟩ := hcut
                              cases kq with
                              | zero => exact absurd HA.out (by simp [spec_IslandsOf.j3])
                              | succ kj20 =>
                                have H := HA.out
                                clear HA
                                simp only [spec_IslandsOf.j3] at H
                                by_cases c29 : x59_20 = true
                                · subst c29
                                  have H1 : (some (([] : List (List Int)), false)) = some (r1, r2) := by rw [if_pos rfl] at H; exact H
                                  clear H
                                  have H := H1
                                  clear H1
                                  simp only [Option.some.injEq, Prod.mk.injEq] at H
                                  obtain ⟨rfl, rfl⟩ := H
                                  go_wp2
                                  go_ret2
                                  exact ⟨_, by first | rfl | (simp [errW_none, errW_some] <;> rfl) | (simp [*, errW_none, errW_some] <;> rfl), by first | exact Kd.S_nil _ _ _ _ _ | exact Kd.N_nil _ _ _ _ _ | exact Kd.V_nil _ _ _ _ _ | exact Kd.Q_nil _ _ _ _ _ | exact Kd.R_nil _ _ _ _ _, by repeat (first | (with_reducible first | exact HB.out | apply below_alloc | apply pw_below_drewN | apply below_drew1 | refine below_set ?_ GE107.out) | exact HB.out)⟩
                                · replace c29 := Bool.eq_false_iff.mpr c29
                                  subst c29
                                  have H1 : (if 0 ≤ ((rd_T90 l1 x39_3).f0) then (if ((rd_T90 l1 x39_3).f0) < (x6_3.length : Int) then (if 0 ≤ ((rd_T90 l1 x39_3).f1) then (if ((rd_T90 l1 x39_3).f1) < (x6_3.length : Int) then (if (rd x6_3 ((rd_T90 l1 x39_3).f0)) > (rd x6_3 ((rd_T90 l1 x39_3).f1)) then (spec_IslandsOf.j4 kj20 a0 x6_3 (rd x6_3 ((rd_T90 l1 x39_3).f1)) (rd x6_3 ((rd_T90 l1 x39_3).f0)) l1 (l1.length : Int) x39_3) else (spec_IslandsOf.j4 kj20 a0 x6_3 (rd x6_3 ((rd_T90 l1 x39_3).f0)) (rd x6_3 ((rd_T90 l1 x39_3).f1)) l1 (l1.length : Int) x39_3)) else (none)) else (none)) else (none)) else (none)) = some (r1, r2) := by rw [if_neg (show ¬ (false = true) by decide)] at H; exact H
                                  clear H
                                  have H := H1
                                  clear H1
                                  by_cases c30 : 0 ≤ ((rd_T90 l1 x39_3).f0)
                                  · rw [if_pos c30] at H
                                    have c30b0 : decide (0 ≤ ((rd_T90 l1 x39_3).f0)) = true := decide_eq_true c30
                                    clear c30
                                    by_cases c31 : ((rd_T90 l1 x39_3).f0) < (x6_3.length : Int)
                                    · rw [if_pos c31] at H
                                      have c31b0 : decide (((rd_T90 l1 x39_3).f0) < (x6_3.length : Int)) = true := decide_eq_true c31
                                      clear c31
                                      by_cases c32 : 0 ≤ ((rd_T90 l1 x39_3).f1)
                                      · rw [if_pos c32] at H
                                        have c32b0 : decide (0 ≤ ((rd_T90 l1 x39_3).f1)) = true := decide_eq_true c32
                                        clear c32
                                        by_cases c33 : ((rd_T90 l1 x39_3).f1) < (x6_3.length : Int)
                                        · rw [if_pos c33] at H
                                          have c33b0 : decide (((rd_T90 l1 x39_3).f1) < (x6_3.length : Int)) = true := decide_eq_true c33
                                          clear c33
                                          have HC34 := Aside0.mk H
                                          clear H
                                          have hcz35_0 : wc.cell? ⟨gb107, 0, none⟩ = some (.int .i64 ((rd_T90 l1 x39_3).f0)) := (blk_cell BK107.out 0).trans rfl
                                          have hcz35_1 : wc.cell? ⟨gb107, 1, none⟩ = some (.int .i64 ((rd_T90 l1 x39_3).f1)) := (blk_cell BK107.out 1).trans rfl
                                          have hfz35_0 := blk_frozen BK107.out 0
                                          have hfz35_1 := blk_frozen BK107.out 1
                                          have p110 : 0 ≤ (((rd_T90 l1 x39_3).f0) : Int) := of_decide_eq_true (by first | (with_reducible assumption) | assumption)
                                          have q110 : ((rd_T90 l1 x39_3).f0) < (x6_3.length : Int) := of_decide_eq_true (by first | (with_reducible assumption) | assumption)
                                          obtain ⟨ad110, e110, hx110_0⟩ := Kd.at_int (Kd.R_reads' HO_6.out).2.2 ((rd_T90 l1 x39_3).f0) p110 q110
                                          cases e110
                                          replace p110 := eq_true p110
                                          replace q110 := eq_true q110
                                          have p111 : 0 ≤ (((rd_T90 l1 x39_3).f1) : Int) := of_decide_eq_true (by first | (with_reducible assumption) | assumption)
                                          have q111 : ((rd_T90 l1 x39_3).f1) < (x6_3.length : Int) := of_decide_eq_true (by first | (with_reducible assumption) | assumption)
                                          obtain ⟨ad111, e111, hx111_0⟩ := Kd.at_int (Kd.R_reads' HO_6.out).2.2 ((rd_T90 l1 x39_3).f1) p111 q111
                                          obtain rfl : ad110 = ad111 := (by injection e111)
                                          replace p111 := eq_true p111
                                          replace q111 := eq_true q111
                                          go_upto_if 72 with (fail)
                                          go_cut [10, 11] (fun v10 v11 wc => ∃ (kq : Nat) (x10_33 : Int) (x11_33 : Int), v10 = .int .i64 x10_33 ∧ v11 = .int .i64 x11_33 ∧ Aside0 (spec_IslandsOf.j4 kq a0 x6_3 x10_33 x11_33 l1 (l1.length : Int) x39_3 = some (r1, r2)) ∧ Aside0 (kq ≤ kj20) ∧ Aside0 (Kd.R (Kd.int .i64) 3 wc w.heap.size (fun _ => True) (.slice (some ad110) x6_3.length co11) x6_3) ∧ Aside0 (wc.heap[gb107]? = some (.cells #[.int .i64 ((rd_T90 l1 x39_3).f0), .int .i64 ((rd_T90 l1 x39_3).f1)] 90 (0, 0))) ∧ Aside0 (Below w.heap.size w wc))
                                          case first =>
                                            have H := HC34.out
                                            clear HC34
                                            by_cases c36 : (rd x6_3 ((rd_T90 l1 x39_3).f0)) > (rd x6_3 ((rd_T90 l1 x39_3).f1))
                                            · rw [if_pos c36] at H
                                              have c36b0 : decide ((rd x6_3 ((rd_T90 l1 x39_3).f1)) < (rd x6_3 ((rd_T90 l1 x39_3).f0))) = true := decide_eq_true c36
                                              clear c36
                                              (first | rw [c36b0] | (simp only [i64_w, i32_w]; rw [c36b0]) | skip)
                                              have H' := Aside0.mk H
                                              clear H
                                              have hcz37_0 : wc.cell? ⟨gb107, 0, none⟩ = some (.int .i64 ((rd_T90 l1 x39_3).f0)) := (blk_cell BK107.out 0).trans rfl
                                              have hcz37_1 : wc.cell? ⟨gb107, 1, none⟩ = some (.int .i64 ((rd_T90 l1 x39_3).f1)) := (blk_cell BK107.out 1).trans rfl
                                              have hfz37_0 := blk_frozen BK107.out 0
                                              have hfz37_1 := blk_frozen BK107.out 1
                                              have p112 : 0 ≤ (((rd_T90 l1 x39_3).f1) : Int) := of_decide_eq_true (by first | (with_reducible assumption) | assumption)
                                              have q112 : ((rd_T90 l1 x39_3).f1) < (x6_3.length : Int) := of_decide_eq_true (by first | (with_reducible assumption) | assumption)
                                              obtain ⟨ad112, e112, hx112_0⟩ := Kd.at_int (Kd.R_reads' HO_6.out).2.2 ((rd_T90 l1 x39_3).f1) p112 q112
                                              obtain rfl : ad110 = ad112 := (by injection e112)
                                              replace p112 := eq_true p112
                                              replace q112 := eq_true q112
                                              have p113 : 0 ≤ (((rd_T90 l1 x39_3).f0) : Int) := of_decide_eq_true (by first | (with_reducible assumption) | assumption)
                                              have q113 : ((rd_T90 l1 x39_3).f0) < (x6_3.length : Int) := of_decide_eq_true (by first | (with_reducible assumption) | assumption)
                                              obtain ⟨ad113, e113, hx113_0⟩ := Kd.at_int (Kd.R_reads' HO_6.out).2.2 ((rd_T90 l1 x39_3).f0) p113 q113
                                              obtain rfl : ad110 = ad113 := (by injection e113)
                                              replace p113 := eq_true p113
                                              replace q113 := eq_true q113
                                              go_wp2
                                              go_meet
                                              case rel => exact ⟨_, (rd x6_3 ((rd_T90 l1 x39_3).f1)), (rd x6_3 ((rd_T90 l1 x39_3).f0)), (by first | rfl | (simp; done) | (simp [*]; done)), (by first | rfl | (simp; done) | (simp [*]; done)), H', ⟨by have := HJ2.out; have := HK2.out; have := HK3.out; have := HJ20.out; first | omega | exact Nat.le_refl _⟩, ⟨by (try simp only [hl6_2]); (try simp only [hl6_3]); (with_reducible repeat (first | apply Kd.R_alloc | apply Kd.R_drewN | apply Kd.R_drew)); exact HO_6.out⟩, ⟨by (try simp only [hl6_2]); (try simp only [hl6_3]); (with_reducible repeat (first | refine blk_drewN ?_ _ | refine blk_drew ?_ | refine blk_alloc ?_ _)); exact BK107.out⟩, ⟨by repeat (first | (with_reducible first | exact HB.out | apply below_alloc | apply pw_below_drewN | apply below_drew1 | refine below_set ?_ GE107.out) | exact HB.out)⟩⟩
                                            · rw [if_neg c36] at H
                                              have c36b0 : decide ((rd x6_3 ((rd_T90 l1 x39_3).f1)) < (rd x6_3 ((rd_T90 l1 x39_3).f0))) = false := decide_eq_false c36
                                              clear c36
                                              (first | rw [c36b0] | (simp only [i64_w, i32_w]; rw [c36b0]) | skip)
                                              have H' := Aside0.mk H
                                              clear H
                                              go_wp2
                                              go_meet
                                              case rel => exact ⟨_, (rd x6_3 ((rd_T90 l1 x39_3).f0)), (rd x6_3 ((rd_T90 l1 x39_3).f1)), (by first | rfl | (simp; done) | (simp [*]; done)), (by first | rfl | (simp; done) | (simp [*]; done)), H', ⟨by have := HJ2.out; have := HK2.out; have := HK3.out; have := HJ20.out; first | omega | exact Nat.le_refl _⟩, ⟨by (try simp only [hl6_2]); (try simp only [hl6_3]); (with_reducible repeat (first | apply Kd.R_alloc | apply Kd.R_drewN | apply Kd.R_drew)); exact HO_6.out⟩, ⟨by (try simp only [hl6_2]); (try simp only [hl6_3]); (with_reducible repeat (first | refine blk_drewN ?_ _ | refine blk_drew ?_ | refine blk_alloc ?_ _)); exact BK107.out⟩, ⟨by repeat (first | (with_reducible first | exact HB.out | apply below_alloc | apply pw_below_drewN | apply below_drew1 | refine below_set ?_ GE107.out) | exact HB.out)⟩⟩
                                          case rest =>
                                            clear HC34
                                            try clear c1
                                            try clear p1
                                            try clear q1
                                            try clear hx1
                                            try clear c2
                                            try clear p2
                                            try clear c3
                                            try clear c5
                                            try clear c6
                                            try clear p6
                                            try clear c7
                                            try clear c7b0
                                            try clear c7b1
                                            try clear c8
                                            try clear c8b0
                                            try clear c8b1
                                            try clear p10
                                            try clear q10
                                            try clear hx10
                                            try clear p11
                                            try clear q11
                                            try clear hx11
                                            try clear c12
                                            try clear c12b0
                                            try clear c13
                                            try clear c13b0
                                            try clear c14
                                            try clear c14b0
                                            try clear p15
                                            try clear q15
                                            try clear hx15
                                            try clear hf15
                                            try clear c17
                                            try clear c18
                                            try clear c18b0
                                            try clear c19
                                            try clear c19b0
                                            try clear c20
                                            try clear c20b0
                                            try clear c25
                                            try clear c29
                                            try clear c30
                                            try clear c30b0
                                            try clear c31
                                            try clear c31b0
                                            try clear c32
                                            try clear c32b0
                                            try clear c33
                                            try clear c33b0
                                            try clear c36
                                            try clear c36b0
                                            try clear hcz23_0
                                            try clear hcz23_1
                                            try clear hcz27_0
                                            try clear hcz27_1
                                            try clear hcz28_0
                                            try clear hcz28_1
                                            try clear hcz35_0
                                            try clear hcz35_1
                                            try clear hcz37_0
                                            try clear hcz37_1
                                            try clear hfz23_0
                                            try clear hfz23_1
                                            try clear hfz27_0
                                            try clear hfz27_1
                                            try clear hfz28_0
                                            try clear hfz28_1
                                            try clear hfz35_0
                                            try clear hfz35_1
                                            try clear hfz37_0
                                            try clear hfz37_1
                                            try clear hx106_0
                                            try clear hx106_1
                                            try clear hx110_0
                                            try clear hx111_0
                                            try clear hx112_0
                                            try clear hx113_0
                                            try clear hx15_0
                                            try clear p1
                                            try clear p10
                                            try clear p106
                                            try clear p110
                                            try clear p111
                                            try clear p112
                                            try clear p113
                                            try clear p15
                                            try clear p2
                                            try clear p6
                                            try clear q1
                                            try clear q10
                                            try clear q106
                                            try clear q110
                                            try clear q111
                                            try clear q112
                                            try clear q113
                                            try clear q15
                                            obtain ⟨kq, x10_33, x11_33, rfl, rfl, HA, HJ33, HO_6, BK107, HB⟩ := hcut
                                            cases kq with
                                            | zero => exact absurd HA.out (by simp [spec_IslandsOf.j4])
                                            | succ kj33 =>
                                              have H := HA.out
                                              clear HA
                                              simp only [spec_IslandsOf.j4] at H
                                              have H' := Aside0.mk H
                                              clear H
                                              go_wp2
                                              go_loopg [85] kj33 (fun kq v85 w' => ∃ (x6_6 : List Int) (x85_6 : Int), v85 = .int .i64 x85_6 ∧ Aside0 (spec_IslandsOf.l2 kq a0 x6_6 x10_33 x11_33 l1 (l1.length : Int) x39_3 (x6_3.length : Int) x85_6 = some (r1, r2)) ∧ Aside0 (kq ≤ kj33) ∧ Aside0 (Kd.R (Kd.int .i64) 3 w' w.heap.size (fun _ => True) (.slice (some ad110) x6_3.length co11) x6_6) ∧ Aside0 (w'.heap[gb107]? = some (.cells #[.int .i64 ((rd_T90 l1 x39_3).f0), .int .i64 ((rd_T90 l1 x39_3).f1)] 90 (0, 0))) ∧ Aside0 (Below w.heap.size w w'))
                                              case atStart => exact ⟨(x6_3), (0), (by first | rfl | (simp; done) | (simp [*]; done)), H', ⟨Nat.le_refl _⟩, ⟨by (try simp only [hl6_2]); (try simp only [hl6_3]); (with_reducible repeat (first | apply Kd.R_alloc | apply Kd.R_drewN | apply Kd.R_drew)); exact HO_6.out⟩, ⟨by (try simp only [hl6_2]); (try simp only [hl6_3]); (with_reducible repeat (first | refine blk_drewN ?_ _ | refine blk_drew ?_ | refine blk_alloc ?_ _)); exact BK107.out⟩, ⟨by repeat (first | (with_reducible first | exact HB.out | apply below_alloc | apply pw_below_drewN | apply below_drew1 | refine below_set ?_ GE107.out) | exact HB.out)⟩⟩
                                              case round =>
                                                clear H'
                                                try clear c1
                                                try clear p1
                                                try clear q1
                                                try clear hx1
                                                try clear c2
                                                try clear p2
                                                try clear c3
                                                try clear c5
                                                try clear c6
                                                try clear p6
                                                try clear c7
                                                try clear c7b0
                                                try clear c7b1
                                                try clear c8
                                                try clear c8b0
                                                try clear c8b1
                                                try clear p10
                                                try clear q10
                                                try clear hx10
                                                try clear p11
                                                try clear q11
                                                try clear hx11
                                                try clear c12
                                                try clear c12b0
                                                try clear c13
                                                try clear c13b0
                                                try clear c14
                                                try clear c14b0
                                                try clear p15
                                                try clear q15
                                                try clear hx15
                                                try clear hf15
                                                try clear c17
                                                try clear c18
                                                try clear c18b0
                                                try clear c19
                                                try clear c19b0
                                                try clear c20
                                                try clear c20b0
                                                try clear c25
                                                try clear c29
                                                try clear c30
                                                try clear c30b0
                                                try clear c31
                                                try clear c31b0
                                                try clear c32
                                                try clear c32b0
                                                try clear c33
                                                try clear c33b0
                                                try clear c36
                                                try clear c36b0
                                                try clear hcz23_0
                                                try clear hcz23_1
                                                try clear hcz27_0
                                                try clear hcz27_1
                                                try clear hcz28_0
                                                try clear hcz28_1
                                                try clear hcz35_0
                                                try clear hcz35_1
                                                try clear hcz37_0
                                                try clear hcz37_1
                                                try clear hfz23_0
                                                try clear hfz23_1
                                                try clear hfz27_0
                                                try clear hfz27_1
                                                try clear hfz28_0
                                                try clear hfz28_1
                                                try clear hfz35_0
                                                try clear hfz35_1
                                                try clear hfz37_0
                                                try clear hfz37_1
                                                try clear hx106_0
                                                try clear hx106_1
                                                try clear hx110_0
                                                try clear hx111_0
                                                try clear hx112_0
                                                try clear hx113_0
                                                try clear hx15_0
                                                try clear p1
                                                try clear p10
                                                try clear p106
                                                try clear p11
                                                try clear p110
                                                try clear p111
                                                try clear p112
                                                try clear p113
                                                try clear p15
                                                try clear p2
                                                try clear p6
                                                try clear q1
                                                try clear q10
                                                try clear q106
                                                try clear q11
                                                try clear q110
                                                try clear q111
                                                try clear q112
                                                try clear q113
                                                try clear q15
                                                obtain ⟨x6_6, x85_6, rfl, HA, HK6, HO_6, BK107, HB⟩ := hrel
                                                have hl6_6 := (Kd.R_reads' HO_6.out).1
                                                rw [hl6_6] at HO_6
                                                (try simp only [hl6_6])
                                                (try simp only [hl6_6] at BK107)
                                                cases gk with
                                                | zero => exact absurd HA.out (by simp [spec_IslandsOf.l2])
                                                | succ k6 =>
                                                  have H := HA.out
                                                  clear HA
                                                  simp only [spec_IslandsOf.l2] at H
                                                  by_cases c38 : x85_6 < (x6_3.length : Int)
                                                  · rw [if_pos c38] at H
                                                    have c38b0 : decide (x85_6 < (x6_3.length : Int)) = true := decide_eq_true c38
                                                    clear c38
                                                    by_cases c39 : 0 ≤ x85_6
                                                    · rw [if_pos c39] at H
                                                      have c39b0 : decide (0 ≤ x85_6) = true := decide_eq_true c39
                                                      clear c39
                                                      by_cases c40 : x85_6 < (x6_6.length : Int)
                                                      · rw [if_pos c40] at H
                                                        have c40b0 : decide (x85_6 < (x6_6.length : Int)) = true := decide_eq_true c40
                                                        clear c40
                                                        by_cases c41 : (rd x6_6 x85_6) = x11_33
                                                        · rw [if_pos c41] at H
                                                          have c41b0 : ((rd x6_6 x85_6) == x11_33) = true := beq_iff_eq.mpr c41
                                                          have c41b1 : ((rd x6_6 x85_6) != x11_33) = false := bne_eq_false_iff_eq.mpr c41
                                                          clear c41
                                                          obtain ⟨y115, hy115⟩ : ∃ y_ : List Int, y_ = (x6_6.set (x85_6 : Int).toNat x10_33) := ⟨_, rfl⟩
                                                          replace H : (spec_IslandsOf.l2 k6 a0 y115 x10_33 x11_33 l1 (l1.length : Int) x39_3 (x6_3.length : Int) (wrap64 (x85_6 + 1))) = some (r1, r2) := by first | (rw [hy115]; with_reducible exact H) | (have H2_ := (Option.bind_some _ _).symm.trans H; rw [hy115]; with_reducible exact H2_) | (have H2_ := (Option.bind_some _ _).symm.trans H; with_reducible exact H2_) | with_reducible exact H | (rw [hy115]; exact H) | exact H
                                                          have Ny115 := Aside0.mk hy115
                                                          clear hy115
                                                          have H' := Aside0.mk H
                                                          clear H
                                                          have p114 : 0 ≤ (x85_6 : Int) := of_decide_eq_true (by first | (with_reducible assumption) | assumption)
                                                          have q114 : x85_6 < (x6_6.length : Int) := of_decide_eq_true (by first | (with_reducible assumption) | assumption)
                                                          obtain ⟨ad114, e114, hx114_0⟩ := Kd.at_int (Kd.R_reads' HO_6.out).2.2 x85_6 p114 q114
                                                          obtain rfl : ad110 = ad114 := (by injection e114)
                                                          replace p114 := eq_true p114
                                                          replace q114 := eq_true q114
                                                          have p42 : 0 ≤ (x85_6 : Int) := of_decide_eq_true (by first | (with_reducible assumption) | assumption)
                                                          have q42 : (x85_6 : Int) < ((x6_6.length : Int) : Int) := of_decide_eq_true (by first | (with_reducible assumption) | assumption)
                                                          obtain ⟨go42, co42, eo42, gb42, gl42, cl42, HG42⟩ := Kd.R_form HO_6.out (by omega)
                                                          (first | cases eo42 | (injection eo42 with ea_ en_ ec_; (first | subst ea_ | (injection ea_ with ea_; subst ea_)); subst ec_; clear en_))
                                                          have GB42 := Aside0.mk gb42
                                                          have GG42 := Aside0.mk HG42
                                                          clear gb42 gl42 HG42
                                                          (first | simp only [add_plain] at hx110_0 | skip)
                                                          (first | simp only [add_plain] at hx111_0 | skip)
                                                          (first | simp only [add_plain] at hx112_0 | skip)
                                                          (first | simp only [add_plain] at hx113_0 | skip)
                                                          (first | simp only [add_plain] at hx114_0 | skip)
                                                          obtain ⟨hx42_0, hf42_0⟩ := Kd.R_celln 0 HO_6.out (x85_6 : Int) p42 q42
                                                          replace p42 := eq_true p42
                                                          replace q42 := eq_true q42
                                                          have HP43 := Kd.R_putg HO_6.out (x85_6 : Int) x10_33
                                                          go_wp2_with (first | ((with_reducible refine gate_store (t := 3) (p := 97) rfl ?_); refine store_event (t := 3) (p := 97) (v := ?vo_w44) (w1 := (wr.setCell ⟨go42, (x85_6 : Int).toNat, none⟩ (.int .i64 x10_33))) ?hg ?ho ?hn ?hr ?_; (case ho => rfl); (case hg => rfl); (case hn => rfl); (case hr => first | (go_simp; done) | (go_simp; rfl)); intro w44 hw; have hg : wr.grownBy w44 (some go42) := (by rw [hw]; exact HP43.2); have hp_ : Kd.R (Kd.int .i64) 3 w44 w.heap.size (fun _ => True) (.slice (some ⟨go42, 0, none⟩) x6_6.length co11) y115 := (by rw [hw, Ny115.out]; exact HP43.1); clear HP43; have n0_ := Aside0.mk (hp_); have n1_ := Aside0.mk (blk_grown (g := gb107) (o := .cells #[.int .i64 ((rd_T90 l1 x39_3).f0), .int .i64 ((rd_T90 l1 x39_3).f1)] 90 (0, 0)) (by (with_reducible repeat (first | refine blk_drewN ?_ _ | refine blk_drew ?_ | refine blk_alloc ?_ _)); exact BK107.out) hg (Kd.R_ne HO_6.out BK107.out (by decide))); have n2_ := Aside0.mk ((by rw [hw]; exact below_set (HB.out) GB42.out : Below w.heap.size w w44)); clear HO_6; clear BK107; clear HB; have HO_6 := n0_; have BK107 := n1_; have HB := n2_; clear n0_ n1_ n2_; clear hg hw hp_))
                                                          (try simp only [← hl6_6])
                                                          go_roundg k6
                                                          case measure => have := HJ2.out; have := HK2.out; have := HK3.out; have := HJ20.out; have := HJ33.out; have := HK6.out; omega
                                                          case rel => exact ⟨(y115), (wrap64 (x85_6 + 1)), (by first | rfl | (simp; done) | (simp [*]; done)), H', ⟨by have := HJ2.out; have := HK2.out; have := HK3.out; have := HJ20.out; have := HJ33.out; have := HK6.out; omega⟩, ⟨by (try simp only [hl6_2]); (try simp only [hl6_3]); (try simp only [hl6_6]); (with_reducible repeat (first | apply Kd.R_alloc | apply Kd.R_drewN | apply Kd.R_drew)); exact HO_6.out⟩, ⟨by (try simp only [hl6_2]); (try simp only [hl6_3]); (try simp only [hl6_6]); (with_reducible repeat (first | refine blk_drewN ?_ _ | refine blk_drew ?_ | refine blk_alloc ?_ _)); exact BK107.out⟩, ⟨by repeat (first | (with_reducible first | exact HB.out | apply below_alloc | apply pw_below_drewN | apply below_drew1 | refine below_set ?_ GE107.out) | exact HB.out)⟩⟩
                                                        · rw [if_neg c41] at H
                                                          have c41b0 : ((rd x6_6 x85_6) == x11_33) = false := beq_eq_false_iff_ne.mpr c41
                                                          have c41b1 : ((rd x6_6 x85_6) != x11_33) = true := bne_iff_ne.mpr c41
                                                          have H' := Aside0.mk H
                                                          clear H
                                                          have p114 : 0 ≤ (x85_6 : Int) := of_decide_eq_true (by first | (with_reducible assumption) | assumption)
                                                          have q114 : x85_6 < (x6_6.length : Int) := of_decide_eq_true (by first | (with_reducible assumption) | assumption)
                                                          obtain ⟨ad114, e114, hx114_0⟩ := Kd.at_int (Kd.R_reads' HO_6.out).2.2 x85_6 p114 q114
                                                          obtain rfl : ad110 = ad114 := (by injection e114)
                                                          replace p114 := eq_true p114
                                                          replace q114 := eq_true q114
                                                          go_wp2
                                                          (try simp only [← hl6_6])
                                                          go_roundg k6
                                                          case measure => have := HJ2.out; have := HK2.out; have := HK3.out; have := HJ20.out; have := HJ33.out; have := HK6.out; omega
                                                          case rel => exact ⟨(x6_6), (wrap64 (x85_6 + 1)), (by first | rfl | (simp; done) | (simp [*]; done)), H', ⟨by have := HJ2.out; have := HK2.out; have := HK3.out; have := HJ20.out; have := HJ33.out; have := HK6.out; omega⟩, ⟨by (try simp only [hl6_2]); (try simp only [hl6_3]); (try simp only [hl6_6]); (with_reducible repeat (first | apply Kd.R_alloc | apply Kd.R_drewN | apply Kd.R_drew)); exact HO_6.out⟩, ⟨by (try simp only [hl6_2]); (try simp only [hl6_3]); (try simp only [hl6_6]); (with_reducible repeat (first | refine blk_drewN ?_ _ | refine blk_drew ?_ | refine blk_alloc ?_ _)); exact BK107.out⟩, ⟨by repeat (first | (with_reducible first | exact HB.out | apply below_alloc | apply pw_below_drewN | apply below_drew1 | refine below_set ?_ GE107.out) | exact HB.out)⟩⟩
                                                      · rw [if_neg c40] at H
                                                        exact absurd H (by simp)
                                                    · rw [if_neg c39] at H
                                                      exact absurd H (by simp)
                                                  · rw [if_neg c38] at H
                                                    have c38b0 : decide (x85_6 < (x6_3.length : Int)) = false := decide_eq_false c38; (try (have c38bx := c38b0; rw [hl6_2] at c38bx)); (try (have c38by := c38b0; rw [hl6_6] at c38by))
                                                    clear c38
                                                    have H' := Aside0.mk H
                                                    clear H
                                                    go_wp2
                                                    (try simp only [← hl6_3, ← hl6_6])
                                                    go_roundg k6
                                                    case measure => have := HJ2.out; have := HK2.out; have := HK3.out; have := HJ20.out; have := HJ33.out; have := HK6.out; omega
                                                    case rel => exact ⟨(x6_6), (wrap64 (x39_3 + 1)), (by first | rfl | (simp; done) | (simp [*]; done)), H', ⟨by have := HJ2.out; have := HK2.out; have := HK3.out; have := HJ20.out; have := HJ33.out; have := HK6.out; omega⟩, ⟨by (try simp only [hl6_2]); (try simp only [hl6_3]); (try simp only [hl6_6]); (with_reducible repeat (first | apply Kd.R_alloc | apply Kd.R_drewN | apply Kd.R_drew)); exact HO_6.out⟩, ⟨by repeat (first | (with_reducible first | exact HB.out | apply below_alloc | apply pw_below_drewN | apply below_drew1 | refine below_set ?_ GE107.out) | exact HB.out)⟩⟩
                                        · rw [if_neg c33] at H
                                          exact absurd H (by simp)
                                      · rw [if_neg c32] at H
                                        exact absurd H (by simp)
                                    · rw [if_neg c31] at H
                                      exact absurd H (by simp)
                                  · rw [if_neg c30] at H
                                    exact absurd H (by simp)
                          · rw [if_neg c20] at H
                            exact absurd H (by simp)
                        · rw [if_neg c19] at H
                          exact absurd H (by simp)
                      · rw [if_neg c18] at H
                        have c18b0 : decide (x39_3 < (l1.length : Int)) = false := decide_eq_false c18
                        clear c18
                        have H' := Aside0.mk H
                        clear H
                        go_wp2
                        go_loopg [13, 102] k3 (fun kq v13 v102 w' => ∃ (x13_4 : List (List Int)) (x102_4 : Int), v102 = .int .i64 x102_4 ∧ Aside0 (spec_IslandsOf.l3 kq x6_3 x13_4 (x6_3.length : Int) x102_4 = some (r1, r2)) ∧ Aside0 (kq ≤ k3) ∧ Aside0 (Kd.R (Kd.int .i64) 3 w' w.heap.size (fun _ => True) (.slice Ao11 x6_3.length co11) x6_3) ∧ Aside0 (Kd.S (Kd.slice 3 (Kd.int .i64)) 74 w' w.heap.size (fun k_ => some k_ ≠ ((.slice Ao11 x6_3.length co11) : Value).ownBlock) v13 x13_4) ∧ Aside0 (Below w.heap.size w w'))
                        case atStart => exact ⟨(([] : List (List Int))), (0), (by first | rfl | (simp; done) | (simp [*]; done)), H', ⟨Nat.le_refl _⟩, ⟨by (try simp only [hl6_2]); (try simp only [hl6_3]); (with_reducible repeat (first | apply Kd.R_alloc | apply Kd.R_drewN | apply Kd.R_drew)); exact HO_6.out⟩, ⟨by (try simp only [hl6_2]); (try simp only [hl6_3]); first | exact Kd.S_nil _ _ _ _ _ | exact Kd.N_nil _ _ _ _ _ | exact Kd.V_nil _ _ _ _ _ | exact Kd.Q_nil _ _ _ _ _ | exact Kd.R_nil _ _ _ _ _⟩, ⟨by repeat (first | (with_reducible first | exact HB.out | apply below_alloc | apply pw_below_drewN | apply below_drew1) | exact HB.out)⟩⟩
                        case round =>
                          clear H'
                          try clear c1
                          try clear p1
                          try clear q1
                          try clear hx1
                          try clear c2
                          try clear p2
                          try clear c3
                          try clear c4
                          try clear p4
                          try clear q4
                          try clear hx4
                          try clear hf4
                          try clear c5
                          try clear c6
                          try clear p6
                          try clear c7
                          try clear c7b0
                          try clear c7b1
                          try clear c8
                          try clear c8b0
                          try clear c8b1
                          try clear p10
                          try clear q10
                          try clear hx10
                          try clear p11
                          try clear q11
                          try clear hx11
                          try clear c12
                          try clear c12b0
                          try clear c13
                          try clear c13b0
                          try clear c14
                          try clear c14b0
                          try clear p15
                          try clear q15
                          try clear hx15
                          try clear hf15
                          try clear c17
                          try clear c18
                          try clear c18b0
                          try clear c19
                          try clear c19b0
                          try clear c20
                          try clear c20b0
                          try clear c25
                          try clear c29
                          try clear c30
                          try clear c30b0
                          try clear c31
                          try clear c31b0
                          try clear c32
                          try clear c32b0
                          try clear c33
                          try clear c33b0
                          try clear c36
                          try clear c36b0
                          try clear c38
                          try clear c38b0
                          try clear c39
                          try clear c39b0
                          try clear c40
                          try clear c40b0
                          try clear c41
                          try clear c41b0
                          try clear c41b1
                          try clear p42
                          try clear q42
                          try clear hx42
                          try clear hf42
                          try clear hcz23_0
                          try clear hcz23_1
                          try clear hcz27_0
                          try clear hcz27_1
                          try clear hcz28_0
                          try clear hcz28_1
                          try clear hcz35_0
                          try clear hcz35_1
                          try clear hcz37_0
                          try clear hcz37_1
                          try clear hfz23_0
                          try clear hfz23_1
                          try clear hfz27_0
                          try clear hfz27_1
                          try clear hfz28_0
                          try clear hfz28_1
                          try clear hfz35_0
                          try clear hfz35_1
                          try clear hfz37_0
                          try clear hfz37_1
                          try clear hx106_0
                          try clear hx106_1
                          try clear hx110_0
                          try clear hx111_0
                          try clear hx112_0
                          try clear hx113_0
                          try clear hx114_0
                          try clear hx15_0
                          try clear hx42_0
                          try clear p1
                          try clear p10
                          try clear p106
                          try clear p11
                          try clear p110
                          try clear p111
                          try clear p112
                          try clear p113
                          try clear p114
                          try clear p15
                          try clear p2
                          try clear p42
                          try clear p6
                          try clear q1
                          try clear q10
                          try clear q106
                          try clear q11
                          try clear q110
                          try clear q111
                          try clear q112
                          try clear q113
                          try clear q114
                          try clear q15
                          try clear q42
                          obtain ⟨x13_4, x102_4, rfl, HA, HK4, HO_6, HO_13, HB⟩ := hrel
                          cases gk with
                          | zero => exact absurd HA.out (by simp [spec_IslandsOf.l3])
                          | succ k4 =>
                            have H := HA.out
                            clear HA
                            simp only [spec_IslandsOf.l3] at H
                            by_cases c45 : x102_4 < (x6_3.length : Int)
                            · rw [if_pos c45] at H
                              have c45b0 : decide (x102_4 < (x6_3.length : Int)) = true := decide_eq_true c45
                              clear c45
                              by_cases c46 : 0 ≤ x102_4
                              · rw [if_pos c46] at H
                                have c46b0 : decide (0 ≤ x102_4) = true := decide_eq_true c46
                                clear c46
                                by_cases c47 : x102_4 < (x6_3.length : Int)
                                · rw [if_pos c47] at H
                                  have c47b0 : decide (x102_4 < (x6_3.length : Int)) = true := decide_eq_true c47
                                  clear c47
                                  by_cases c48 : (rd x6_3 x102_4) = x102_4
                                  · rw [if_pos c48] at H
                                    have c48b0 : ((rd x6_3 x102_4) == x102_4) = true := beq_iff_eq.mpr c48
                                    have c48b1 : ((rd x6_3 x102_4) != x102_4) = false := bne_eq_false_iff_eq.mpr c48
                                    clear c48
                                    have H' := Aside0.mk H
                                    clear H
                                    have p116 : 0 ≤ (x102_4 : Int) := of_decide_eq_true (by first | (with_reducible assumption) | assumption)
                                    have q116 : x102_4 < (x6_3.length : Int) := of_decide_eq_true (by first | (with_reducible assumption) | assumption)
                                    obtain ⟨ad116, e116, hx116_0⟩ := Kd.at_int (Kd.R_reads' HO_6.out).2.2 x102_4 p116 q116
                                    cases e116
                                    replace p116 := eq_true p116
                                    replace q116 := eq_true q116
                                    go_wp2
                                    go_loopg [15, 113] k4 (fun kq v15 v113 w' => ∃ (x15_5 : List Int) (x113_5 : Int), v113 = .int .i64 x113_5 ∧ Aside0 (spec_IslandsOf.l4 kq x6_3 x13_4 x102_4 x15_5 (x6_3.length : Int) x102_4 (x6_3.length : Int) x113_5 = some (r1, r2)) ∧ Aside0 (kq ≤ k4) ∧ Aside0 (Kd.R (Kd.int .i64) 3 w' w.heap.size (fun k_ => some k_ ≠ (v15 : Value).ownBlock) (.slice (some ad116) x6_3.length co11) x6_3) ∧ Aside0 (Kd.S (Kd.slice 3 (Kd.int .i64)) 74 w' w.heap.size (fun k_ => some k_ ≠ ((.slice (some ad116) x6_3.length co11) : Value).ownBlock ∧ some k_ ≠ (v15 : Value).ownBlock) u13 x13_4) ∧ Aside0 (Kd.R (Kd.int .i64) 3 w' w.heap.size (fun k_ => some k_ ≠ ((.slice (some ad116) x6_3.length co11) : Value).ownBlock) v15 x15_5) ∧ Aside0 (Below w.heap.size w w'))
                                    case atStart => exact ⟨(([] : List Int)), (0), (by first | rfl | (simp; done) | (simp [*]; done)), H', ⟨Nat.le_refl _⟩, ⟨by (try simp only [hl6_2]); (try simp only [hl6_3]); (with_reducible repeat (first | apply Kd.R_alloc | apply Kd.R_drewN | apply Kd.R_drew)); exact Kd.R_mono HO_6.out (fun _ hk => (by simp [Value.ownBlock]))⟩, ⟨by (try simp only [hl6_2]); (try simp only [hl6_3]); (with_reducible repeat (first | apply Kd.S_alloc | apply Kd.S_drewN | apply Kd.S_drew)); exact Kd.S_mono HO_13.out (fun _ hk => ⟨hk, (by simp [Value.ownBlock])⟩)⟩, ⟨by (try simp only [hl6_2]); (try simp only [hl6_3]); first | exact Kd.R_nil _ _ _ _ _ | exact Kd.N_nil _ _ _ _ _ | exact Kd.V_nil _ _ _ _ _ | exact Kd.Q_nil _ _ _ _ _ | exact Kd.S_nil _ _ _ _ _⟩, ⟨by repeat (first | (with_reducible first | exact HB.out | apply below_alloc | apply pw_below_drewN | apply below_drew1) | exact HB.out)⟩⟩
                                    case round =>
                                      clear H'
                                      try clear c1
                                      try clear p1
                                      try clear q1
                                      try clear hx1
                                      try clear c2
                                      try clear p2
                                      try clear c3
                                      try clear c4
                                      try clear p4
                                      try clear q4
                                      try clear hx4
                                      try clear hf4
                                      try clear c5
                                      try clear c6
                                      try clear p6
                                      try clear c7
                                      try clear c7b0
                                      try clear c7b1
                                      try clear c8
                                      try clear c8b0
                                      try clear c8b1
                                      try clear p10
                                      try clear q10
                                      try clear hx10
                                      try clear p11
                                      try clear q11
                                      try clear hx11
                                      try clear c12
                                      try clear c12b0
                                      try clear c13
                                      try clear c13b0
                                      try clear c14
                                      try clear c14b0
                                      try clear p15
                                      try clear q15
                                      try clear hx15
                                      try clear hf15
                                      try clear c17
                                      try clear c18
                                      try clear c18b0
                                      try clear c19
                                      try clear c19b0
                                      try clear c20
                                      try clear c20b0
                                      try clear c25
                                      try clear c29
                                      try clear c30
                                      try clear c30b0
                                      try clear c31
                                      try clear c31b0
                                      try clear c32
                                      try clear c32b0
                                      try clear c33
                                      try clear c33b0
                                      try clear c36
                                      try clear c36b0
                                      try clear c38
                                      try clear c38b0
                                      try clear c39
                                      try clear c39b0
                                      try clear c40
                                      try clear c40b0
                                      try clear c41
                                      try clear c41b0
                                      try clear c41b1
                                      try clear p42
                                      try clear q42
                                      try clear hx42
                                      try clear hf42
                                      try clear c45
                                      try clear c45b0
                                      try clear c46
                                      try clear c46b0
                                      try clear c47
                                      try clear c47b0
                                      try clear c48
                                      try clear c48b0
                                      try clear c48b1
                                      try clear hcz23_0
                                      try clear hcz23_1
                                      try clear hcz27_0
                                      try clear hcz27_1
                                      try clear hcz28_0
                                      try clear hcz28_1
                                      try clear hcz35_0
                                      try clear hcz35_1
                                      try clear hcz37_0
                                      try clear hcz37_1
                                      try clear hfz23_0
                                      try clear hfz23_1
                                      try clear hfz27_0
                                      try clear hfz27_1
                                      try clear hfz28_0
                                      try clear hfz28_1
                                      try clear hfz35_0
                                      try clear hfz35_1
                                      try clear hfz37_0
                                      try clear hfz37_1
                                      try clear hx106_0
                                      try clear hx106_1
                                      try clear hx110_0
                                      try clear hx111_0
                                      try clear hx112_0
                                      try clear hx113_0
                                      try clear hx114_0
                                      try clear hx116_0
                                      try clear hx15_0
                                      try clear hx42_0
                                      try clear p1
                                      try clear p10
                                      try clear p106
                                      try clear p11
                                      try clear p110
                                      try clear p111
                                      try clear p112
                                      try clear p113
                                      try clear p114
                                      try clear p116
                                      try clear p15
                                      try clear p2
                                      try clear p4
                                      try clear p42
                                      try clear p6
                                      try clear q1
                                      try clear q10
                                      try clear q106
                                      try clear q11
                                      try clear q110
                                      try clear q111
                                      try clear q112
                                      try clear q113
                                      try clear q114
                                      try clear q116
                                      try clear q15
                                      try clear q4
                                      try clear q42
                                      obtain ⟨x15_5, x113_5, rfl, HA, HK5, HO_6, HO_13, HO_15, HB⟩ := hrel
                                      cases gk with
                                      | zero => exact absurd HA.out (by simp [spec_IslandsOf.l4])
                                      | succ k5 =>
                                        have H := HA.out
                                        clear HA
                                        simp only [spec_IslandsOf.l4] at H
                                        by_cases c49 : x113_5 < (x6_3.length : Int)
                                        · rw [if_pos c49] at H
                                          have c49b0 : decide (x113_5 < (x6_3.length : Int)) = true := decide_eq_true c49
                                          clear c49
                                          by_cases c50 : 0 ≤ x113_5
                                          · rw [if_pos c50] at H
                                            have c50b0 : decide (0 ≤ x113_5) = true := decide_eq_true c50
                                            clear c50
                                            by_cases c51 : x113_5 < (x6_3.length : Int)
                                            · rw [if_pos c51] at H
                                              have c51b0 : decide (x113_5 < (x6_3.length : Int)) = true := decide_eq_true c51
                                              clear c51
                                              by_cases c52 : (rd x6_3 x113_5) = x102_4
                                              · rw [if_pos c52] at H
                                                have c52b0 : ((rd x6_3 x113_5) == x102_4) = true := beq_iff_eq.mpr c52
                                                have c52b1 : ((rd x6_3 x113_5) != x102_4) = false := bne_eq_false_iff_eq.mpr c52
                                                clear c52
                                                by_cases c53 : x15_5.length < 17592186044416
                                                · rw [if_pos c53] at H
                                                  have LMc53 := Aside0.mk c53
                                                  clear c53
                                                  obtain ⟨y118, hy118⟩ : ∃ y_ : List Int, y_ = (x15_5 ++ [x113_5]) := ⟨_, rfl⟩
                                                  replace H : (spec_IslandsOf.l4 k5 x6_3 x13_4 x102_4 y118 (x6_3.length : Int) x102_4 (x6_3.length : Int) (wrap64 (x113_5 + 1))) = some (r1, r2) := by first | (rw [hy118]; with_reducible exact H) | (have H2_ := (Option.bind_some _ _).symm.trans H; rw [hy118]; with_reducible exact H2_) | (have H2_ := (Option.bind_some _ _).symm.trans H; with_reducible exact H2_) | with_reducible exact H | (rw [hy118]; exact H) | exact H
                                                  have Ny118 := Aside0.mk hy118
                                                  clear hy118
                                                  have H' := Aside0.mk H
                                                  clear H
                                                  have p117 : 0 ≤ (x113_5 : Int) := of_decide_eq_true (by first | (with_reducible assumption) | assumption)
                                                  have q117 : x113_5 < (x6_3.length : Int) := of_decide_eq_true (by first | (with_reducible assumption) | assumption)
                                                  obtain ⟨ad117, e117, hx117_0⟩ := Kd.at_int (Kd.R_reads' HO_6.out).2.2 x113_5 p117 q117
                                                  obtain rfl : ad116 = ad117 := (by injection e117)
                                                  replace p117 := eq_true p117
                                                  replace q117 := eq_true q117
                                                  go_wp2_with (first | ((with_reducible refine gate_builtin (b := .append) (xs := #[.tmp 122, .tmp 124]) rfl ?_); (try (refine gate_guard (by rfl) ?_; dsimp only)); at_builtin; refine Kd.R_append (Kd.int .i64) (w0 := w) w.heap.size rfl (.tmp 122) (.tmp 124) 74 3 (.int .i64 0) 8 rfl Try.underlying74 info3 rfl (by decide) (by omega) u15 x15_5 x113_5 [.int .i64 x113_5] (fun k_ => some k_ ≠ (.slice (some ad116) x6_3.length co11 : Value).ownBlock) (fun _ => False) rfl rfl ?aP (fun _ hk => hk.elim) ?aF ?aO ?aB ?aS ?aL ?_; (case aP => exact rfl); (case aB => exact (by repeat (first | (with_reducible first | exact HB.out | apply below_alloc | apply pw_below_drewN | apply below_drew1) | exact HB.out))); (case aF => exact (fun k_ hk => Kd.fresh' (Kd.R_lt (by (with_reducible repeat (first | apply Kd.R_alloc | apply Kd.R_drewN | apply Kd.R_drew)); exact HO_6.out)) k_ hk)); (case aO => exact (by (with_reducible repeat (first | apply Kd.R_alloc | apply Kd.R_drewN | apply Kd.R_drew)); exact HO_15.out)); (case aS => exact (below_size (by repeat (first | (with_reducible first | exact HB.out | apply below_alloc | apply pw_below_drewN | apply below_drew1) | exact HB.out)))); (case aL => have := LMc53.out; omega); intro v119 w54 ho hb hg hat; rw [← Ny118.out] at ho; have n0_ := Aside0.mk (Kd.R_after (ok := (fun _ => True)) (by (with_reducible repeat (first | apply Kd.R_alloc | apply Kd.R_drewN | apply Kd.R_drew)); exact Kd.R_mono HO_6.out (fun _ hk => ⟨trivial, hk⟩)) hg hat); have n1_ := Aside0.mk (Kd.S_after (ok := (fun k_ => some k_ ≠ (.slice (some ad116) x6_3.length co11 : Value).ownBlock)) (by (with_reducible repeat (first | apply Kd.S_alloc | apply Kd.S_drewN | apply Kd.S_drew)); exact HO_13.out) hg hat); have n2_ := Aside0.mk (hb); have n3_ := Aside0.mk (ho); clear HO_6; clear HO_13; clear HB; clear HO_15; have HO_6 := n0_; have HO_13 := n1_; have HB := n2_; have HO120 := n3_; clear n0_ n1_ n2_ n3_; clear ho hb hg hat))
                                                  go_roundg k5
                                                  case measure => have := HJ2.out; have := HK2.out; have := HK3.out; have := HK4.out; have := HK5.out; omega
                                                  case rel => exact ⟨(y118), (wrap64 (x113_5 + 1)), (by first | rfl | (simp; done) | (simp [*]; done)), H', ⟨by have := HJ2.out; have := HK2.out; have := HK3.out; have := HK4.out; have := HK5.out; omega⟩, ⟨by (try simp only [hl6_2]); (try simp only [hl6_3]); (with_reducible repeat (first | apply Kd.R_alloc | apply Kd.R_drewN | apply Kd.R_drew)); exact Kd.R_mono HO_6.out (fun _ hk => hk.2)⟩, ⟨by (try simp only [hl6_2]); (try simp only [hl6_3]); (with_reducible repeat (first | apply Kd.S_alloc | apply Kd.S_drewN | apply Kd.S_drew)); exact HO_13.out⟩, ⟨by (try simp only [hl6_2]); (try simp only [hl6_3]); (with_reducible repeat (first | apply Kd.R_alloc | apply Kd.R_drewN | apply Kd.R_drew)); exact HO120.out⟩, ⟨by repeat (first | (with_reducible first | exact HB.out | apply below_alloc | apply pw_below_drewN | apply below_drew1) | exact HB.out)⟩⟩
                                                · rw [if_neg c53] at H
                                                  exact absurd H (by simp)
                                              · rw [if_neg c52] at H
                                                have c52b0 : ((rd x6_3 x113_5) == x102_4) = false := beq_eq_false_iff_ne.mpr c52
                                                have c52b1 : ((rd x6_3 x113_5) != x102_4) = true := bne_iff_ne.mpr c52
                                                have H' := Aside0.mk H
                                                clear H
                                                have p117 : 0 ≤ (x113_5 : Int) := of_decide_eq_true (by first | (with_reducible assumption) | assumption)
                                                have q117 : x113_5 < (x6_3.length : Int) := of_decide_eq_true (by first | (with_reducible assumption) | assumption)
                                                obtain ⟨ad117, e117, hx117_0⟩ := Kd.at_int (Kd.R_reads' HO_6.out).2.2 x113_5 p117 q117
                                                obtain rfl : ad116 = ad117 := (by injection e117)
                                                replace p117 := eq_true p117
                                                replace q117 := eq_true q117
                                                go_wp2
                                                go_roundg k5
                                                case measure => have := HJ2.out; have := HK2.out; have := HK3.out; have := HK4.out; have := HK5.out; omega
                                                case rel => exact ⟨(x15_5), (wrap64 (x113_5 + 1)), (by first | rfl | (simp; done) | (simp [*]; done)), H', ⟨by have := HJ2.out; have := HK2.out; have := HK3.out; have := HK4.out; have := HK5.out; omega⟩, ⟨by (try simp only [hl6_2]); (try simp only [hl6_3]); (with_reducible repeat (first | apply Kd.R_alloc | apply Kd.R_drewN | apply Kd.R_drew)); exact HO_6.out⟩, ⟨by (try simp only [hl6_2]); (try simp only [hl6_3]); (with_reducible repeat (first | apply Kd.S_alloc | apply Kd.S_drewN | apply Kd.S_drew)); exact HO_13.out⟩, ⟨by (try simp only [hl6_2]); (try simp only [hl6_3]); (with_reducible repeat (first | apply Kd.R_alloc | apply Kd.R_drewN | apply Kd.R_drew)); exact HO_15.out⟩, ⟨by repeat (first | (with_reducible first | exact HB.out | apply below_alloc | apply pw_below_drewN | apply below_drew1) | exact HB.out)⟩⟩
                                            · rw [if_neg c51] at H
                                              exact absurd H (by simp)
                                          · rw [if_neg c50] at H
                                            exact absurd H (by simp)
                                        · rw [if_neg c49] at H
                                          have c49b0 : decide (x113_5 < (x6_3.length : Int)) = false := decide_eq_false c49; (try (have c49bx := c49b0; rw [hl6_2] at c49bx)); (try (have c49by := c49b0; rw [hl6_6] at c49by))
                                          clear c49
                                          by_cases c55 : x13_4.length < 5864062014805
                                          · rw [if_pos c55] at H
                                            have LMc55 := Aside0.mk c55
                                            clear c55
                                            obtain ⟨y121, hy121⟩ : ∃ y_ : List (List Int), y_ = (x13_4 ++ [x15_5]) := ⟨_, rfl⟩
                                            replace H : (spec_IslandsOf.l3 k5 x6_3 y121 (x6_3.length : Int) (wrap64 (x102_4 + 1))) = some (r1, r2) := by first | (rw [hy121]; with_reducible exact H) | (have H2_ := (Option.bind_some _ _).symm.trans H; rw [hy121]; with_reducible exact H2_) | (have H2_ := (Option.bind_some _ _).symm.trans H; with_reducible exact H2_) | with_reducible exact H | (rw [hy121]; exact H) | exact H
                                            have Ny121 := Aside0.mk hy121
                                            clear hy121
                                            have H' := Aside0.mk H
                                            clear H
                                            obtain ⟨Ao57, co57, eo57⟩ := Kd.R_slice HO_15.out
                                            subst eo57
                                            go_wp2_with (first | ((with_reducible refine gate_builtin (b := .append) (xs := #[.tmp 127, .tmp 129]) rfl ?_); (try (refine gate_guard (by rfl) ?_; dsimp only)); at_builtin; refine Kd.S_append (Kd.slice 3 (Kd.int .i64)) (w0 := w) w.heap.size rfl (.tmp 127) (.tmp 129) 40 74 (.slice none 0 0) 24 rfl Try.underlying40 info74 rfl (by decide) (by omega) u13 x13_4 x15_5 [.slice Ao57 x15_5.length co57] (fun k_ => some k_ ≠ (.slice (some ad116) x6_3.length co11 : Value).ownBlock) (fun k_ => some k_ = (.slice Ao57 x15_5.length co57 : Value).ownBlock) rfl rfl ?aP (fun k_ hk_ => ((Kd.R_mono (ok' := fun k_ => ((fun k_ => some k_ ≠ (.slice (some ad116) x6_3.length co11 : Value).ownBlock)) k_ ∧ some k_ ≠ (u13 : Value).ownBlock) (Kd.R_apart' (HO_15.out) (Kd.S_typed HO_13.out) (by decide)) (fun k_ hk => ⟨hk.1, hk.2⟩))).1 k_ hk_.symm) ?aF ?aO ?aB ?aS ?aL ?_; (case aP => exact Kd.M_row (Kd.R_mono (Kd.R_tight rfl (Kd.R_mono (ok' := fun k_ => ((fun k_ => some k_ ≠ (.slice (some ad116) x6_3.length co11 : Value).ownBlock)) k_ ∧ some k_ ≠ (u13 : Value).ownBlock) (Kd.R_apart' (HO_15.out) (Kd.S_typed HO_13.out) (by decide)) (fun k_ hk => ⟨hk.1, hk.2⟩))) (fun _ h_ => h_))); (case aB => exact (by repeat (first | (with_reducible first | exact HB.out | apply below_alloc | apply pw_below_drewN | apply below_drew1) | exact HB.out))); (case aF => exact (fun k_ hk => Kd.fresh' (Kd.R_lt (by (with_reducible repeat (first | apply Kd.R_alloc | apply Kd.R_drewN | apply Kd.R_drew)); exact HO_6.out)) k_ hk)); (case aO => exact (by (with_reducible repeat (first | apply Kd.S_alloc | apply Kd.S_drewN | apply Kd.S_drew)); exact Kd.S_mono HO_13.out (fun k_ hk => ⟨hk.1, fun e_ => hk.2 e_⟩))); (case aS => exact (below_size (by repeat (first | (with_reducible first | exact HB.out | apply below_alloc | apply pw_below_drewN | apply below_drew1) | exact HB.out)))); (case aL => have := LMc55.out; omega); intro v122 w56 ho hb hg hat; rw [← Ny121.out] at ho; have n0_ := Aside0.mk (Kd.R_over' (by (with_reducible repeat (first | apply Kd.R_alloc | apply Kd.R_drewN | apply Kd.R_drew)); exact HO_6.out) (Kd.S_typed (by (with_reducible repeat (first | apply Kd.S_alloc | apply Kd.S_drewN | apply Kd.S_drew)); exact HO_13.out)) (by decide) hg); have n1_ := Aside0.mk (hb); have n2_ := Aside0.mk (ho); clear HO_6; clear HB; clear HO_13; clear HO_15; have HO_6 := n0_; have HB := n1_; have HO123 := n2_; clear n0_ n1_ n2_; clear ho hb hg hat))
                                            go_roundg k5
                                            case measure => have := HJ2.out; have := HK2.out; have := HK3.out; have := HK4.out; have := HK5.out; omega
                                            case rel => exact ⟨(y121), (wrap64 (x102_4 + 1)), (by first | rfl | (simp; done) | (simp [*]; done)), H', ⟨by have := HJ2.out; have := HK2.out; have := HK3.out; have := HK4.out; have := HK5.out; omega⟩, ⟨by (try simp only [hl6_2]); (try simp only [hl6_3]); (with_reducible repeat (first | apply Kd.R_alloc | apply Kd.R_drewN | apply Kd.R_drew)); exact Kd.R_mono HO_6.out (fun _ hk => trivial)⟩, ⟨by (try simp only [hl6_2]); (try simp only [hl6_3]); (with_reducible repeat (first | apply Kd.S_alloc | apply Kd.S_drewN | apply Kd.S_drew)); exact HO123.out⟩, ⟨by repeat (first | (with_reducible first | exact HB.out | apply below_alloc | apply pw_below_drewN | apply below_drew1) | exact HB.out)⟩⟩
                                          · rw [if_neg c55] at H
                                            exact absurd H (by simp)
                                  · rw [if_neg c48] at H
                                    have c48b0 : ((rd x6_3 x102_4) == x102_4) = false := beq_eq_false_iff_ne.mpr c48
                                    have c48b1 : ((rd x6_3 x102_4) != x102_4) = true := bne_iff_ne.mpr c48
                                    have H' := Aside0.mk H
                                    clear H
                                    have p116 : 0 ≤ (x102_4 : Int) := of_decide_eq_true (by first | (with_reducible assumption) | assumption)
                                    have q116 : x102_4 < (x6_3.length : Int) := of_decide_eq_true (by first | (with_reducible assumption) | assumption)
                                    obtain ⟨ad116, e116, hx116_0⟩ := Kd.at_int (Kd.R_reads' HO_6.out).2.2 x102_4 p116 q116
                                    cases e116
                                    replace p116 := eq_true p116
                                    replace q116 := eq_true q116
                                    go_wp2
                                    go_roundg k4
                                    case measure => have := HJ2.out; have := HK2.out; have := HK3.out; have := HK4.out; omega
                                    case rel => exact ⟨(x13_4), (wrap64 (x102_4 + 1)), (by first | rfl | (simp; done) | (simp [*]; done)), H', ⟨by have := HJ2.out; have := HK2.out; have := HK3.out; have := HK4.out; omega⟩, ⟨by (try simp only [hl6_2]); (try simp only [hl6_3]); (with_reducible repeat (first | apply Kd.R_alloc | apply Kd.R_drewN | apply Kd.R_drew)); exact HO_6.out⟩, ⟨by (try simp only [hl6_2]); (try simp only [hl6_3]); (with_reducible repeat (first | apply Kd.S_alloc | apply Kd.S_drewN | apply Kd.S_drew)); exact HO_13.out⟩, ⟨by repeat (first | (with_reducible first | exact HB.out | apply below_alloc | apply pw_below_drewN | apply below_drew1) | exact HB.out)⟩⟩
                                · rw [if_neg c47] at H
                                  exact absurd H (by simp)
                              · rw [if_neg c46] at H
                                exact absurd H (by simp)
                            · rw [if_neg c45] at H
                              have c45b0 : decide (x102_4 < (x6_3.length : Int)) = false := decide_eq_false c45; (try (have c45bx := c45b0; rw [hl6_2] at c45bx)); (try (have c45by := c45b0; rw [hl6_6] at c45by))
                              clear c45
                              simp only [Option.some.injEq, Prod.mk.injEq] at H
                              obtain ⟨rfl, rfl⟩ := H
                              go_wp2
                              go_ret2
                              exact ⟨_, by first | rfl | (simp [errW_none, errW_some] <;> rfl) | (simp [*, errW_none, errW_some] <;> rfl), by (with_reducible repeat (first | apply Kd.S_alloc | apply Kd.S_drewN | apply Kd.S_drew)); exact Kd.S_mono HO_13.out (fun _ hk => trivial), by repeat (first | (with_reducible first | exact HB.out | apply below_alloc | apply pw_below_drewN | apply below_drew1) | exact HB.out)⟩
          · rw [if_neg c8] at H
            exact absurd H (by simp)
        · rw [if_neg c7] at H
          exact absurd H (by simp)

end Go.Proofs.Ytiaajmnmbjheoaa.PFnExactIslandsOf
