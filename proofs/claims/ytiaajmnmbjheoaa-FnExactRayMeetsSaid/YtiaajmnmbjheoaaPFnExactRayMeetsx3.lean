/- The machine's side of a law, function by function: a Lean function with the Go function's answers and the proof that the Go code comes to them. No condition. Written by this session's program over the kit's print, this session's own contracts set in. -/
import Derived.Test.YtiaajmnmbjheoaaPFnExactRayMeetsx0
import Derived.Test.YtiaajmnmbjheoaaPFnExactRayMeetsx1
import Derived.Test.YtiaajmnmbjheoaaPFnExactRayMeetsx2
namespace Go.Proofs.Ytiaajmnmbjheoaa.PFnExactRayMeets
open Go.RowKit Go.Proofs.YtiaajmnmbjheoaaW.PrintWords Go.Proofs.YtiaajmnmbjheoaaW.PrintLast Go.Proofs.YtiaajmnmbjheoaaW.PrintMore
attribute [local go_sem] max2_int min2_int max_two min_two max_three min_three max_four min_four   -- for this text's walks alone
set_option linter.unusedVariables false
set_option linter.unusedSimpArgs false

/-! ### spec_RayMeets: function 26 -/
mutual
def spec_RayMeets.j0 : Nat → List (S100) → Int → Int → Int → Int → Bool → Option ((List (S109)) × Bool)
 | 0, _, _, _, _, _, _ => none
 | k + 1, x0, x1, x2, x3, x4, x55 => if x55 = true then (some (([] : List (S109)), false)) else (spec_RayMeets.l0 k x1 x2 x3 x4 ([] : List (S109)) x0 (x0.length : Int) 0)
def spec_RayMeets.l0 : Nat → Int → Int → Int → Int → List (S109) → List (S100) → Int → Int → Option ((List (S109)) × Bool)
 | 0, _, _, _, _, _, _, _, _ => none
 | k + 1, x1, x2, x3, x4, x12, x56, x57, x58 => if x58 < x57 then (if 0 ≤ x58 then (if x58 < (x56.length : Int) then (if ((rd_T100 x56 x58).f0) = 1 then ((spec_l9Bounds.f ((rd_T100 x56 x58).f0) ((rd_T100 x56 x58).f1) ((rd_T100 x56 x58).f2) ((rd_T100 x56 x58).f3) ((rd_T100 x56 x58).f4)).bind fun bt138 => ((spec_l9Axis.f k 0 1 1 1 false x1 x3 bt138.1 bt138.2.2.1).bind fun bt142 => (if bt142.2.2.2.2.2 = true then ((spec_l9Axis.f k bt142.1 bt142.2.1 bt142.2.2.1 bt142.2.2.2.1 bt142.2.2.2.2.1 x2 x4 bt138.2.1 bt138.2.2.2).bind fun bt150 => (spec_RayMeets.j2 k x1 x2 x3 x4 x12 x58 bt150.2.2.2.2.1 bt150.2.2.2.2.2 x56 x57 x58 bt150.1 bt150.2.1 bt150.2.2.1 bt150.2.2.2.1)) else (spec_RayMeets.j2 k x1 x2 x3 x4 x12 x58 bt142.2.2.2.2.1 bt142.2.2.2.2.2 x56 x57 x58 bt142.1 bt142.2.1 bt142.2.2.1 bt142.2.2.2.1)))) else (spec_RayMeets.l0 k x1 x2 x3 x4 x12 x56 x57 (wrap64 (x58 + 1)))) else (none)) else (none)) else (some (x12, true))
def spec_RayMeets.j2 : Nat → Int → Int → Int → Int → List (S109) → Int → Bool → Bool → List (S100) → Int → Int → Int → Int → Int → Int → Option ((List (S109)) × Bool)
 | 0, _, _, _, _, _, _, _, _, _, _, _, _, _, _, _ => none
 | k + 1, x1, x2, x3, x4, x12, x13, x21, x22, x56, x57, x58, x149000, x149001, x150000, x150001 => if x22 = true then (if x21 = true then ((spec_l9Less.f x150000 x150001 x149000 x149001).bind fun t156 => (spec_RayMeets.j3 k x1 x2 x3 x4 x12 x13 x56 x57 x58 t156 x149000 x149001)) else (spec_RayMeets.j3 k x1 x2 x3 x4 x12 x13 x56 x57 x58 false x149000 x149001)) else (spec_RayMeets.j3 k x1 x2 x3 x4 x12 x13 x56 x57 x58 true x149000 x149001)
def spec_RayMeets.j3 : Nat → Int → Int → Int → Int → List (S109) → Int → List (S100) → Int → Int → Bool → Int → Int → Option ((List (S109)) × Bool)
 | 0, _, _, _, _, _, _, _, _, _, _, _, _ => none
 | k + 1, x1, x2, x3, x4, x12, x13, x56, x57, x58, x108, x149000, x149001 => if x108 = true then (spec_RayMeets.l0 k x1 x2 x3 x4 x12 x56 x57 (wrap64 (x58 + 1))) else (spec_RayMeets.l1 k x1 x2 x3 x4 x12 x13 (x12.length : Int) x56 x57 x58 x149000 x149001)
def spec_RayMeets.l1 : Nat → Int → Int → Int → Int → List (S109) → Int → Int → List (S100) → Int → Int → Int → Int → Option ((List (S109)) × Bool)
 | 0, _, _, _, _, _, _, _, _, _, _, _, _ => none
 | k + 1, x1, x2, x3, x4, x12, x13, x23, x56, x57, x58, x149000, x149001 => if x23 > 0 then (if 0 ≤ (wrap64 (x23 - 1)) then (if (wrap64 (x23 - 1)) < (x12.length : Int) then ((spec_l9Less.f x149000 x149001 ((rd_T109 x12 (wrap64 (x23 - 1))).f1) ((rd_T109 x12 (wrap64 (x23 - 1))).f2)).bind fun t159 => (if t159 = true then (spec_RayMeets.l1 k x1 x2 x3 x4 x12 x13 (wrap64 (x23 - 1)) x56 x57 x58 x149000 x149001) else (if 0 ≤ x23 then (if x23 ≤ (x12.length : Int) then ((some (x12.take (x23 : Int).toNat : List (S109))).bind fun y160 => (if ([] : List (S109)).length + y160.length < 5864062014805 then ((some (([] : List (S109)) ++ y160 : List (S109))).bind fun y164 => (if y164.length < 5864062014805 then ((some (y164 ++ [(⟨x13, x149000, x149001⟩ : S109)] : List (S109))).bind fun y167 => ((some (x12.drop (x23 : Int).toNat : List (S109))).bind fun y170 => (if y167.length + y170.length < 5864062014805 then (spec_RayMeets.l0 k x1 x2 x3 x4 (y167 ++ y170) x56 x57 (wrap64 (x58 + 1))) else (none)))) else (none))) else (none))) else (none)) else (none)))) else (none)) else (none)) else (if 0 ≤ x23 then (if x23 ≤ (x12.length : Int) then ((some (x12.take (x23 : Int).toNat : List (S109))).bind fun y177 => (if ([] : List (S109)).length + y177.length < 5864062014805 then ((some (([] : List (S109)) ++ y177 : List (S109))).bind fun y181 => (if y181.length < 5864062014805 then ((some (y181 ++ [(⟨x13, x149000, x149001⟩ : S109)] : List (S109))).bind fun y184 => ((some (x12.drop (x23 : Int).toNat : List (S109))).bind fun y187 => (if y184.length + y187.length < 5864062014805 then (spec_RayMeets.l0 k x1 x2 x3 x4 (y184 ++ y187) x56 x57 (wrap64 (x58 + 1))) else (none)))) else (none))) else (none))) else (none)) else (none))
end
def spec_RayMeets.f (k : Nat) (l0 : List (S100)) (a1 : Int) (a2 : Int) (a3 : Int) (a4 : Int) : Option ((List (S109)) × Bool) := (spec_l9Shapes.f k l0).bind fun t131 => (if t131 = true then ((spec_l1In.f a1 (-100000) 100000).bind fun t132 => (if t132 = true then ((spec_l1In.f a2 (-100000) 100000).bind fun t133 => (if t133 = true then ((spec_l1In.f a3 (-100000) 100000).bind fun t134 => (if t134 = true then ((spec_l1In.f a4 (-100000) 100000).bind fun t135 => (if t135 = true then (if a3 = 0 then (spec_RayMeets.j0 k l0 a1 a2 a3 a4 (a4 == 0)) else (spec_RayMeets.j0 k l0 a1 a2 a3 a4 false)) else (spec_RayMeets.j0 k l0 a1 a2 a3 a4 true))) else (spec_RayMeets.j0 k l0 a1 a2 a3 a4 true))) else (spec_RayMeets.j0 k l0 a1 a2 a3 a4 true))) else (spec_RayMeets.j0 k l0 a1 a2 a3 a4 true))) else (spec_RayMeets.j0 k l0 a1 a2 a3 a4 true))
theorem spec_RayMeets.mono_l : ∀ k, (∀ y0 y1 y2 y3 y4 y5, LeO (spec_RayMeets.j0 k y0 y1 y2 y3 y4 y5) (spec_RayMeets.j0 (k + 1) y0 y1 y2 y3 y4 y5)) ∧ (∀ y0 y1 y2 y3 y4 y5 y6 y7, LeO (spec_RayMeets.l0 k y0 y1 y2 y3 y4 y5 y6 y7) (spec_RayMeets.l0 (k + 1) y0 y1 y2 y3 y4 y5 y6 y7)) ∧ (∀ y0 y1 y2 y3 y4 y5 y6 y7 y8 y9 y10 y11 y12 y13 y14, LeO (spec_RayMeets.j2 k y0 y1 y2 y3 y4 y5 y6 y7 y8 y9 y10 y11 y12 y13 y14) (spec_RayMeets.j2 (k + 1) y0 y1 y2 y3 y4 y5 y6 y7 y8 y9 y10 y11 y12 y13 y14)) ∧ (∀ y0 y1 y2 y3 y4 y5 y6 y7 y8 y9 y10 y11, LeO (spec_RayMeets.j3 k y0 y1 y2 y3 y4 y5 y6 y7 y8 y9 y10 y11) (spec_RayMeets.j3 (k + 1) y0 y1 y2 y3 y4 y5 y6 y7 y8 y9 y10 y11)) ∧ (∀ y0 y1 y2 y3 y4 y5 y6 y7 y8 y9 y10 y11, LeO (spec_RayMeets.l1 k y0 y1 y2 y3 y4 y5 y6 y7 y8 y9 y10 y11) (spec_RayMeets.l1 (k + 1) y0 y1 y2 y3 y4 y5 y6 y7 y8 y9 y10 y11))
 | 0 => ⟨fun _ _ _ _ _ _ r h => by simp [spec_RayMeets.j0] at h, fun _ _ _ _ _ _ _ _ r h => by simp [spec_RayMeets.l0] at h, fun _ _ _ _ _ _ _ _ _ _ _ _ _ _ _ r h => by simp [spec_RayMeets.j2] at h, fun _ _ _ _ _ _ _ _ _ _ _ _ r h => by simp [spec_RayMeets.j3] at h, fun _ _ _ _ _ _ _ _ _ _ _ _ r h => by simp [spec_RayMeets.l1] at h⟩
 | k + 1 => by
  obtain ⟨ih0, ih1, ih2, ih3, ih4⟩ := spec_RayMeets.mono_l k
  refine ⟨?_, ?_, ?_, ?_, ?_⟩
  ·intro y0 y1 y2 y3 y4 y5
   unfold spec_RayMeets.j0
   repeat' first
   | (with_reducible exact ih0 _ _ _ _ _ _)
   | (with_reducible exact ih1 _ _ _ _ _ _ _ _)
   | (with_reducible exact ih2 _ _ _ _ _ _ _ _ _ _ _ _ _ _ _)
   | (with_reducible exact ih3 _ _ _ _ _ _ _ _ _ _ _ _)
   | (with_reducible exact ih4 _ _ _ _ _ _ _ _ _ _ _ _)
   | (with_reducible exact spec_l9Axis.mono _ _ _ _ _ _ _ _ _ _)
   | (with_reducible exact spec_l9Shapes.mono _ _)
   | (with_reducible exact LeO.refl _)
   | (with_reducible exact LeO.none _)
   | (with_reducible refine LeO.ite ?_ ?_)
   | (with_reducible refine LeO.bind ?_ (fun _ => ?_))
   | exact ih0 _ _ _ _ _ _
   | exact ih1 _ _ _ _ _ _ _ _
   | exact ih2 _ _ _ _ _ _ _ _ _ _ _ _ _ _ _
   | exact ih3 _ _ _ _ _ _ _ _ _ _ _ _
   | exact ih4 _ _ _ _ _ _ _ _ _ _ _ _
   | exact spec_l9Axis.mono _ _ _ _ _ _ _ _ _ _
   | exact spec_l9Shapes.mono _ _
   | exact LeO.none _
   | refine LeO.ite ?_ ?_
   | refine LeO.bind ?_ (fun _ => ?_)
  ·intro y0 y1 y2 y3 y4 y5 y6 y7
   unfold spec_RayMeets.l0
   repeat' first
   | (with_reducible exact ih0 _ _ _ _ _ _)
   | (with_reducible exact ih1 _ _ _ _ _ _ _ _)
   | (with_reducible exact ih2 _ _ _ _ _ _ _ _ _ _ _ _ _ _ _)
   | (with_reducible exact ih3 _ _ _ _ _ _ _ _ _ _ _ _)
   | (with_reducible exact ih4 _ _ _ _ _ _ _ _ _ _ _ _)
   | (with_reducible exact spec_l9Axis.mono _ _ _ _ _ _ _ _ _ _)
   | (with_reducible exact spec_l9Shapes.mono _ _)
   | (with_reducible exact LeO.refl _)
   | (with_reducible exact LeO.none _)
   | (with_reducible refine LeO.ite ?_ ?_)
   | (with_reducible refine LeO.bind ?_ (fun _ => ?_))
   | exact ih0 _ _ _ _ _ _
   | exact ih1 _ _ _ _ _ _ _ _
   | exact ih2 _ _ _ _ _ _ _ _ _ _ _ _ _ _ _
   | exact ih3 _ _ _ _ _ _ _ _ _ _ _ _
   | exact ih4 _ _ _ _ _ _ _ _ _ _ _ _
   | exact spec_l9Axis.mono _ _ _ _ _ _ _ _ _ _
   | exact spec_l9Shapes.mono _ _
   | exact LeO.none _
   | refine LeO.ite ?_ ?_
   | refine LeO.bind ?_ (fun _ => ?_)
  ·intro y0 y1 y2 y3 y4 y5 y6 y7 y8 y9 y10 y11 y12 y13 y14
   unfold spec_RayMeets.j2
   repeat' first
   | (with_reducible exact ih0 _ _ _ _ _ _)
   | (with_reducible exact ih1 _ _ _ _ _ _ _ _)
   | (with_reducible exact ih2 _ _ _ _ _ _ _ _ _ _ _ _ _ _ _)
   | (with_reducible exact ih3 _ _ _ _ _ _ _ _ _ _ _ _)
   | (with_reducible exact ih4 _ _ _ _ _ _ _ _ _ _ _ _)
   | (with_reducible exact spec_l9Axis.mono _ _ _ _ _ _ _ _ _ _)
   | (with_reducible exact spec_l9Shapes.mono _ _)
   | (with_reducible exact LeO.refl _)
   | (with_reducible exact LeO.none _)
   | (with_reducible refine LeO.ite ?_ ?_)
   | (with_reducible refine LeO.bind ?_ (fun _ => ?_))
   | exact ih0 _ _ _ _ _ _
   | exact ih1 _ _ _ _ _ _ _ _
   | exact ih2 _ _ _ _ _ _ _ _ _ _ _ _ _ _ _
   | exact ih3 _ _ _ _ _ _ _ _ _ _ _ _
   | exact ih4 _ _ _ _ _ _ _ _ _ _ _ _
   | exact spec_l9Axis.mono _ _ _ _ _ _ _ _ _ _
   | exact spec_l9Shapes.mono _ _
   | exact LeO.none _
   | refine LeO.ite ?_ ?_
   | refine LeO.bind ?_ (fun _ => ?_)
  ·intro y0 y1 y2 y3 y4 y5 y6 y7 y8 y9 y10 y11
   unfold spec_RayMeets.j3
   repeat' first
   | (with_reducible exact ih0 _ _ _ _ _ _)
   | (with_reducible exact ih1 _ _ _ _ _ _ _ _)
   | (with_reducible exact ih2 _ _ _ _ _ _ _ _ _ _ _ _ _ _ _)
   | (with_reducible exact ih3 _ _ _ _ _ _ _ _ _ _ _ _)
   | (with_reducible exact ih4 _ _ _ _ _ _ _ _ _ _ _ _)
   | (with_reducible exact spec_l9Axis.mono _ _ _ _ _ _ _ _ _ _)
   | (with_reducible exact spec_l9Shapes.mono _ _)
   | (with_reducible exact LeO.refl _)
   | (with_reducible exact LeO.none _)
   | (with_reducible refine LeO.ite ?_ ?_)
   | (with_reducible refine LeO.bind ?_ (fun _ => ?_))
   | exact ih0 _ _ _ _ _ _
   | exact ih1 _ _ _ _ _ _ _ _
   | exact ih2 _ _ _ _ _ _ _ _ _ _ _ _ _ _ _
   | exact ih3 _ _ _ _ _ _ _ _ _ _ _ _
   | exact ih4 _ _ _ _ _ _ _ _ _ _ _ _
   | exact spec_l9Axis.mono _ _ _ _ _ _ _ _ _ _
   | exact spec_l9Shapes.mono _ _
   | exact LeO.none _
   | refine LeO.ite ?_ ?_
   | refine LeO.bind ?_ (fun _ => ?_)
  ·intro y0 y1 y2 y3 y4 y5 y6 y7 y8 y9 y10 y11
   unfold spec_RayMeets.l1
   repeat' first
   | (with_reducible exact ih0 _ _ _ _ _ _)
   | (with_reducible exact ih1 _ _ _ _ _ _ _ _)
   | (with_reducible exact ih2 _ _ _ _ _ _ _ _ _ _ _ _ _ _ _)
   | (with_reducible exact ih3 _ _ _ _ _ _ _ _ _ _ _ _)
   | (with_reducible exact ih4 _ _ _ _ _ _ _ _ _ _ _ _)
   | (with_reducible exact spec_l9Axis.mono _ _ _ _ _ _ _ _ _ _)
   | (with_reducible exact spec_l9Shapes.mono _ _)
   | (with_reducible exact LeO.refl _)
   | (with_reducible exact LeO.none _)
   | (with_reducible refine LeO.ite ?_ ?_)
   | (with_reducible refine LeO.bind ?_ (fun _ => ?_))
   | exact ih0 _ _ _ _ _ _
   | exact ih1 _ _ _ _ _ _ _ _
   | exact ih2 _ _ _ _ _ _ _ _ _ _ _ _ _ _ _
   | exact ih3 _ _ _ _ _ _ _ _ _ _ _ _
   | exact ih4 _ _ _ _ _ _ _ _ _ _ _ _
   | exact spec_l9Axis.mono _ _ _ _ _ _ _ _ _ _
   | exact spec_l9Shapes.mono _ _
   | exact LeO.none _
   | refine LeO.ite ?_ ?_
   | refine LeO.bind ?_ (fun _ => ?_)
theorem spec_RayMeets.mono : ∀ a0 a1 a2 a3 a4 k, LeO (spec_RayMeets.f k a0 a1 a2 a3 a4) (spec_RayMeets.f (k + 1) a0 a1 a2 a3 a4) := by
 intro a0 a1 a2 a3 a4 k
 obtain ⟨ih0, ih1, ih2, ih3, ih4⟩ := spec_RayMeets.mono_l k
 unfold spec_RayMeets.f
 repeat' first
   | (with_reducible exact ih0 _ _ _ _ _ _)
   | (with_reducible exact ih1 _ _ _ _ _ _ _ _)
   | (with_reducible exact ih2 _ _ _ _ _ _ _ _ _ _ _ _ _ _ _)
   | (with_reducible exact ih3 _ _ _ _ _ _ _ _ _ _ _ _)
   | (with_reducible exact ih4 _ _ _ _ _ _ _ _ _ _ _ _)
   | (with_reducible exact spec_l9Axis.mono _ _ _ _ _ _ _ _ _ _)
   | (with_reducible exact spec_l9Shapes.mono _ _)
   | (with_reducible exact LeO.refl _)
   | (with_reducible exact LeO.none _)
   | (with_reducible refine LeO.ite ?_ ?_)
   | (with_reducible refine LeO.bind ?_ (fun _ => ?_))
   | exact ih0 _ _ _ _ _ _
   | exact ih1 _ _ _ _ _ _ _ _
   | exact ih2 _ _ _ _ _ _ _ _ _ _ _ _ _ _ _
   | exact ih3 _ _ _ _ _ _ _ _ _ _ _ _
   | exact ih4 _ _ _ _ _ _ _ _ _ _ _ _
   | exact spec_l9Axis.mono _ _ _ _ _ _ _ _ _ _
   | exact spec_l9Shapes.mono _ _
   | exact LeO.none _
   | refine LeO.ite ?_ ?_
   | refine LeO.bind ?_ (fun _ => ?_)
def spec_RayMeets.T14 : Bool × List (List Nat × List Nat) := (true, [([], []), ([0], [0]), ([1], [1]), ([2], [2]), ([2], [2]), ([2], [2]), ([5, 2], [2, 5]), ([4, 6, 2], [2, 4, 6]), ([7, 2], [2, 7]), ([8, 2], [2, 8]), ([2], [2]), ([2], [2]), ([11, 2], [2, 11]), ([10, 12, 2], [2, 10, 12]), ([13, 2], [2, 13]), ([14, 2], [2, 14]), ([9, 15, 2], [2, 9, 15]), ([3, 16, 2, 2], [2, 3, 16]), ([2, 17], [2, 17])])
def spec_RayMeets.B14 : List Nat := [0, 1, 3, 7, 7, 7, 39, 119, 247, 503, 7, 7, 2055, 7175, 15367, 31751, 65527, 131071, 262143]
theorem spec_RayMeets.tab14 : rtab .any (opsOf Try.f26 14) = spec_RayMeets.T14 := by kernel_rfl
theorem spec_RayMeets.bits14 : waitsOk spec_RayMeets.T14.2 spec_RayMeets.B14 = true := by kernel_rfl
set_option maxHeartbeats 8000000 in
set_option maxRecDepth 100000 in
theorem spec_RayMeets.calls (k : Nat) (A0 : Option Addr) (c0 : Nat) (l0 : List (S100)) (a1 : Int) (a2 : Int) (a3 : Int) (a4 : Int) (r1 : List (S109)) (r2 : Bool) (w : World) (hr0 : Kd.C k100 w A0 l0.length l0) (hc0 : l0.length ≤ c0) (h : spec_RayMeets.f k l0 a1 a2 a3 a4 = some (r1, r2)) :
  Calls Try.prog 26 #[.slice A0 l0.length c0, .int .i64 a1, .int .i64 a2, .int .i64 a3, .int .i64 a4] w fun e w' => ∃ v0_ : Value, e = .returned (.tuple #[v0_, .bool r2]) ∧ Kd.R k109 109 w' w.heap.size (fun _ => True) v0_ r1 ∧ Below w.heap.size w w' := by
 have hu100 := Try.underlying100
 have hu104 := Try.underlying104
 have hu109 := Try.underlying109
 have HR0 := Aside0.mk hr0
 have HC0 := Aside0.mk hc0
 clear hr0 hc0
 have HB := Aside0.mk (Below.refl w.heap.size w)
 have H : ((spec_l9Shapes.f k l0).bind fun t131 => (if t131 = true then ((spec_l1In.f a1 (-100000) 100000).bind fun t132 => (if t132 = true then ((spec_l1In.f a2 (-100000) 100000).bind fun t133 => (if t133 = true then ((spec_l1In.f a3 (-100000) 100000).bind fun t134 => (if t134 = true then ((spec_l1In.f a4 (-100000) 100000).bind fun t135 => (if t135 = true then (if a3 = 0 then (spec_RayMeets.j0 k l0 a1 a2 a3 a4 (a4 == 0)) else (spec_RayMeets.j0 k l0 a1 a2 a3 a4 false)) else (spec_RayMeets.j0 k l0 a1 a2 a3 a4 true))) else (spec_RayMeets.j0 k l0 a1 a2 a3 a4 true))) else (spec_RayMeets.j0 k l0 a1 a2 a3 a4 true))) else (spec_RayMeets.j0 k l0 a1 a2 a3 a4 true))) else (spec_RayMeets.j0 k l0 a1 a2 a3 a4 true))) = some (r1, r2) := h
 clear h
 have HC6 := Aside0.mk H
 clear H
 go_enter Try.func26, Try.ntmps26
 go_upto_region 1 with (fail)
 go_cut [55] (fun v55 wc => ∃ (kq : Nat) (x55_5 : Bool), v55 = .bool x55_5 ∧ Aside0 (spec_RayMeets.j0 kq l0 a1 a2 a3 a4 x55_5 = some (r1, r2)) ∧ Aside0 (kq ≤ k) ∧ Aside0 (Below w.heap.size w wc))
 case first =>
  have H := HC6.out
  clear HC6
  replace H := Option.bind_eq_some_iff.mp H
  obtain ⟨t131, A70, H⟩ := H
  replace H : (if t131 = true then ((spec_l1In.f a1 (-100000) 100000).bind fun t132 => (if t132 = true then ((spec_l1In.f a2 (-100000) 100000).bind fun t133 => (if t133 = true then ((spec_l1In.f a3 (-100000) 100000).bind fun t134 => (if t134 = true then ((spec_l1In.f a4 (-100000) 100000).bind fun t135 => (if t135 = true then (if a3 = 0 then (spec_RayMeets.j0 k l0 a1 a2 a3 a4 (a4 == 0)) else (spec_RayMeets.j0 k l0 a1 a2 a3 a4 false)) else (spec_RayMeets.j0 k l0 a1 a2 a3 a4 true))) else (spec_RayMeets.j0 k l0 a1 a2 a3 a4 true))) else (spec_RayMeets.j0 k l0 a1 a2 a3 a4 true))) else (spec_RayMeets.j0 k l0 a1 a2 a3 a4 true))) else (spec_RayMeets.j0 k l0 a1 a2 a3 a4 true)) = some (r1, r2) := H
  have A7 := Aside0.mk A70
  clear A70
  by_cases c8 : t131 = true
  ·subst c8
   have H1 : ((spec_l1In.f a1 (-100000) 100000).bind fun t132 => (if t132 = true then ((spec_l1In.f a2 (-100000) 100000).bind fun t133 => (if t133 = true then ((spec_l1In.f a3 (-100000) 100000).bind fun t134 => (if t134 = true then ((spec_l1In.f a4 (-100000) 100000).bind fun t135 => (if t135 = true then (if a3 = 0 then (spec_RayMeets.j0 k l0 a1 a2 a3 a4 (a4 == 0)) else (spec_RayMeets.j0 k l0 a1 a2 a3 a4 false)) else (spec_RayMeets.j0 k l0 a1 a2 a3 a4 true))) else (spec_RayMeets.j0 k l0 a1 a2 a3 a4 true))) else (spec_RayMeets.j0 k l0 a1 a2 a3 a4 true))) else (spec_RayMeets.j0 k l0 a1 a2 a3 a4 true))) = some (r1, r2) := by rw [if_pos rfl] at H; exact H
   clear H
   have H := H1
   clear H1
   replace H := Option.bind_eq_some_iff.mp H
   obtain ⟨t132, A90, H⟩ := H
   replace H : (if t132 = true then ((spec_l1In.f a2 (-100000) 100000).bind fun t133 => (if t133 = true then ((spec_l1In.f a3 (-100000) 100000).bind fun t134 => (if t134 = true then ((spec_l1In.f a4 (-100000) 100000).bind fun t135 => (if t135 = true then (if a3 = 0 then (spec_RayMeets.j0 k l0 a1 a2 a3 a4 (a4 == 0)) else (spec_RayMeets.j0 k l0 a1 a2 a3 a4 false)) else (spec_RayMeets.j0 k l0 a1 a2 a3 a4 true))) else (spec_RayMeets.j0 k l0 a1 a2 a3 a4 true))) else (spec_RayMeets.j0 k l0 a1 a2 a3 a4 true))) else (spec_RayMeets.j0 k l0 a1 a2 a3 a4 true)) = some (r1, r2) := H
   have A9 := Aside0.mk A90
   clear A90
   by_cases c10 : t132 = true
   ·subst c10
    have H1 : ((spec_l1In.f a2 (-100000) 100000).bind fun t133 => (if t133 = true then ((spec_l1In.f a3 (-100000) 100000).bind fun t134 => (if t134 = true then ((spec_l1In.f a4 (-100000) 100000).bind fun t135 => (if t135 = true then (if a3 = 0 then (spec_RayMeets.j0 k l0 a1 a2 a3 a4 (a4 == 0)) else (spec_RayMeets.j0 k l0 a1 a2 a3 a4 false)) else (spec_RayMeets.j0 k l0 a1 a2 a3 a4 true))) else (spec_RayMeets.j0 k l0 a1 a2 a3 a4 true))) else (spec_RayMeets.j0 k l0 a1 a2 a3 a4 true))) = some (r1, r2) := by rw [if_pos rfl] at H; exact H
    clear H
    have H := H1
    clear H1
    replace H := Option.bind_eq_some_iff.mp H
    obtain ⟨t133, A110, H⟩ := H
    replace H : (if t133 = true then ((spec_l1In.f a3 (-100000) 100000).bind fun t134 => (if t134 = true then ((spec_l1In.f a4 (-100000) 100000).bind fun t135 => (if t135 = true then (if a3 = 0 then (spec_RayMeets.j0 k l0 a1 a2 a3 a4 (a4 == 0)) else (spec_RayMeets.j0 k l0 a1 a2 a3 a4 false)) else (spec_RayMeets.j0 k l0 a1 a2 a3 a4 true))) else (spec_RayMeets.j0 k l0 a1 a2 a3 a4 true))) else (spec_RayMeets.j0 k l0 a1 a2 a3 a4 true)) = some (r1, r2) := H
    have A11 := Aside0.mk A110
    clear A110
    by_cases c12 : t133 = true
    ·subst c12
     have H1 : ((spec_l1In.f a3 (-100000) 100000).bind fun t134 => (if t134 = true then ((spec_l1In.f a4 (-100000) 100000).bind fun t135 => (if t135 = true then (if a3 = 0 then (spec_RayMeets.j0 k l0 a1 a2 a3 a4 (a4 == 0)) else (spec_RayMeets.j0 k l0 a1 a2 a3 a4 false)) else (spec_RayMeets.j0 k l0 a1 a2 a3 a4 true))) else (spec_RayMeets.j0 k l0 a1 a2 a3 a4 true))) = some (r1, r2) := by rw [if_pos rfl] at H; exact H
     clear H
     have H := H1
     clear H1
     replace H := Option.bind_eq_some_iff.mp H
     obtain ⟨t134, A130, H⟩ := H
     replace H : (if t134 = true then ((spec_l1In.f a4 (-100000) 100000).bind fun t135 => (if t135 = true then (if a3 = 0 then (spec_RayMeets.j0 k l0 a1 a2 a3 a4 (a4 == 0)) else (spec_RayMeets.j0 k l0 a1 a2 a3 a4 false)) else (spec_RayMeets.j0 k l0 a1 a2 a3 a4 true))) else (spec_RayMeets.j0 k l0 a1 a2 a3 a4 true)) = some (r1, r2) := H
     have A13 := Aside0.mk A130
     clear A130
     by_cases c14 : t134 = true
     ·subst c14
      have H1 : ((spec_l1In.f a4 (-100000) 100000).bind fun t135 => (if t135 = true then (if a3 = 0 then (spec_RayMeets.j0 k l0 a1 a2 a3 a4 (a4 == 0)) else (spec_RayMeets.j0 k l0 a1 a2 a3 a4 false)) else (spec_RayMeets.j0 k l0 a1 a2 a3 a4 true))) = some (r1, r2) := by rw [if_pos rfl] at H; exact H
      clear H
      have H := H1
      clear H1
      replace H := Option.bind_eq_some_iff.mp H
      obtain ⟨t135, A150, H⟩ := H
      replace H : (if t135 = true then (if a3 = 0 then (spec_RayMeets.j0 k l0 a1 a2 a3 a4 (a4 == 0)) else (spec_RayMeets.j0 k l0 a1 a2 a3 a4 false)) else (spec_RayMeets.j0 k l0 a1 a2 a3 a4 true)) = some (r1, r2) := H
      have A15 := Aside0.mk A150
      clear A150
      by_cases c16 : t135 = true
      ·subst c16
       have H1 : (if a3 = 0 then (spec_RayMeets.j0 k l0 a1 a2 a3 a4 (a4 == 0)) else (spec_RayMeets.j0 k l0 a1 a2 a3 a4 false)) = some (r1, r2) := by rw [if_pos rfl] at H; exact H
       clear H
       have H := H1
       clear H1
       by_cases c17 : a3 = 0
       ·rw [if_pos c17] at H
        have c17b0 : (a3 == 0) = true := beq_iff_eq.mpr c17
        have c17b1 : (a3 != 0) = false := bne_eq_false_iff_eq.mpr c17
        clear c17
        (first | rw [c17b0] | (simp only [i64_w, i32_w]; rw [c17b0]) | skip)
        have H' := Aside0.mk H
        clear H
        go_wp2_with (first | ((with_reducible refine gate_callee (f := 62) rfl ?_); refine goesL_ (some 26) rfl rfl Try.func62 (by kernel_rfl) rfl #[.slice A0 l0.length c0] rfl (by (try simp only [List.map_toArray, List.map_cons, List.map_nil]); first | done | rfl | (simp only [List.length_drop, List.length_take]; rfl)) ?_; (with_reducible refine (spec_l9Shapes.calls k _ _ l0 true _ ?side1 ?side2 A7.out).mono ?_); (case side1 => repeat (first | exact (Kd.C_below HR0.out HB.out) | (with_reducible refine Kd.C_alloc ?_ _) | (with_reducible refine Kd.C_drewN ?_ _) | (with_reducible refine Kd.C_drew ?_))); (case side2 => exact HC0.out); rintro e w18 ⟨rfl, hb⟩; refine ⟨_, rfl, ?_⟩; have n0_ := Aside0.mk (below_step (by repeat (first | (with_reducible first | exact HB.out | apply below_alloc | apply pw_below_drewN | apply below_drew1) | exact HB.out)) hb); clear HB; have HB := n0_; clear n0_; (try clear hb); (try clear hb2); (try clear hk); (try clear hi)) | (go_at_call 55; (with_reducible refine (spec_l1In.calls a1 (-100000) 100000 true _ A9.out).mono ?_); rintro e w' ⟨rfl, ⟨nd, rfl⟩⟩) | (go_at_call 55; (with_reducible refine (spec_l1In.calls a2 (-100000) 100000 true _ A11.out).mono ?_); rintro e w' ⟨rfl, ⟨nd, rfl⟩⟩) | (go_at_call 55; (with_reducible refine (spec_l1In.calls a3 (-100000) 100000 true _ A13.out).mono ?_); rintro e w' ⟨rfl, ⟨nd, rfl⟩⟩) | (go_at_call 55; (with_reducible refine (spec_l1In.calls a4 (-100000) 100000 true _ A15.out).mono ?_); rintro e w' ⟨rfl, ⟨nd, rfl⟩⟩))
        go_meet
        case rel => exact ⟨_, ((a4 == 0)), (by first | rfl | (simp; done) | (simp [*]; done)), H', ⟨by first | omega | exact Nat.le_refl _⟩, ⟨by repeat (first | (with_reducible first | exact HB.out | apply below_alloc | apply pw_below_drewN | apply below_drew1) | exact HB.out)⟩⟩
       ·rw [if_neg c17] at H
        have c17b0 : (a3 == 0) = false := beq_eq_false_iff_ne.mpr c17
        have c17b1 : (a3 != 0) = true := bne_iff_ne.mpr c17
        (first | rw [c17b0] | (simp only [i64_w, i32_w]; rw [c17b0]) | skip)
        have H' := Aside0.mk H
        clear H
        go_wp2_with (first | ((with_reducible refine gate_callee (f := 62) rfl ?_); refine goesL_ (some 26) rfl rfl Try.func62 (by kernel_rfl) rfl #[.slice A0 l0.length c0] rfl (by (try simp only [List.map_toArray, List.map_cons, List.map_nil]); first | done | rfl | (simp only [List.length_drop, List.length_take]; rfl)) ?_; (with_reducible refine (spec_l9Shapes.calls k _ _ l0 true _ ?side1 ?side2 A7.out).mono ?_); (case side1 => repeat (first | exact (Kd.C_below HR0.out HB.out) | (with_reducible refine Kd.C_alloc ?_ _) | (with_reducible refine Kd.C_drewN ?_ _) | (with_reducible refine Kd.C_drew ?_))); (case side2 => exact HC0.out); rintro e w19 ⟨rfl, hb⟩; refine ⟨_, rfl, ?_⟩; have n0_ := Aside0.mk (below_step (by repeat (first | (with_reducible first | exact HB.out | apply below_alloc | apply pw_below_drewN | apply below_drew1) | exact HB.out)) hb); clear HB; have HB := n0_; clear n0_; (try clear hb); (try clear hb2); (try clear hk); (try clear hi)) | (go_at_call 55; (with_reducible refine (spec_l1In.calls a1 (-100000) 100000 true _ A9.out).mono ?_); rintro e w' ⟨rfl, ⟨nd, rfl⟩⟩) | (go_at_call 55; (with_reducible refine (spec_l1In.calls a2 (-100000) 100000 true _ A11.out).mono ?_); rintro e w' ⟨rfl, ⟨nd, rfl⟩⟩) | (go_at_call 55; (with_reducible refine (spec_l1In.calls a3 (-100000) 100000 true _ A13.out).mono ?_); rintro e w' ⟨rfl, ⟨nd, rfl⟩⟩) | (go_at_call 55; (with_reducible refine (spec_l1In.calls a4 (-100000) 100000 true _ A15.out).mono ?_); rintro e w' ⟨rfl, ⟨nd, rfl⟩⟩))
        go_meet
        case rel => exact ⟨_, (false), (by first | rfl | (simp; done) | (simp [*]; done)), H', ⟨by first | omega | exact Nat.le_refl _⟩, ⟨by repeat (first | (with_reducible first | exact HB.out | apply below_alloc | apply pw_below_drewN | apply below_drew1) | exact HB.out)⟩⟩
      ·replace c16 := Bool.eq_false_iff.mpr c16
       subst c16
       have H1 : (spec_RayMeets.j0 k l0 a1 a2 a3 a4 true) = some (r1, r2) := by rw [if_neg (show ¬ (false = true) by decide)] at H; exact H
       clear H
       have H := H1
       clear H1
       have H' := Aside0.mk H
       clear H
       go_wp2_with (first | ((with_reducible refine gate_callee (f := 62) rfl ?_); refine goesL_ (some 26) rfl rfl Try.func62 (by kernel_rfl) rfl #[.slice A0 l0.length c0] rfl (by (try simp only [List.map_toArray, List.map_cons, List.map_nil]); first | done | rfl | (simp only [List.length_drop, List.length_take]; rfl)) ?_; (with_reducible refine (spec_l9Shapes.calls k _ _ l0 true _ ?side1 ?side2 A7.out).mono ?_); (case side1 => repeat (first | exact (Kd.C_below HR0.out HB.out) | (with_reducible refine Kd.C_alloc ?_ _) | (with_reducible refine Kd.C_drewN ?_ _) | (with_reducible refine Kd.C_drew ?_))); (case side2 => exact HC0.out); rintro e w20 ⟨rfl, hb⟩; refine ⟨_, rfl, ?_⟩; have n0_ := Aside0.mk (below_step (by repeat (first | (with_reducible first | exact HB.out | apply below_alloc | apply pw_below_drewN | apply below_drew1) | exact HB.out)) hb); clear HB; have HB := n0_; clear n0_; (try clear hb); (try clear hb2); (try clear hk); (try clear hi)) | (go_at_call 55; (with_reducible refine (spec_l1In.calls a1 (-100000) 100000 true _ A9.out).mono ?_); rintro e w' ⟨rfl, ⟨nd, rfl⟩⟩) | (go_at_call 55; (with_reducible refine (spec_l1In.calls a2 (-100000) 100000 true _ A11.out).mono ?_); rintro e w' ⟨rfl, ⟨nd, rfl⟩⟩) | (go_at_call 55; (with_reducible refine (spec_l1In.calls a3 (-100000) 100000 true _ A13.out).mono ?_); rintro e w' ⟨rfl, ⟨nd, rfl⟩⟩) | (go_at_call 55; (with_reducible refine (spec_l1In.calls a4 (-100000) 100000 false _ A15.out).mono ?_); rintro e w' ⟨rfl, ⟨nd, rfl⟩⟩))
       go_meet
       case rel => exact ⟨_, (true), (by first | rfl | (simp; done) | (simp [*]; done)), H', ⟨by first | omega | exact Nat.le_refl _⟩, ⟨by repeat (first | (with_reducible first | exact HB.out | apply below_alloc | apply pw_below_drewN | apply below_drew1) | exact HB.out)⟩⟩
     ·replace c14 := Bool.eq_false_iff.mpr c14
      subst c14
      have H1 : (spec_RayMeets.j0 k l0 a1 a2 a3 a4 true) = some (r1, r2) := by rw [if_neg (show ¬ (false = true) by decide)] at H; exact H
      clear H
      have H := H1
      clear H1
      have H' := Aside0.mk H
      clear H
      go_wp2_with (first | ((with_reducible refine gate_callee (f := 62) rfl ?_); refine goesL_ (some 26) rfl rfl Try.func62 (by kernel_rfl) rfl #[.slice A0 l0.length c0] rfl (by (try simp only [List.map_toArray, List.map_cons, List.map_nil]); first | done | rfl | (simp only [List.length_drop, List.length_take]; rfl)) ?_; (with_reducible refine (spec_l9Shapes.calls k _ _ l0 true _ ?side1 ?side2 A7.out).mono ?_); (case side1 => repeat (first | exact (Kd.C_below HR0.out HB.out) | (with_reducible refine Kd.C_alloc ?_ _) | (with_reducible refine Kd.C_drewN ?_ _) | (with_reducible refine Kd.C_drew ?_))); (case side2 => exact HC0.out); rintro e w21 ⟨rfl, hb⟩; refine ⟨_, rfl, ?_⟩; have n0_ := Aside0.mk (below_step (by repeat (first | (with_reducible first | exact HB.out | apply below_alloc | apply pw_below_drewN | apply below_drew1) | exact HB.out)) hb); clear HB; have HB := n0_; clear n0_; (try clear hb); (try clear hb2); (try clear hk); (try clear hi)) | (go_at_call 55; (with_reducible refine (spec_l1In.calls a1 (-100000) 100000 true _ A9.out).mono ?_); rintro e w' ⟨rfl, ⟨nd, rfl⟩⟩) | (go_at_call 55; (with_reducible refine (spec_l1In.calls a2 (-100000) 100000 true _ A11.out).mono ?_); rintro e w' ⟨rfl, ⟨nd, rfl⟩⟩) | (go_at_call 55; (with_reducible refine (spec_l1In.calls a3 (-100000) 100000 false _ A13.out).mono ?_); rintro e w' ⟨rfl, ⟨nd, rfl⟩⟩))
      go_meet
      case rel => exact ⟨_, (true), (by first | rfl | (simp; done) | (simp [*]; done)), H', ⟨by first | omega | exact Nat.le_refl _⟩, ⟨by repeat (first | (with_reducible first | exact HB.out | apply below_alloc | apply pw_below_drewN | apply below_drew1) | exact HB.out)⟩⟩
    ·replace c12 := Bool.eq_false_iff.mpr c12
     subst c12
     have H1 : (spec_RayMeets.j0 k l0 a1 a2 a3 a4 true) = some (r1, r2) := by rw [if_neg (show ¬ (false = true) by decide)] at H; exact H
     clear H
     have H := H1
     clear H1
     have H' := Aside0.mk H
     clear H
     go_wp2_with (first | ((with_reducible refine gate_callee (f := 62) rfl ?_); refine goesL_ (some 26) rfl rfl Try.func62 (by kernel_rfl) rfl #[.slice A0 l0.length c0] rfl (by (try simp only [List.map_toArray, List.map_cons, List.map_nil]); first | done | rfl | (simp only [List.length_drop, List.length_take]; rfl)) ?_; (with_reducible refine (spec_l9Shapes.calls k _ _ l0 true _ ?side1 ?side2 A7.out).mono ?_); (case side1 => repeat (first | exact (Kd.C_below HR0.out HB.out) | (with_reducible refine Kd.C_alloc ?_ _) | (with_reducible refine Kd.C_drewN ?_ _) | (with_reducible refine Kd.C_drew ?_))); (case side2 => exact HC0.out); rintro e w22 ⟨rfl, hb⟩; refine ⟨_, rfl, ?_⟩; have n0_ := Aside0.mk (below_step (by repeat (first | (with_reducible first | exact HB.out | apply below_alloc | apply pw_below_drewN | apply below_drew1) | exact HB.out)) hb); clear HB; have HB := n0_; clear n0_; (try clear hb); (try clear hb2); (try clear hk); (try clear hi)) | (go_at_call 55; (with_reducible refine (spec_l1In.calls a1 (-100000) 100000 true _ A9.out).mono ?_); rintro e w' ⟨rfl, ⟨nd, rfl⟩⟩) | (go_at_call 55; (with_reducible refine (spec_l1In.calls a2 (-100000) 100000 false _ A11.out).mono ?_); rintro e w' ⟨rfl, ⟨nd, rfl⟩⟩))
     go_meet
     case rel => exact ⟨_, (true), (by first | rfl | (simp; done) | (simp [*]; done)), H', ⟨by first | omega | exact Nat.le_refl _⟩, ⟨by repeat (first | (with_reducible first | exact HB.out | apply below_alloc | apply pw_below_drewN | apply below_drew1) | exact HB.out)⟩⟩
   ·replace c10 := Bool.eq_false_iff.mpr c10
    subst c10
    have H1 : (spec_RayMeets.j0 k l0 a1 a2 a3 a4 true) = some (r1, r2) := by rw [if_neg (show ¬ (false = true) by decide)] at H; exact H
    clear H
    have H := H1
    clear H1
    have H' := Aside0.mk H
    clear H
    go_wp2_with (first | ((with_reducible refine gate_callee (f := 62) rfl ?_); refine goesL_ (some 26) rfl rfl Try.func62 (by kernel_rfl) rfl #[.slice A0 l0.length c0] rfl (by (try simp only [List.map_toArray, List.map_cons, List.map_nil]); first | done | rfl | (simp only [List.length_drop, List.length_take]; rfl)) ?_; (with_reducible refine (spec_l9Shapes.calls k _ _ l0 true _ ?side1 ?side2 A7.out).mono ?_); (case side1 => repeat (first | exact (Kd.C_below HR0.out HB.out) | (with_reducible refine Kd.C_alloc ?_ _) | (with_reducible refine Kd.C_drewN ?_ _) | (with_reducible refine Kd.C_drew ?_))); (case side2 => exact HC0.out); rintro e w23 ⟨rfl, hb⟩; refine ⟨_, rfl, ?_⟩; have n0_ := Aside0.mk (below_step (by repeat (first | (with_reducible first | exact HB.out | apply below_alloc | apply pw_below_drewN | apply below_drew1) | exact HB.out)) hb); clear HB; have HB := n0_; clear n0_; (try clear hb); (try clear hb2); (try clear hk); (try clear hi)) | (go_at_call 55; (with_reducible refine (spec_l1In.calls a1 (-100000) 100000 false _ A9.out).mono ?_); rintro e w' ⟨rfl, ⟨nd, rfl⟩⟩))
    go_meet
    case rel => exact ⟨_, (true), (by first | rfl | (simp; done) | (simp [*]; done)), H', ⟨by first | omega | exact Nat.le_refl _⟩, ⟨by repeat (first | (with_reducible first | exact HB.out | apply below_alloc | apply pw_below_drewN | apply below_drew1) | exact HB.out)⟩⟩
  ·replace c8 := Bool.eq_false_iff.mpr c8
   subst c8
   have H1 : (spec_RayMeets.j0 k l0 a1 a2 a3 a4 true) = some (r1, r2) := by rw [if_neg (show ¬ (false = true) by decide)] at H; exact H
   clear H
   have H := H1
   clear H1
   have H' := Aside0.mk H
   clear H
   go_wp2_with (first | ((with_reducible refine gate_callee (f := 62) rfl ?_); refine goesL_ (some 26) rfl rfl Try.func62 (by kernel_rfl) rfl #[.slice A0 l0.length c0] rfl (by (try simp only [List.map_toArray, List.map_cons, List.map_nil]); first | done | rfl | (simp only [List.length_drop, List.length_take]; rfl)) ?_; (with_reducible refine (spec_l9Shapes.calls k _ _ l0 false _ ?side1 ?side2 A7.out).mono ?_); (case side1 => repeat (first | exact (Kd.C_below HR0.out HB.out) | (with_reducible refine Kd.C_alloc ?_ _) | (with_reducible refine Kd.C_drewN ?_ _) | (with_reducible refine Kd.C_drew ?_))); (case side2 => exact HC0.out); rintro e w24 ⟨rfl, hb⟩; refine ⟨_, rfl, ?_⟩; have n0_ := Aside0.mk (below_step (by repeat (first | (with_reducible first | exact HB.out | apply below_alloc | apply pw_below_drewN | apply below_drew1) | exact HB.out)) hb); clear HB; have HB := n0_; clear n0_; (try clear hb); (try clear hb2); (try clear hk); (try clear hi)))
   go_meet
   case rel => exact ⟨_, (true), (by first | rfl | (simp; done) | (simp [*]; done)), H', ⟨by first | omega | exact Nat.le_refl _⟩, ⟨by repeat (first | (with_reducible first | exact HB.out | apply below_alloc | apply pw_below_drewN | apply below_drew1) | exact HB.out)⟩⟩
 case rest =>
  clear HC6
  try clear c1
  try clear c2
  try clear p2
  try clear c6
  try clear c8
  try clear c10
  try clear c12
  try clear c14
  try clear c16
  try clear c17
  try clear c17b0
  try clear c17b1
  obtain ⟨kq, x55_5, rfl, HA, HJ5, HB⟩ := hcut
  cases kq with
  | zero => exact absurd HA.out (by simp [spec_RayMeets.j0])
  | succ kj5 =>
   have H := HA.out
   clear HA
   simp only [spec_RayMeets.j0] at H
   by_cases c25 : x55_5 = true
   ·subst c25
    have H1 : (some (([] : List (S109)), false)) = some (r1, r2) := by rw [if_pos rfl] at H; exact H
    clear H
    have H := H1
    clear H1
    simp only [Option.some.injEq, Prod.mk.injEq] at H
    obtain ⟨rfl, rfl⟩ := H
    go_wp2
    go_ret2
    exact ⟨_, by first | rfl | (simp [errW_none, errW_some] <;> rfl) | (simp [*, errW_none, errW_some] <;> rfl), by first | exact Kd.R_nil _ _ _ _ _ | exact Kd.N_nil _ _ _ _ _ | exact Kd.V_nil _ _ _ _ _ | exact Kd.Q_nil _ _ _ _ _ | exact Kd.S_nil _ _ _ _ _, by repeat (first | (with_reducible first | exact HB.out | apply below_alloc | apply pw_below_drewN | apply below_drew1) | exact HB.out)⟩
   ·replace c25 := Bool.eq_false_iff.mpr c25
    subst c25
    have H1 : (spec_RayMeets.l0 kj5 a1 a2 a3 a4 ([] : List (S109)) l0 (l0.length : Int) 0) = some (r1, r2) := by rw [if_neg (show ¬ (false = true) by decide)] at H; exact H
    clear H
    have H := H1
    clear H1
    have H' := Aside0.mk H
    clear H
    go_wp2
    go_loopg [12, 58] kj5 (fun kq v12 v58 w' => ∃ (x12_2 : List (S109)) (x58_2 : Int), v58 = .int .i64 x58_2 ∧ Aside0 (spec_RayMeets.l0 kq a1 a2 a3 a4 x12_2 l0 (l0.length : Int) x58_2 = some (r1, r2)) ∧ Aside0 (kq ≤ kj5) ∧ Aside0 (Kd.R k109 109 w' w.heap.size (fun _ => True) v12 x12_2) ∧ Aside0 (Below w.heap.size w w'))
    case atStart => exact ⟨(([] : List (S109))), (0), (by first | rfl | (simp; done) | (simp [*]; done)), H', ⟨Nat.le_refl _⟩, ⟨by first | exact Kd.R_nil _ _ _ _ _ | exact Kd.N_nil _ _ _ _ _ | exact Kd.V_nil _ _ _ _ _ | exact Kd.Q_nil _ _ _ _ _ | exact Kd.S_nil _ _ _ _ _⟩, ⟨by repeat (first | (with_reducible first | exact HB.out | apply below_alloc | apply pw_below_drewN | apply below_drew1) | exact HB.out)⟩⟩
    case round =>
     clear H'
     try clear c1
     try clear c2
     try clear p2
     try clear c6
     try clear c8
     try clear c10
     try clear c12
     try clear c14
     try clear c16
     try clear c17
     try clear c17b0
     try clear c17b1
     try clear c25
     try clear p2
     obtain ⟨x12_2, x58_2, rfl, HA, HK2, HO_12, HB⟩ := hrel
     cases gk with
     | zero => exact absurd HA.out (by simp [spec_RayMeets.l0])
     | succ k2 =>
      have H := HA.out
      clear HA
      simp only [spec_RayMeets.l0] at H
      by_cases c26 : x58_2 < (l0.length : Int)
      ·rw [if_pos c26] at H
       have c26b0 : decide (x58_2 < (l0.length : Int)) = true := decide_eq_true c26
       clear c26
       by_cases c27 : 0 ≤ x58_2
       ·rw [if_pos c27] at H
        have c27b0 : decide (0 ≤ x58_2) = true := decide_eq_true c27
        clear c27
        by_cases c28 : x58_2 < (l0.length : Int)
        ·rw [if_pos c28] at H
         have c28b0 : decide (x58_2 < (l0.length : Int)) = true := decide_eq_true c28
         clear c28
         by_cases c29 : ((rd_T100 l0 x58_2).f0) = 1
         ·rw [if_pos c29] at H
          have c29b0 : (((rd_T100 l0 x58_2).f0) == 1) = true := beq_iff_eq.mpr c29
          have c29b1 : (((rd_T100 l0 x58_2).f0) != 1) = false := bne_eq_false_iff_eq.mpr c29
          clear c29
          replace H := Option.bind_eq_some_iff.mp H
          obtain ⟨⟨t138, t139, t140, t141⟩, A300, H⟩ := H
          replace H : ((spec_l9Axis.f k2 0 1 1 1 false a1 a3 t138 t140).bind fun bt142 => (if bt142.2.2.2.2.2 = true then ((spec_l9Axis.f k2 bt142.1 bt142.2.1 bt142.2.2.1 bt142.2.2.2.1 bt142.2.2.2.2.1 a2 a4 t139 t141).bind fun bt150 => (spec_RayMeets.j2 k2 a1 a2 a3 a4 x12_2 x58_2 bt150.2.2.2.2.1 bt150.2.2.2.2.2 l0 (l0.length : Int) x58_2 bt150.1 bt150.2.1 bt150.2.2.1 bt150.2.2.2.1)) else (spec_RayMeets.j2 k2 a1 a2 a3 a4 x12_2 x58_2 bt142.2.2.2.2.1 bt142.2.2.2.2.2 l0 (l0.length : Int) x58_2 bt142.1 bt142.2.1 bt142.2.2.1 bt142.2.2.2.1))) = some (r1, r2) := H
          have A30 := Aside0.mk A300
          clear A300
          replace H := Option.bind_eq_some_iff.mp H
          obtain ⟨⟨t142, t143, t144, t145, t146, t147⟩, A310, H⟩ := H
          replace H : (if t147 = true then ((spec_l9Axis.f k2 t142 t143 t144 t145 t146 a2 a4 t139 t141).bind fun bt150 => (spec_RayMeets.j2 k2 a1 a2 a3 a4 x12_2 x58_2 bt150.2.2.2.2.1 bt150.2.2.2.2.2 l0 (l0.length : Int) x58_2 bt150.1 bt150.2.1 bt150.2.2.1 bt150.2.2.2.1)) else (spec_RayMeets.j2 k2 a1 a2 a3 a4 x12_2 x58_2 t146 t147 l0 (l0.length : Int) x58_2 t142 t143 t144 t145)) = some (r1, r2) := H
          have A31 := Aside0.mk A310
          clear A310
          have HC32 := Aside0.mk H
          clear H
          have p136 : 0 ≤ (x58_2 : Int) := of_decide_eq_true (by first | (with_reducible assumption) | assumption)
          have q136 : x58_2 < (l0.length : Int) := of_decide_eq_true (by first | (with_reducible assumption) | assumption)
          obtain ⟨ad136, e136, hx136_0, hx136_1, hx136_2, hx136_3, hx136_4⟩ := at_T100 HR0.out x58_2 p136 q136
          cases e136
          replace hx136_0 := (HB.out.cell (World.block_lt_of_cell? w _ hx136_0)).trans hx136_0
          replace hx136_1 := (HB.out.cell (World.block_lt_of_cell? w _ hx136_1)).trans hx136_1
          replace hx136_2 := (HB.out.cell (World.block_lt_of_cell? w _ hx136_2)).trans hx136_2
          replace hx136_3 := (HB.out.cell (World.block_lt_of_cell? w _ hx136_3)).trans hx136_3
          replace hx136_4 := (HB.out.cell (World.block_lt_of_cell? w _ hx136_4)).trans hx136_4
          replace p136 := eq_true p136
          replace q136 := eq_true q136
          go_upto_if 85 with (first | ((with_reducible refine gate_dst (N := 14) rfl ?_); refine box_event ?hg (N := 14) ?hd (cs := #[.int .i64 0, .int .i64 0, .int .i64 0, .int .i64 0, .int .i64 0]) (t := 100) ?hr ?_; (case hd => rfl); (case hg => rfl); (case hr => first | (go_simp; done) | (go_simp; rfl)); intro gb137 hg w33 hbox hb; have n0_ := Aside0.mk (Kd.R_below (by (with_reducible repeat (first | apply Kd.R_alloc | apply Kd.R_drewN | apply Kd.R_drew)); exact HO_12.out) hb); have n1_ := Aside0.mk (below_step (by repeat (first | (with_reducible first | exact HB.out | apply below_alloc | apply pw_below_drewN | apply below_drew1) | exact HB.out)) hb); have n2_ := Aside0.mk (hbox); have n3_ := Aside0.mk ((by rw [hg]; exact (below_size (by repeat (first | (with_reducible first | exact HB.out | apply below_alloc | apply pw_below_drewN | apply below_drew1) | exact HB.out))) : w.heap.size ≤ gb137)); have n4_ := Aside0.mk ((by rw [hg]; exact (below_size (by repeat (first | (with_reducible first | exact HB.out | apply below_alloc | apply pw_below_drewN | apply below_drew1) | exact HB.out))) : w.heap.size ≤ gb137)); clear HO_12; clear HB; have HO_12 := n0_; have HB := n1_; have BK137 := n2_; have GW137 := n3_; have GE137 := n4_; clear n0_ n1_ n2_ n3_ n4_; clear hb hbox hg; have hcz34_0 : w33.cell? ⟨gb137, 0, none⟩ = some (.int .i64 0) := (blk_cell BK137.out 0).trans rfl; have hcz34_1 : w33.cell? ⟨gb137, 1, none⟩ = some (.int .i64 0) := (blk_cell BK137.out 1).trans rfl; have hcz34_2 : w33.cell? ⟨gb137, 2, none⟩ = some (.int .i64 0) := (blk_cell BK137.out 2).trans rfl; have hcz34_3 : w33.cell? ⟨gb137, 3, none⟩ = some (.int .i64 0) := (blk_cell BK137.out 3).trans rfl; have hcz34_4 : w33.cell? ⟨gb137, 4, none⟩ = some (.int .i64 0) := (blk_cell BK137.out 4).trans rfl; have hfz34_0 := blk_frozen BK137.out 0; have hfz34_1 := blk_frozen BK137.out 1; have hfz34_2 := blk_frozen BK137.out 2; have hfz34_3 := blk_frozen BK137.out 3; have hfz34_4 := blk_frozen BK137.out 4) | ((with_reducible refine gate_callee (f := 63) rfl ?_); refine goesL_ (some 68) rfl rfl Try.func63 (by kernel_rfl) rfl #[.agg #[.int .i64 ((rd_T100 l0 x58_2).f0), .int .i64 ((rd_T100 l0 x58_2).f1), .int .i64 ((rd_T100 l0 x58_2).f2), .int .i64 ((rd_T100 l0 x58_2).f3), .int .i64 ((rd_T100 l0 x58_2).f4)]] rfl (by (try simp only [List.map_toArray, List.map_cons, List.map_nil]); first | done | rfl | (simp only [List.length_drop, List.length_take]; rfl)) ?_; (with_reducible refine (spec_l9Bounds.calls ((rd_T100 l0 x58_2).f0) ((rd_T100 l0 x58_2).f1) ((rd_T100 l0 x58_2).f2) ((rd_T100 l0 x58_2).f3) ((rd_T100 l0 x58_2).f4) t138 t139 t140 t141 _ A30.out).mono ?_); rintro e w35 ⟨rfl, hb⟩; refine ⟨_, rfl, ?_⟩; have n0_ := Aside0.mk (Kd.R_below (by (with_reducible repeat (first | apply Kd.R_alloc | apply Kd.R_drewN | apply Kd.R_drew)); exact (Kd.R_mono (Kd.R_far (p := ⟨gb137, 4, none⟩) (Kd.R_far (p := ⟨gb137, 3, none⟩) (Kd.R_far (p := ⟨gb137, 2, none⟩) (Kd.R_far (p := ⟨gb137, 1, none⟩) (Kd.R_far (p := ⟨gb137, 0, none⟩) (Kd.R_types HO_12.out BK137.out (by decide)) (fun _ hk => hk.2) (.int .i64 ((rd_T100 l0 x58_2).f0))) (fun _ hk => hk.2) (.int .i64 ((rd_T100 l0 x58_2).f1))) (fun _ hk => hk.2) (.int .i64 ((rd_T100 l0 x58_2).f2))) (fun _ hk => hk.2) (.int .i64 ((rd_T100 l0 x58_2).f3))) (fun _ hk => hk.2) (.int .i64 ((rd_T100 l0 x58_2).f4))) (fun _ h_ => h_.1))) hb); have n1_ := Aside0.mk (blk_below (g := gb137) (o := .cells #[.int .i64 ((rd_T100 l0 x58_2).f0), .int .i64 ((rd_T100 l0 x58_2).f1), .int .i64 ((rd_T100 l0 x58_2).f2), .int .i64 ((rd_T100 l0 x58_2).f3), .int .i64 ((rd_T100 l0 x58_2).f4)] 100 (0, 0)) (by (with_reducible repeat (first | refine blk_drewN ?_ _ | refine blk_drew ?_ | refine blk_alloc ?_ _)); refine blk_put (cs := #[.int .i64 ((rd_T100 l0 x58_2).f0), .int .i64 ((rd_T100 l0 x58_2).f1), .int .i64 ((rd_T100 l0 x58_2).f2), .int .i64 ((rd_T100 l0 x58_2).f3), .int .i64 0]) ?_ 4 _ rfl; (with_reducible repeat (first | refine blk_drewN ?_ _ | refine blk_drew ?_ | refine blk_alloc ?_ _)); refine blk_put (cs := #[.int .i64 ((rd_T100 l0 x58_2).f0), .int .i64 ((rd_T100 l0 x58_2).f1), .int .i64 ((rd_T100 l0 x58_2).f2), .int .i64 0, .int .i64 0]) ?_ 3 _ rfl; (with_reducible repeat (first | refine blk_drewN ?_ _ | refine blk_drew ?_ | refine blk_alloc ?_ _)); refine blk_put (cs := #[.int .i64 ((rd_T100 l0 x58_2).f0), .int .i64 ((rd_T100 l0 x58_2).f1), .int .i64 0, .int .i64 0, .int .i64 0]) ?_ 2 _ rfl; (with_reducible repeat (first | refine blk_drewN ?_ _ | refine blk_drew ?_ | refine blk_alloc ?_ _)); refine blk_put (cs := #[.int .i64 ((rd_T100 l0 x58_2).f0), .int .i64 0, .int .i64 0, .int .i64 0, .int .i64 0]) ?_ 1 _ rfl; (with_reducible repeat (first | refine blk_drewN ?_ _ | refine blk_drew ?_ | refine blk_alloc ?_ _)); refine blk_put (cs := #[.int .i64 0, .int .i64 0, .int .i64 0, .int .i64 0, .int .i64 0]) ?_ 0 _ rfl; (with_reducible repeat (first | refine blk_drewN ?_ _ | refine blk_drew ?_ | refine blk_alloc ?_ _)); exact BK137.out) hb); have n2_ := Aside0.mk (below_step (by repeat (first | (with_reducible first | exact HB.out | apply below_alloc | apply pw_below_drewN | apply below_drew1 | refine below_set ?_ GE137.out) | exact HB.out)) hb); clear HO_12; clear BK137; clear HB; have HO_12 := n0_; have BK137 := n1_; have HB := n2_; clear n0_ n1_ n2_; (try clear hb); (try clear hb2); (try clear hk); (try clear hi)) | ((with_reducible refine gate_callee (f := 64) rfl ?_); refine goesL_ (some 80) rfl rfl Try.func64 (by kernel_rfl) rfl #[.agg #[.int .i64 0, .int .i64 1], .agg #[.int .i64 1, .int .i64 1], .bool false, .int .i64 a1, .int .i64 a3, .int .i64 t138, .int .i64 t140] rfl (by (try simp only [List.map_toArray, List.map_cons, List.map_nil]); first | done | rfl | (simp only [List.length_drop, List.length_take]; rfl)) ?_; (with_reducible refine (spec_l9Axis.calls k2 0 1 1 1 false a1 a3 t138 t140 t142 t143 t144 t145 t146 t147 _ A31.out).mono ?_); rintro e w36 ⟨rfl, hb⟩; refine ⟨_, rfl, ?_⟩; have n0_ := Aside0.mk (Kd.R_below (by (with_reducible repeat (first | apply Kd.R_alloc | apply Kd.R_drewN | apply Kd.R_drew)); exact HO_12.out) hb); have n1_ := Aside0.mk (blk_below (g := gb137) (o := .cells #[.int .i64 ((rd_T100 l0 x58_2).f0), .int .i64 ((rd_T100 l0 x58_2).f1), .int .i64 ((rd_T100 l0 x58_2).f2), .int .i64 ((rd_T100 l0 x58_2).f3), .int .i64 ((rd_T100 l0 x58_2).f4)] 100 (0, 0)) (by (with_reducible repeat (first | refine blk_drewN ?_ _ | refine blk_drew ?_ | refine blk_alloc ?_ _)); exact BK137.out) hb); have n2_ := Aside0.mk (below_step (by repeat (first | (with_reducible first | exact HB.out | apply below_alloc | apply pw_below_drewN | apply below_drew1 | refine below_set ?_ GE137.out) | exact HB.out)) hb); clear HO_12; clear BK137; clear HB; have HO_12 := n0_; have BK137 := n1_; have HB := n2_; clear n0_ n1_ n2_; (try clear hb); (try clear hb2); (try clear hk); (try clear hi)) | ((with_reducible refine gate_dst (N := 19) rfl ?_); refine box_event ?hg (N := 19) ?hd (cs := #[.int .i64 0, .int .i64 0]) (t := 104) ?hr ?_; (case hd => rfl); (case hg => rfl); (case hr => first | (go_simp; done) | (go_simp; rfl)); intro gb148 hg w37 hbox hb; have n0_ := Aside0.mk (Kd.R_below (by (with_reducible repeat (first | apply Kd.R_alloc | apply Kd.R_drewN | apply Kd.R_drew)); exact HO_12.out) hb); have n1_ := Aside0.mk (blk_below (g := gb137) (o := .cells #[.int .i64 ((rd_T100 l0 x58_2).f0), .int .i64 ((rd_T100 l0 x58_2).f1), .int .i64 ((rd_T100 l0 x58_2).f2), .int .i64 ((rd_T100 l0 x58_2).f3), .int .i64 ((rd_T100 l0 x58_2).f4)] 100 (0, 0)) (by (with_reducible repeat (first | refine blk_drewN ?_ _ | refine blk_drew ?_ | refine blk_alloc ?_ _)); exact BK137.out) hb); have n2_ := Aside0.mk (below_step (by repeat (first | (with_reducible first | exact HB.out | apply below_alloc | apply pw_below_drewN | apply below_drew1 | refine below_set ?_ GE137.out) | exact HB.out)) hb); have n3_ := Aside0.mk (hbox); have n4_ := Aside0.mk ((by rw [hg]; exact (below_size (by repeat (first | (with_reducible first | exact HB.out | apply below_alloc | apply pw_below_drewN | apply below_drew1 | refine below_set ?_ GE137.out) | exact HB.out))) : w.heap.size ≤ gb148)); have n5_ := Aside0.mk ((by rw [hg]; exact (below_size (by repeat (first | (with_reducible first | exact HB.out | apply below_alloc | apply pw_below_drewN | apply below_drew1 | refine below_set ?_ GE137.out) | exact HB.out))) : w.heap.size ≤ gb148)); have n6_ := Aside0.mk ((by rw [hg]; exact Nat.ne_of_lt (blk_lt (g := gb137) (o := .cells #[.int .i64 ((rd_T100 l0 x58_2).f0), .int .i64 ((rd_T100 l0 x58_2).f1), .int .i64 ((rd_T100 l0 x58_2).f2), .int .i64 ((rd_T100 l0 x58_2).f3), .int .i64 ((rd_T100 l0 x58_2).f4)] 100 (0, 0)) (by (with_reducible repeat (first | refine blk_drewN ?_ _ | refine blk_drew ?_ | refine blk_alloc ?_ _)); exact BK137.out)) : gb137 ≠ gb148)); have n7_ := Aside0.mk ((by rw [hg]; exact Nat.ne_of_gt (blk_lt (g := gb137) (o := .cells #[.int .i64 ((rd_T100 l0 x58_2).f0), .int .i64 ((rd_T100 l0 x58_2).f1), .int .i64 ((rd_T100 l0 x58_2).f2), .int .i64 ((rd_T100 l0 x58_2).f3), .int .i64 ((rd_T100 l0 x58_2).f4)] 100 (0, 0)) (by (with_reducible repeat (first | refine blk_drewN ?_ _ | refine blk_drew ?_ | refine blk_alloc ?_ _)); exact BK137.out)) : gb148 ≠ gb137)); clear HO_12; clear BK137; clear HB; have HO_12 := n0_; have BK137 := n1_; have HB := n2_; have BK148 := n3_; have GW148 := n4_; have GE148 := n5_; have NB137_148 := n6_; have NB148_137 := n7_; clear n0_ n1_ n2_ n3_ n4_ n5_ n6_ n7_; clear hb hbox hg) | ((with_reducible refine gate_dst (N := 20) rfl ?_); refine box_event ?hg (N := 20) ?hd (cs := #[.int .i64 0, .int .i64 0]) (t := 104) ?hr ?_; (case hd => rfl); (case hg => rfl); (case hr => first | (go_simp; done) | (go_simp; rfl)); intro gb149 hg w38 hbox hb; have n0_ := Aside0.mk (Kd.R_below (by (with_reducible repeat (first | apply Kd.R_alloc | apply Kd.R_drewN | apply Kd.R_drew)); exact HO_12.out) hb); have n1_ := Aside0.mk (blk_below (g := gb137) (o := .cells #[.int .i64 ((rd_T100 l0 x58_2).f0), .int .i64 ((rd_T100 l0 x58_2).f1), .int .i64 ((rd_T100 l0 x58_2).f2), .int .i64 ((rd_T100 l0 x58_2).f3), .int .i64 ((rd_T100 l0 x58_2).f4)] 100 (0, 0)) (by (with_reducible repeat (first | refine blk_drewN ?_ _ | refine blk_drew ?_ | refine blk_alloc ?_ _)); exact BK137.out) hb); have n2_ := Aside0.mk (blk_below (g := gb148) (o := .cells #[.int .i64 0, .int .i64 0] 104 (0, 0)) (by (with_reducible repeat (first | refine blk_drewN ?_ _ | refine blk_drew ?_ | refine blk_alloc ?_ _)); exact BK148.out) hb); have n3_ := Aside0.mk (below_step (by repeat (first | (with_reducible first | exact HB.out | apply below_alloc | apply pw_below_drewN | apply below_drew1 | refine below_set ?_ GE137.out | refine below_set ?_ GE148.out) | exact HB.out)) hb); have n4_ := Aside0.mk (hbox); have n5_ := Aside0.mk ((by rw [hg]; exact (below_size (by repeat (first | (with_reducible first | exact HB.out | apply below_alloc | apply pw_below_drewN | apply below_drew1 | refine below_set ?_ GE137.out | refine below_set ?_ GE148.out) | exact HB.out))) : w.heap.size ≤ gb149)); have n6_ := Aside0.mk ((by rw [hg]; exact (below_size (by repeat (first | (with_reducible first | exact HB.out | apply below_alloc | apply pw_below_drewN | apply below_drew1 | refine below_set ?_ GE137.out | refine below_set ?_ GE148.out) | exact HB.out))) : w.heap.size ≤ gb149)); have n7_ := Aside0.mk ((by rw [hg]; exact Nat.ne_of_lt (blk_lt (g := gb137) (o := .cells #[.int .i64 ((rd_T100 l0 x58_2).f0), .int .i64 ((rd_T100 l0 x58_2).f1), .int .i64 ((rd_T100 l0 x58_2).f2), .int .i64 ((rd_T100 l0 x58_2).f3), .int .i64 ((rd_T100 l0 x58_2).f4)] 100 (0, 0)) (by (with_reducible repeat (first | refine blk_drewN ?_ _ | refine blk_drew ?_ | refine blk_alloc ?_ _)); exact BK137.out)) : gb137 ≠ gb149)); have n8_ := Aside0.mk ((by rw [hg]; exact Nat.ne_of_gt (blk_lt (g := gb137) (o := .cells #[.int .i64 ((rd_T100 l0 x58_2).f0), .int .i64 ((rd_T100 l0 x58_2).f1), .int .i64 ((rd_T100 l0 x58_2).f2), .int .i64 ((rd_T100 l0 x58_2).f3), .int .i64 ((rd_T100 l0 x58_2).f4)] 100 (0, 0)) (by (with_reducible repeat (first | refine blk_drewN ?_ _ | refine blk_drew ?_ | refine blk_alloc ?_ _)); exact BK137.out)) : gb149 ≠ gb137)); have n9_ := Aside0.mk ((by rw [hg]; exact Nat.ne_of_lt (blk_lt (g := gb148) (o := .cells #[.int .i64 0, .int .i64 0] 104 (0, 0)) (by (with_reducible repeat (first | refine blk_drewN ?_ _ | refine blk_drew ?_ | refine blk_alloc ?_ _)); exact BK148.out)) : gb148 ≠ gb149)); have n10_ := Aside0.mk ((by rw [hg]; exact Nat.ne_of_gt (blk_lt (g := gb148) (o := .cells #[.int .i64 0, .int .i64 0] 104 (0, 0)) (by (with_reducible repeat (first | refine blk_drewN ?_ _ | refine blk_drew ?_ | refine blk_alloc ?_ _)); exact BK148.out)) : gb149 ≠ gb148)); clear HO_12; clear BK137; clear BK148; clear HB; have HO_12 := n0_; have BK137 := n1_; have BK148 := n2_; have HB := n3_; have BK149 := n4_; have GW149 := n5_; have GE149 := n6_; have NB137_149 := n7_; have NB149_137 := n8_; have NB148_149 := n9_; have NB149_148 := n10_; clear n0_ n1_ n2_ n3_ n4_ n5_ n6_ n7_ n8_ n9_ n10_; clear hb hbox hg; have hnb39 := NB148_137.out; have hnc39 := NB137_148.out; have hnb40 := NB148_149.out; have hnc40 := NB149_148.out; have hcz41_0 : w38.cell? ⟨gb148, 0, none⟩ = some (.int .i64 0) := (blk_cell BK148.out 0).trans rfl; have hcz41_1 : w38.cell? ⟨gb148, 1, none⟩ = some (.int .i64 0) := (blk_cell BK148.out 1).trans rfl; have hfz41_0 := blk_frozen BK148.out 0; have hfz41_1 := blk_frozen BK148.out 1; have hnb42 := NB149_137.out; have hnc42 := NB137_149.out; have hcz43_0 : w38.cell? ⟨gb149, 0, none⟩ = some (.int .i64 0) := (blk_cell BK149.out 0).trans rfl; have hcz43_1 : w38.cell? ⟨gb149, 1, none⟩ = some (.int .i64 0) := (blk_cell BK149.out 1).trans rfl; have hfz43_0 := blk_frozen BK149.out 0; have hfz43_1 := blk_frozen BK149.out 1))
          (try simp only [Act.put, List.setIfInBounds_toArray, List.set_cons_zero, List.set_cons_succ])
          go_cut [21, 22] (fun v21 v22 wc => ∃ (kq : Nat) (x21_31 : Bool) (x22_31 : Bool) (x149000_31 : Int) (x149001_31 : Int) (x150000_31 : Int) (x150001_31 : Int), v21 = .bool x21_31 ∧ v22 = .bool x22_31 ∧ Aside0 (spec_RayMeets.j2 kq a1 a2 a3 a4 x12_2 x58_2 x21_31 x22_31 l0 (l0.length : Int) x58_2 x149000_31 x149001_31 x150000_31 x150001_31 = some (r1, r2)) ∧ Aside0 (kq ≤ k2) ∧ Aside0 (Kd.R k109 109 wc w.heap.size (fun _ => True) u12 x12_2) ∧ Aside0 (wc.heap[gb137]? = some (.cells #[.int .i64 ((rd_T100 l0 x58_2).f0), .int .i64 ((rd_T100 l0 x58_2).f1), .int .i64 ((rd_T100 l0 x58_2).f2), .int .i64 ((rd_T100 l0 x58_2).f3), .int .i64 ((rd_T100 l0 x58_2).f4)] 100 (0, 0))) ∧ Aside0 (wc.heap[gb148]? = some (.cells #[.int .i64 x149000_31, .int .i64 x149001_31] 104 (0, 0))) ∧ Aside0 (wc.heap[gb149]? = some (.cells #[.int .i64 x150000_31, .int .i64 x150001_31] 104 (0, 0))) ∧ Aside0 (Below w.heap.size w wc))
          case first =>
           have H := HC32.out
           clear HC32
           by_cases c44 : t147 = true
           ·subst c44
            have H1 : ((spec_l9Axis.f k2 t142 t143 t144 t145 t146 a2 a4 t139 t141).bind fun bt150 => (spec_RayMeets.j2 k2 a1 a2 a3 a4 x12_2 x58_2 bt150.2.2.2.2.1 bt150.2.2.2.2.2 l0 (l0.length : Int) x58_2 bt150.1 bt150.2.1 bt150.2.2.1 bt150.2.2.2.1)) = some (r1, r2) := by rw [if_pos rfl] at H; exact H
            clear H
            have H := H1
            clear H1
            replace H := Option.bind_eq_some_iff.mp H
            obtain ⟨⟨t150, t151, t152, t153, t154, t155⟩, A450, H⟩ := H
            replace H : (spec_RayMeets.j2 k2 a1 a2 a3 a4 x12_2 x58_2 t154 t155 l0 (l0.length : Int) x58_2 t150 t151 t152 t153) = some (r1, r2) := H
            have A45 := Aside0.mk A450
            clear A450
            have H' := Aside0.mk H
            clear H
            have hnb46 := NB148_137.out
            have hnc46 := NB137_148.out
            have hnb47 := NB148_149.out
            have hnc47 := NB149_148.out
            have hcz48_0 : w38.cell? ⟨gb148, 0, none⟩ = some (.int .i64 0) := (blk_cell BK148.out 0).trans rfl
            have hcz48_1 : w38.cell? ⟨gb148, 1, none⟩ = some (.int .i64 0) := (blk_cell BK148.out 1).trans rfl
            have hfz48_0 := blk_frozen BK148.out 0
            have hfz48_1 := blk_frozen BK148.out 1
            have hnb49 := NB149_137.out
            have hnc49 := NB137_149.out
            have hcz50_0 : w38.cell? ⟨gb149, 0, none⟩ = some (.int .i64 0) := (blk_cell BK149.out 0).trans rfl
            have hcz50_1 : w38.cell? ⟨gb149, 1, none⟩ = some (.int .i64 0) := (blk_cell BK149.out 1).trans rfl
            have hfz50_0 := blk_frozen BK149.out 0
            have hfz50_1 := blk_frozen BK149.out 1
            go_wp2_with (first | ((with_reducible refine gate_callee (f := 64) rfl ?_); refine goesL_ (some 94) rfl rfl Try.func64 (by kernel_rfl) rfl #[.agg #[.int .i64 t142, .int .i64 t143], .agg #[.int .i64 t144, .int .i64 t145], .bool t146, .int .i64 a2, .int .i64 a4, .int .i64 t139, .int .i64 t141] rfl (by (try simp only [List.map_toArray, List.map_cons, List.map_nil]); first | done | rfl | (simp only [List.length_drop, List.length_take]; rfl)) ?_; (with_reducible refine (spec_l9Axis.calls k2 t142 t143 t144 t145 t146 a2 a4 t139 t141 t150 t151 t152 t153 t154 t155 _ A45.out).mono ?_); rintro e w51 ⟨rfl, hb⟩; refine ⟨_, rfl, ?_⟩; have n0_ := Aside0.mk (Kd.R_below (by (with_reducible repeat (first | apply Kd.R_alloc | apply Kd.R_drewN | apply Kd.R_drew)); exact (Kd.R_mono (Kd.R_mono (Kd.R_far (p := ⟨gb149, 1, none⟩) (Kd.R_far (p := ⟨gb149, 0, none⟩) (Kd.R_far (p := ⟨gb148, 1, none⟩) (Kd.R_far (p := ⟨gb148, 0, none⟩) (Kd.R_types (Kd.R_types HO_12.out BK148.out (by decide)) BK149.out (by decide)) (fun _ hk => hk.1.2) (.int .i64 t142)) (fun _ hk => hk.1.2) (.int .i64 t143)) (fun _ hk => hk.2) (.int .i64 t144)) (fun _ hk => hk.2) (.int .i64 t145)) (fun _ h_ => h_.1)) (fun _ h_ => h_.1))) hb); have n1_ := Aside0.mk (blk_below (g := gb137) (o := .cells #[.int .i64 ((rd_T100 l0 x58_2).f0), .int .i64 ((rd_T100 l0 x58_2).f1), .int .i64 ((rd_T100 l0 x58_2).f2), .int .i64 ((rd_T100 l0 x58_2).f3), .int .i64 ((rd_T100 l0 x58_2).f4)] 100 (0, 0)) (by (with_reducible repeat (first | refine blk_drewN ?_ _ | refine blk_drew ?_ | refine blk_alloc ?_ _)); refine blk_far ?_ NB137_149.out _; (with_reducible repeat (first | refine blk_drewN ?_ _ | refine blk_drew ?_ | refine blk_alloc ?_ _)); refine blk_far ?_ NB137_149.out _; (with_reducible repeat (first | refine blk_drewN ?_ _ | refine blk_drew ?_ | refine blk_alloc ?_ _)); refine blk_far ?_ NB137_148.out _; (with_reducible repeat (first | refine blk_drewN ?_ _ | refine blk_drew ?_ | refine blk_alloc ?_ _)); refine blk_far ?_ NB137_148.out _; (with_reducible repeat (first | refine blk_drewN ?_ _ | refine blk_drew ?_ | refine blk_alloc ?_ _)); exact BK137.out) hb); have n2_ := Aside0.mk (blk_below (g := gb148) (o := .cells #[.int .i64 t142, .int .i64 t143] 104 (0, 0)) (by (with_reducible repeat (first | refine blk_drewN ?_ _ | refine blk_drew ?_ | refine blk_alloc ?_ _)); refine blk_far ?_ NB148_149.out _; (with_reducible repeat (first | refine blk_drewN ?_ _ | refine blk_drew ?_ | refine blk_alloc ?_ _)); refine blk_far ?_ NB148_149.out _; (with_reducible repeat (first | refine blk_drewN ?_ _ | refine blk_drew ?_ | refine blk_alloc ?_ _)); refine blk_put (cs := #[.int .i64 t142, .int .i64 0]) ?_ 1 _ rfl; (with_reducible repeat (first | refine blk_drewN ?_ _ | refine blk_drew ?_ | refine blk_alloc ?_ _)); refine blk_put (cs := #[.int .i64 0, .int .i64 0]) ?_ 0 _ rfl; (with_reducible repeat (first | refine blk_drewN ?_ _ | refine blk_drew ?_ | refine blk_alloc ?_ _)); exact BK148.out) hb); have n3_ := Aside0.mk (blk_below (g := gb149) (o := .cells #[.int .i64 t144, .int .i64 t145] 104 (0, 0)) (by (with_reducible repeat (first | refine blk_drewN ?_ _ | refine blk_drew ?_ | refine blk_alloc ?_ _)); refine blk_put (cs := #[.int .i64 t144, .int .i64 0]) ?_ 1 _ rfl; (with_reducible repeat (first | refine blk_drewN ?_ _ | refine blk_drew ?_ | refine blk_alloc ?_ _)); refine blk_put (cs := #[.int .i64 0, .int .i64 0]) ?_ 0 _ rfl; (with_reducible repeat (first | refine blk_drewN ?_ _ | refine blk_drew ?_ | refine blk_alloc ?_ _)); refine blk_far ?_ NB149_148.out _; (with_reducible repeat (first | refine blk_drewN ?_ _ | refine blk_drew ?_ | refine blk_alloc ?_ _)); refine blk_far ?_ NB149_148.out _; (with_reducible repeat (first | refine blk_drewN ?_ _ | refine blk_drew ?_ | refine blk_alloc ?_ _)); exact BK149.out) hb); have n4_ := Aside0.mk (below_step (by repeat (first | (with_reducible first | exact HB.out | apply below_alloc | apply pw_below_drewN | apply below_drew1 | refine below_set ?_ GE137.out | refine below_set ?_ GE148.out | refine below_set ?_ GE149.out) | exact HB.out)) hb); clear HO_12; clear BK137; clear BK148; clear BK149; clear HB; have HO_12 := n0_; have BK137 := n1_; have BK148 := n2_; have BK149 := n3_; have HB := n4_; clear n0_ n1_ n2_ n3_ n4_; (try clear hb); (try clear hb2); (try clear hk); (try clear hi); have hcz52_0 : w51.cell? ⟨gb148, 0, none⟩ = some (.int .i64 t142) := (blk_cell BK148.out 0).trans rfl; have hcz52_1 : w51.cell? ⟨gb148, 1, none⟩ = some (.int .i64 t143) := (blk_cell BK148.out 1).trans rfl; have hfz52_0 := blk_frozen BK148.out 0; have hfz52_1 := blk_frozen BK148.out 1; have hcz53_0 : w51.cell? ⟨gb149, 0, none⟩ = some (.int .i64 t144) := (blk_cell BK149.out 0).trans rfl; have hcz53_1 : w51.cell? ⟨gb149, 1, none⟩ = some (.int .i64 t145) := (blk_cell BK149.out 1).trans rfl; have hfz53_0 := blk_frozen BK149.out 0; have hfz53_1 := blk_frozen BK149.out 1))
            go_meet
            case rel => exact ⟨_, (t154), (t155), (t150), (t151), (t152), (t153), (by first | rfl | (simp; done) | (simp [*]; done)), (by first | rfl | (simp; done) | (simp [*]; done)), H', ⟨by have := HJ5.out; have := HK2.out; first | omega | exact Nat.le_refl _⟩, ⟨by (with_reducible repeat (first | apply Kd.R_alloc | apply Kd.R_drewN | apply Kd.R_drew)); exact Kd.R_mono (Kd.R_far (p := ⟨gb149, 1, none⟩) (Kd.R_far (p := ⟨gb149, 0, none⟩) (Kd.R_far (p := ⟨gb148, 1, none⟩) (Kd.R_far (p := ⟨gb148, 0, none⟩) (Kd.R_types (Kd.R_types HO_12.out BK148.out (by decide)) BK149.out (by decide)) (fun _ hk => hk.1.2) (.int .i64 t150)) (fun _ hk => hk.1.2) (.int .i64 t151)) (fun _ hk => hk.2) (.int .i64 t152)) (fun _ hk => hk.2) (.int .i64 t153)) (fun _ hk => trivial)⟩, ⟨by (with_reducible repeat (first | refine blk_drewN ?_ _ | refine blk_drew ?_ | refine blk_alloc ?_ _)); refine blk_far ?_ NB137_149.out _; (with_reducible repeat (first | refine blk_drewN ?_ _ | refine blk_drew ?_ | refine blk_alloc ?_ _)); refine blk_far ?_ NB137_149.out _; (with_reducible repeat (first | refine blk_drewN ?_ _ | refine blk_drew ?_ | refine blk_alloc ?_ _)); refine blk_far ?_ NB137_148.out _; (with_reducible repeat (first | refine blk_drewN ?_ _ | refine blk_drew ?_ | refine blk_alloc ?_ _)); refine blk_far ?_ NB137_148.out _; (with_reducible repeat (first | refine blk_drewN ?_ _ | refine blk_drew ?_ | refine blk_alloc ?_ _)); exact BK137.out⟩, ⟨by (with_reducible repeat (first | refine blk_drewN ?_ _ | refine blk_drew ?_ | refine blk_alloc ?_ _)); refine blk_far ?_ NB148_149.out _; (with_reducible repeat (first | refine blk_drewN ?_ _ | refine blk_drew ?_ | refine blk_alloc ?_ _)); refine blk_far ?_ NB148_149.out _; (with_reducible repeat (first | refine blk_drewN ?_ _ | refine blk_drew ?_ | refine blk_alloc ?_ _)); refine blk_put (cs := #[.int .i64 t150, .int .i64 t143]) ?_ 1 _ rfl; (with_reducible repeat (first | refine blk_drewN ?_ _ | refine blk_drew ?_ | refine blk_alloc ?_ _)); refine blk_put (cs := #[.int .i64 t142, .int .i64 t143]) ?_ 0 _ rfl; (with_reducible repeat (first | refine blk_drewN ?_ _ | refine blk_drew ?_ | refine blk_alloc ?_ _)); exact BK148.out⟩, ⟨by (with_reducible repeat (first | refine blk_drewN ?_ _ | refine blk_drew ?_ | refine blk_alloc ?_ _)); refine blk_put (cs := #[.int .i64 t152, .int .i64 t145]) ?_ 1 _ rfl; (with_reducible repeat (first | refine blk_drewN ?_ _ | refine blk_drew ?_ | refine blk_alloc ?_ _)); refine blk_put (cs := #[.int .i64 t144, .int .i64 t145]) ?_ 0 _ rfl; (with_reducible repeat (first | refine blk_drewN ?_ _ | refine blk_drew ?_ | refine blk_alloc ?_ _)); refine blk_far ?_ NB149_148.out _; (with_reducible repeat (first | refine blk_drewN ?_ _ | refine blk_drew ?_ | refine blk_alloc ?_ _)); refine blk_far ?_ NB149_148.out _; (with_reducible repeat (first | refine blk_drewN ?_ _ | refine blk_drew ?_ | refine blk_alloc ?_ _)); exact BK149.out⟩, ⟨by repeat (first | (with_reducible first | exact HB.out | apply below_alloc | apply pw_below_drewN | apply below_drew1 | refine below_set ?_ GE137.out | refine below_set ?_ GE148.out | refine below_set ?_ GE149.out) | exact HB.out)⟩⟩
           ·replace c44 := Bool.eq_false_iff.mpr c44
            subst c44
            have H1 : (spec_RayMeets.j2 k2 a1 a2 a3 a4 x12_2 x58_2 t146 false l0 (l0.length : Int) x58_2 t142 t143 t144 t145) = some (r1, r2) := by rw [if_neg (show ¬ (false = true) by decide)] at H; exact H
            clear H
            have H := H1
            clear H1
            have H' := Aside0.mk H
            clear H
            go_wp2
            go_meet
            case rel => exact ⟨_, (t146), (false), (t142), (t143), (t144), (t145), (by first | rfl | (simp; done) | (simp [*]; done)), (by first | rfl | (simp; done) | (simp [*]; done)), H', ⟨by have := HJ5.out; have := HK2.out; first | omega | exact Nat.le_refl _⟩, ⟨by (with_reducible repeat (first | apply Kd.R_alloc | apply Kd.R_drewN | apply Kd.R_drew)); exact Kd.R_mono (Kd.R_far (p := ⟨gb149, 1, none⟩) (Kd.R_far (p := ⟨gb149, 0, none⟩) (Kd.R_far (p := ⟨gb148, 1, none⟩) (Kd.R_far (p := ⟨gb148, 0, none⟩) (Kd.R_types (Kd.R_types HO_12.out BK148.out (by decide)) BK149.out (by decide)) (fun _ hk => hk.1.2) (.int .i64 t142)) (fun _ hk => hk.1.2) (.int .i64 t143)) (fun _ hk => hk.2) (.int .i64 t144)) (fun _ hk => hk.2) (.int .i64 t145)) (fun _ hk => trivial)⟩, ⟨by (with_reducible repeat (first | refine blk_drewN ?_ _ | refine blk_drew ?_ | refine blk_alloc ?_ _)); refine blk_far ?_ NB137_149.out _; (with_reducible repeat (first | refine blk_drewN ?_ _ | refine blk_drew ?_ | refine blk_alloc ?_ _)); refine blk_far ?_ NB137_149.out _; (with_reducible repeat (first | refine blk_drewN ?_ _ | refine blk_drew ?_ | refine blk_alloc ?_ _)); refine blk_far ?_ NB137_148.out _; (with_reducible repeat (first | refine blk_drewN ?_ _ | refine blk_drew ?_ | refine blk_alloc ?_ _)); refine blk_far ?_ NB137_148.out _; (with_reducible repeat (first | refine blk_drewN ?_ _ | refine blk_drew ?_ | refine blk_alloc ?_ _)); exact BK137.out⟩, ⟨by (with_reducible repeat (first | refine blk_drewN ?_ _ | refine blk_drew ?_ | refine blk_alloc ?_ _)); refine blk_far ?_ NB148_149.out _; (with_reducible repeat (first | refine blk_drewN ?_ _ | refine blk_drew ?_ | refine blk_alloc ?_ _)); refine blk_far ?_ NB148_149.out _; (with_reducible repeat (first | refine blk_drewN ?_ _ | refine blk_drew ?_ | refine blk_alloc ?_ _)); refine blk_put (cs := #[.int .i64 t142, .int .i64 0]) ?_ 1 _ rfl; (with_reducible repeat (first | refine blk_drewN ?_ _ | refine blk_drew ?_ | refine blk_alloc ?_ _)); refine blk_put (cs := #[.int .i64 0, .int .i64 0]) ?_ 0 _ rfl; (with_reducible repeat (first | refine blk_drewN ?_ _ | refine blk_drew ?_ | refine blk_alloc ?_ _)); exact BK148.out⟩, ⟨by (with_reducible repeat (first | refine blk_drewN ?_ _ | refine blk_drew ?_ | refine blk_alloc ?_ _)); refine blk_put (cs := #[.int .i64 t144, .int .i64 0]) ?_ 1 _ rfl; (with_reducible repeat (first | refine blk_drewN ?_ _ | refine blk_drew ?_ | refine blk_alloc ?_ _)); refine blk_put (cs := #[.int .i64 0, .int .i64 0]) ?_ 0 _ rfl; (with_reducible repeat (first | refine blk_drewN ?_ _ | refine blk_drew ?_ | refine blk_alloc ?_ _)); refine blk_far ?_ NB149_148.out _; (with_reducible repeat (first | refine blk_drewN ?_ _ | refine blk_drew ?_ | refine blk_alloc ?_ _)); refine blk_far ?_ NB149_148.out _; (with_reducible repeat (first | refine blk_drewN ?_ _ | refine blk_drew ?_ | refine blk_alloc ?_ _)); exact BK149.out⟩, ⟨by repeat (first | (with_reducible first | exact HB.out | apply below_alloc | apply pw_below_drewN | apply below_drew1 | refine below_set ?_ GE137.out | refine below_set ?_ GE148.out | refine below_set ?_ GE149.out) | exact HB.out)⟩⟩
          case rest =>
           clear HC32
           try clear c1
           try clear p1
           try clear q1
           try clear hx1
           try clear c2
           try clear p2
           try clear c3
           try clear c4
           try clear c6
           try clear c8
           try clear c10
           try clear c12
           try clear p13
           try clear q13
           try clear hx13
           try clear c14
           try clear c16
           try clear c17
           try clear c17b0
           try clear c17b1
           try clear c25
           try clear c26
           try clear c26b0
           try clear c27
           try clear c27b0
           try clear c28
           try clear c28b0
           try clear c29
           try clear c29b0
           try clear c29b1
           try clear c39
           try clear c40
           try clear c42
           try clear c44
           try clear c46
           try clear c47
           try clear c49
           try clear hcz34_0
           try clear hcz34_1
           try clear hcz34_2
           try clear hcz34_3
           try clear hcz34_4
           try clear hcz41_0
           try clear hcz41_1
           try clear hcz43_0
           try clear hcz43_1
           try clear hcz48_0
           try clear hcz48_1
           try clear hcz50_0
           try clear hcz50_1
           try clear hcz52_0
           try clear hcz52_1
           try clear hcz53_0
           try clear hcz53_1
           try clear hfz34_0
           try clear hfz34_1
           try clear hfz34_2
           try clear hfz34_3
           try clear hfz34_4
           try clear hfz41_0
           try clear hfz41_1
           try clear hfz43_0
           try clear hfz43_1
           try clear hfz48_0
           try clear hfz48_1
           try clear hfz50_0
           try clear hfz50_1
           try clear hfz52_0
           try clear hfz52_1
           try clear hfz53_0
           try clear hfz53_1
           try clear hx136_0
           try clear hx136_1
           try clear hx136_2
           try clear hx136_3
           try clear hx136_4
           try clear p136
           try clear p2
           try clear q136
           obtain ⟨kq, x21_31, x22_31, x149000_31, x149001_31, x150000_31, x150001_31, rfl, rfl, HA, HJ31, HO_12, BK137, BK148, BK149, HB⟩ := hcut
           cases kq with
           | zero => exact absurd HA.out (by simp [spec_RayMeets.j2])
           | succ kj31 =>
            have H := HA.out
            clear HA
            simp only [spec_RayMeets.j2] at H
            have HC54 := Aside0.mk H
            clear H
            go_upto_region 12 with (fail)
            go_cut [108] (fun v108 wc => ∃ (kq : Nat) (x108_53 : Bool), v108 = .bool x108_53 ∧ Aside0 (spec_RayMeets.j3 kq a1 a2 a3 a4 x12_2 x58_2 l0 (l0.length : Int) x58_2 x108_53 x149000_31 x149001_31 = some (r1, r2)) ∧ Aside0 (kq ≤ kj31) ∧ Aside0 (Kd.R k109 109 wc w.heap.size (fun _ => True) u12 x12_2) ∧ Aside0 (wc.heap[gb137]? = some (.cells #[.int .i64 ((rd_T100 l0 x58_2).f0), .int .i64 ((rd_T100 l0 x58_2).f1), .int .i64 ((rd_T100 l0 x58_2).f2), .int .i64 ((rd_T100 l0 x58_2).f3), .int .i64 ((rd_T100 l0 x58_2).f4)] 100 (0, 0))) ∧ Aside0 (wc.heap[gb148]? = some (.cells #[.int .i64 x149000_31, .int .i64 x149001_31] 104 (0, 0))) ∧ Aside0 (wc.heap[gb149]? = some (.cells #[.int .i64 x150000_31, .int .i64 x150001_31] 104 (0, 0))) ∧ Aside0 (Below w.heap.size w wc))
            case first =>
             have H := HC54.out
             clear HC54
             by_cases c55 : x22_31 = true
             ·subst c55
              have H1 : (if x21_31 = true then ((spec_l9Less.f x150000_31 x150001_31 x149000_31 x149001_31).bind fun t156 => (spec_RayMeets.j3 kj31 a1 a2 a3 a4 x12_2 x58_2 l0 (l0.length : Int) x58_2 t156 x149000_31 x149001_31)) else (spec_RayMeets.j3 kj31 a1 a2 a3 a4 x12_2 x58_2 l0 (l0.length : Int) x58_2 false x149000_31 x149001_31)) = some (r1, r2) := by rw [if_pos rfl] at H; exact H
              clear H
              have H := H1
              clear H1
              by_cases c56 : x21_31 = true
              ·subst c56
               have H1 : ((spec_l9Less.f x150000_31 x150001_31 x149000_31 x149001_31).bind fun t156 => (spec_RayMeets.j3 kj31 a1 a2 a3 a4 x12_2 x58_2 l0 (l0.length : Int) x58_2 t156 x149000_31 x149001_31)) = some (r1, r2) := by rw [if_pos rfl] at H; exact H
               clear H
               have H := H1
               clear H1
               replace H := Option.bind_eq_some_iff.mp H
               obtain ⟨t156, A570, H⟩ := H
               replace H : (spec_RayMeets.j3 kj31 a1 a2 a3 a4 x12_2 x58_2 l0 (l0.length : Int) x58_2 t156 x149000_31 x149001_31) = some (r1, r2) := H
               have A57 := Aside0.mk A570
               clear A570
               have H' := Aside0.mk H
               clear H
               have hnb58 := NB149_137.out
               have hnc58 := NB137_149.out
               have hnb59 := NB149_148.out
               have hnc59 := NB148_149.out
               have hcz60_0 : wc.cell? ⟨gb149, 0, none⟩ = some (.int .i64 x150000_31) := (blk_cell BK149.out 0).trans rfl
               have hcz60_1 : wc.cell? ⟨gb149, 1, none⟩ = some (.int .i64 x150001_31) := (blk_cell BK149.out 1).trans rfl
               have hfz60_0 := blk_frozen BK149.out 0
               have hfz60_1 := blk_frozen BK149.out 1
               have hnb61 := NB148_137.out
               have hnc61 := NB137_148.out
               have hcz62_0 : wc.cell? ⟨gb148, 0, none⟩ = some (.int .i64 x149000_31) := (blk_cell BK148.out 0).trans rfl
               have hcz62_1 : wc.cell? ⟨gb148, 1, none⟩ = some (.int .i64 x149001_31) := (blk_cell BK148.out 1).trans rfl
               have hfz62_0 := blk_frozen BK148.out 0
               have hfz62_1 := blk_frozen BK148.out 1
               go_wp2_with (first | (go_at_call 65; (with_reducible refine (spec_l9Less.calls x150000_31 x150001_31 x149000_31 x149001_31 t156 _ A57.out).mono ?_); rintro e w63 ⟨rfl, hb⟩; have n0_ := Aside0.mk (Kd.R_below (by (with_reducible repeat (first | apply Kd.R_alloc | apply Kd.R_drewN | apply Kd.R_drew)); exact HO_12.out) hb); have n1_ := Aside0.mk (blk_below (g := gb137) (o := .cells #[.int .i64 ((rd_T100 l0 x58_2).f0), .int .i64 ((rd_T100 l0 x58_2).f1), .int .i64 ((rd_T100 l0 x58_2).f2), .int .i64 ((rd_T100 l0 x58_2).f3), .int .i64 ((rd_T100 l0 x58_2).f4)] 100 (0, 0)) (by (with_reducible repeat (first | refine blk_drewN ?_ _ | refine blk_drew ?_ | refine blk_alloc ?_ _)); exact BK137.out) hb); have n2_ := Aside0.mk (blk_below (g := gb148) (o := .cells #[.int .i64 x149000_31, .int .i64 x149001_31] 104 (0, 0)) (by (with_reducible repeat (first | refine blk_drewN ?_ _ | refine blk_drew ?_ | refine blk_alloc ?_ _)); exact BK148.out) hb); have n3_ := Aside0.mk (blk_below (g := gb149) (o := .cells #[.int .i64 x150000_31, .int .i64 x150001_31] 104 (0, 0)) (by (with_reducible repeat (first | refine blk_drewN ?_ _ | refine blk_drew ?_ | refine blk_alloc ?_ _)); exact BK149.out) hb); have n4_ := Aside0.mk (below_step (by repeat (first | (with_reducible first | exact HB.out | apply below_alloc | apply pw_below_drewN | apply below_drew1 | refine below_set ?_ GE137.out | refine below_set ?_ GE148.out | refine below_set ?_ GE149.out) | exact HB.out)) hb); clear HO_12; clear BK137; clear BK148; clear BK149; clear HB; have HO_12 := n0_; have BK137 := n1_; have BK148 := n2_; have BK149 := n3_; have HB := n4_; clear n0_ n1_ n2_ n3_ n4_; (try clear hb); (try clear hb2); (try clear hk); (try clear hi)))
               go_meet
               case rel => exact ⟨_, (t156), (by first | rfl | (simp; done) | (simp [*]; done)), H', ⟨by have := HJ5.out; have := HK2.out; have := HJ31.out; first | omega | exact Nat.le_refl _⟩, ⟨by (with_reducible repeat (first | apply Kd.R_alloc | apply Kd.R_drewN | apply Kd.R_drew)); exact HO_12.out⟩, ⟨by (with_reducible repeat (first | refine blk_drewN ?_ _ | refine blk_drew ?_ | refine blk_alloc ?_ _)); exact BK137.out⟩, ⟨by (with_reducible repeat (first | refine blk_drewN ?_ _ | refine blk_drew ?_ | refine blk_alloc ?_ _)); exact BK148.out⟩, ⟨by (with_reducible repeat (first | refine blk_drewN ?_ _ | refine blk_drew ?_ | refine blk_alloc ?_ _)); exact BK149.out⟩, ⟨by repeat (first | (with_reducible first | exact HB.out | apply below_alloc | apply pw_below_drewN | apply below_drew1 | refine below_set ?_ GE137.out | refine below_set ?_ GE148.out | refine below_set ?_ GE149.out) | exact HB.out)⟩⟩
              ·replace c56 := Bool.eq_false_iff.mpr c56
               subst c56
               have H1 : (spec_RayMeets.j3 kj31 a1 a2 a3 a4 x12_2 x58_2 l0 (l0.length : Int) x58_2 false x149000_31 x149001_31) = some (r1, r2) := by rw [if_neg (show ¬ (false = true) by decide)] at H; exact H
               clear H
               have H := H1
               clear H1
               have H' := Aside0.mk H
               clear H
               go_wp2
               go_meet
               case rel => exact ⟨_, (false), (by first | rfl | (simp; done) | (simp [*]; done)), H', ⟨by have := HJ5.out; have := HK2.out; have := HJ31.out; first | omega | exact Nat.le_refl _⟩, ⟨by (with_reducible repeat (first | apply Kd.R_alloc | apply Kd.R_drewN | apply Kd.R_drew)); exact HO_12.out⟩, ⟨by (with_reducible repeat (first | refine blk_drewN ?_ _ | refine blk_drew ?_ | refine blk_alloc ?_ _)); exact BK137.out⟩, ⟨by (with_reducible repeat (first | refine blk_drewN ?_ _ | refine blk_drew ?_ | refine blk_alloc ?_ _)); exact BK148.out⟩, ⟨by (with_reducible repeat (first | refine blk_drewN ?_ _ | refine blk_drew ?_ | refine blk_alloc ?_ _)); exact BK149.out⟩, ⟨by repeat (first | (with_reducible first | exact HB.out | apply below_alloc | apply pw_below_drewN | apply below_drew1 | refine below_set ?_ GE137.out | refine below_set ?_ GE148.out | refine below_set ?_ GE149.out) | exact HB.out)⟩⟩
             ·replace c55 := Bool.eq_false_iff.mpr c55
              subst c55
              have H1 : (spec_RayMeets.j3 kj31 a1 a2 a3 a4 x12_2 x58_2 l0 (l0.length : Int) x58_2 true x149000_31 x149001_31) = some (r1, r2) := by rw [if_neg (show ¬ (false = true) by decide)] at H; exact H
              clear H
              have H := H1
              clear H1
              have H' := Aside0.mk H
              clear H
              go_wp2
              go_meet
              case rel => exact ⟨_, (true), (by first | rfl | (simp; done) | (simp [*]; done)), H', ⟨by have := HJ5.out; have := HK2.out; have := HJ31.out; first | omega | exact Nat.le_refl _⟩, ⟨by (with_reducible repeat (first | apply Kd.R_alloc | apply Kd.R_drewN | apply Kd.R_drew)); exact HO_12.out⟩, ⟨by (with_reducible repeat (first | refine blk_drewN ?_ _ | refine blk_drew ?_ | refine blk_alloc ?_ _)); exact BK137.out⟩, ⟨by (with_reducible repeat (first | refine blk_drewN ?_ _ | refine blk_drew ?_ | refine blk_alloc ?_ _)); exact BK148.out⟩, ⟨by (with_reducible repeat (first | refine blk_drewN ?_ _ | refine blk_drew ?_ | refine blk_alloc ?_ _)); exact BK149.out⟩, ⟨by repeat (first | (with_reducible first | exact HB.out | apply below_alloc | apply pw_below_drewN | apply below_drew1 | refine below_set ?_ GE137.out | refine below_set ?_ GE148.out | refine below_set ?_ GE149.out) | exact HB.out)⟩⟩
            case rest =>
             clear HC54
             try clear c1
             try clear p1
             try clear q1
             try clear hx1
             try clear c2
             try clear p2
             try clear c3
             try clear c4
             try clear c5
             try clear c6
             try clear c8
             try clear c10
             try clear c12
             try clear p13
             try clear q13
             try clear hx13
             try clear c14
             try clear c16
             try clear c17
             try clear c17b0
             try clear c17b1
             try clear c25
             try clear c26
             try clear c26b0
             try clear c27
             try clear c27b0
             try clear c28
             try clear c28b0
             try clear c29
             try clear c29b0
             try clear c29b1
             try clear c39
             try clear c40
             try clear c42
             try clear c44
             try clear c46
             try clear c47
             try clear c49
             try clear c55
             try clear c56
             try clear c58
             try clear c59
             try clear c61
             try clear c62
             try clear c63
             try clear hcz34_0
             try clear hcz34_1
             try clear hcz34_2
             try clear hcz34_3
             try clear hcz34_4
             try clear hcz41_0
             try clear hcz41_1
             try clear hcz43_0
             try clear hcz43_1
             try clear hcz48_0
             try clear hcz48_1
             try clear hcz50_0
             try clear hcz50_1
             try clear hcz52_0
             try clear hcz52_1
             try clear hcz53_0
             try clear hcz53_1
             try clear hcz60_0
             try clear hcz60_1
             try clear hcz62_0
             try clear hcz62_1
             try clear hfz34_0
             try clear hfz34_1
             try clear hfz34_2
             try clear hfz34_3
             try clear hfz34_4
             try clear hfz41_0
             try clear hfz41_1
             try clear hfz43_0
             try clear hfz43_1
             try clear hfz48_0
             try clear hfz48_1
             try clear hfz50_0
             try clear hfz50_1
             try clear hfz52_0
             try clear hfz52_1
             try clear hfz53_0
             try clear hfz53_1
             try clear hfz60_0
             try clear hfz60_1
             try clear hfz62_0
             try clear hfz62_1
             try clear hx136_0
             try clear hx136_1
             try clear hx136_2
             try clear hx136_3
             try clear hx136_4
             try clear p1
             try clear p13
             try clear p136
             try clear p2
             try clear q1
             try clear q13
             try clear q136
             obtain ⟨kq, x108_53, rfl, HA, HJ53, HO_12, BK137, BK148, BK149, HB⟩ := hcut
             cases kq with
             | zero => exact absurd HA.out (by simp [spec_RayMeets.j3])
             | succ kj53 =>
              have H := HA.out
              clear HA
              simp only [spec_RayMeets.j3] at H
              by_cases c64 : x108_53 = true
              ·subst c64
               have H1 : (spec_RayMeets.l0 kj53 a1 a2 a3 a4 x12_2 l0 (l0.length : Int) (wrap64 (x58_2 + 1))) = some (r1, r2) := by rw [if_pos rfl] at H; exact H
               clear H
               have H := H1
               clear H1
               have H' := Aside0.mk H
               clear H
               go_wp2
               go_roundg kj53
               case measure => have := HJ5.out; have := HK2.out; have := HJ31.out; have := HJ53.out; omega
               case rel => exact ⟨(x12_2), (wrap64 (x58_2 + 1)), (by first | rfl | (simp; done) | (simp [*]; done)), H', ⟨by have := HJ5.out; have := HK2.out; have := HJ31.out; have := HJ53.out; omega⟩, ⟨by (with_reducible repeat (first | apply Kd.R_alloc | apply Kd.R_drewN | apply Kd.R_drew)); exact HO_12.out⟩, ⟨by repeat (first | (with_reducible first | exact HB.out | apply below_alloc | apply pw_below_drewN | apply below_drew1 | refine below_set ?_ GE137.out | refine below_set ?_ GE148.out | refine below_set ?_ GE149.out) | exact HB.out)⟩⟩
              ·replace c64 := Bool.eq_false_iff.mpr c64
               subst c64
               have H1 : (spec_RayMeets.l1 kj53 a1 a2 a3 a4 x12_2 x58_2 (x12_2.length : Int) l0 (l0.length : Int) x58_2 x149000_31 x149001_31) = some (r1, r2) := by rw [if_neg (show ¬ (false = true) by decide)] at H; exact H
               clear H
               have H := H1
               clear H1
               have H' := Aside0.mk H
               clear H
               obtain ⟨Ao65, co65, eo65⟩ := Kd.R_slice HO_12.out
               subst eo65
               go_wp2
               go_loopg [23] kj53 (fun kq v23 w' => ∃ (x23_5 : Int), v23 = .int .i64 x23_5 ∧ Aside0 (spec_RayMeets.l1 kq a1 a2 a3 a4 x12_2 x58_2 x23_5 l0 (l0.length : Int) x58_2 x149000_31 x149001_31 = some (r1, r2)) ∧ Aside0 (kq ≤ kj53) ∧ Aside0 (Kd.R k109 109 w' w.heap.size (fun _ => True) (.slice Ao65 x12_2.length co65) x12_2) ∧ Aside0 (w'.heap[gb137]? = some (.cells #[.int .i64 ((rd_T100 l0 x58_2).f0), .int .i64 ((rd_T100 l0 x58_2).f1), .int .i64 ((rd_T100 l0 x58_2).f2), .int .i64 ((rd_T100 l0 x58_2).f3), .int .i64 ((rd_T100 l0 x58_2).f4)] 100 (0, 0))) ∧ Aside0 (w'.heap[gb148]? = some (.cells #[.int .i64 x149000_31, .int .i64 x149001_31] 104 (0, 0))) ∧ Aside0 (w'.heap[gb149]? = some (.cells #[.int .i64 x150000_31, .int .i64 x150001_31] 104 (0, 0))) ∧ Aside0 (Below w.heap.size w w'))
               case atStart => exact ⟨((x12_2.length : Int)), (by first | rfl | (simp; done) | (simp [*]; done)), H', ⟨Nat.le_refl _⟩, ⟨by (with_reducible repeat (first | apply Kd.R_alloc | apply Kd.R_drewN | apply Kd.R_drew)); exact HO_12.out⟩, ⟨by (with_reducible repeat (first | refine blk_drewN ?_ _ | refine blk_drew ?_ | refine blk_alloc ?_ _)); exact BK137.out⟩, ⟨by (with_reducible repeat (first | refine blk_drewN ?_ _ | refine blk_drew ?_ | refine blk_alloc ?_ _)); exact BK148.out⟩, ⟨by (with_reducible repeat (first | refine blk_drewN ?_ _ | refine blk_drew ?_ | refine blk_alloc ?_ _)); exact BK149.out⟩, ⟨by repeat (first | (with_reducible first | exact HB.out | apply below_alloc | apply pw_below_drewN | apply below_drew1 | refine below_set ?_ GE137.out | refine below_set ?_ GE148.out | refine below_set ?_ GE149.out) | exact HB.out)⟩⟩
               case round =>
                clear H'
                try clear c1
                try clear p1
                try clear q1
                try clear hx1
                try clear c2
                try clear p2
                try clear c3
                try clear c4
                try clear c5
                try clear c6
                try clear p6
                try clear c8
                try clear c10
                try clear c12
                try clear p13
                try clear q13
                try clear hx13
                try clear c14
                try clear c16
                try clear c17
                try clear c17b0
                try clear c17b1
                try clear c25
                try clear c26
                try clear c26b0
                try clear c27
                try clear c27b0
                try clear c28
                try clear c28b0
                try clear c29
                try clear c29b0
                try clear c29b1
                try clear c39
                try clear c40
                try clear c42
                try clear c44
                try clear c46
                try clear c47
                try clear c49
                try clear c55
                try clear c56
                try clear c58
                try clear c59
                try clear c61
                try clear c62
                try clear c63
                try clear c64
                try clear p64
                try clear hcz34_0
                try clear hcz34_1
                try clear hcz34_2
                try clear hcz34_3
                try clear hcz34_4
                try clear hcz41_0
                try clear hcz41_1
                try clear hcz43_0
                try clear hcz43_1
                try clear hcz48_0
                try clear hcz48_1
                try clear hcz50_0
                try clear hcz50_1
                try clear hcz52_0
                try clear hcz52_1
                try clear hcz53_0
                try clear hcz53_1
                try clear hcz60_0
                try clear hcz60_1
                try clear hcz62_0
                try clear hcz62_1
                try clear hfz34_0
                try clear hfz34_1
                try clear hfz34_2
                try clear hfz34_3
                try clear hfz34_4
                try clear hfz41_0
                try clear hfz41_1
                try clear hfz43_0
                try clear hfz43_1
                try clear hfz48_0
                try clear hfz48_1
                try clear hfz50_0
                try clear hfz50_1
                try clear hfz52_0
                try clear hfz52_1
                try clear hfz53_0
                try clear hfz53_1
                try clear hfz60_0
                try clear hfz60_1
                try clear hfz62_0
                try clear hfz62_1
                try clear hx136_0
                try clear hx136_1
                try clear hx136_2
                try clear hx136_3
                try clear hx136_4
                try clear p1
                try clear p13
                try clear p136
                try clear p2
                try clear q1
                try clear q13
                try clear q136
                obtain ⟨x23_5, rfl, HA, HK5, HO_12, BK137, BK148, BK149, HB⟩ := hrel
                cases gk with
                | zero => exact absurd HA.out (by simp [spec_RayMeets.l1])
                | succ k5 =>
                 have H := HA.out
                 clear HA
                 simp only [spec_RayMeets.l1] at H
                 by_cases c66 : x23_5 > 0
                 ·rw [if_pos c66] at H
                  have c66b0 : decide (0 < x23_5) = true := decide_eq_true c66
                  clear c66
                  obtain ⟨ji67, hji67⟩ : ∃ j_ : Int, (wrap64 (x23_5 - 1)) = j_ := ⟨_, rfl⟩
                  replace H : (if 0 ≤ (ji67) then (if (ji67) < (x12_2.length : Int) then ((spec_l9Less.f x149000_31 x149001_31 ((rd_T109 x12_2 (ji67)).f1) ((rd_T109 x12_2 (ji67)).f2)).bind fun t159 => (if t159 = true then (spec_RayMeets.l1 k5 a1 a2 a3 a4 x12_2 x58_2 ji67 l0 (l0.length : Int) x58_2 x149000_31 x149001_31) else (if 0 ≤ x23_5 then (if x23_5 ≤ (x12_2.length : Int) then ((some (x12_2.take (x23_5 : Int).toNat : List (S109))).bind fun y160 => (if ([] : List (S109)).length + y160.length < 5864062014805 then ((some (([] : List (S109)) ++ y160 : List (S109))).bind fun y164 => (if y164.length < 5864062014805 then ((some (y164 ++ [(⟨x58_2, x149000_31, x149001_31⟩ : S109)] : List (S109))).bind fun y167 => ((some (x12_2.drop (x23_5 : Int).toNat : List (S109))).bind fun y170 => (if y167.length + y170.length < 5864062014805 then (spec_RayMeets.l0 k5 a1 a2 a3 a4 (y167 ++ y170) l0 (l0.length : Int) (wrap64 (x58_2 + 1))) else (none)))) else (none))) else (none))) else (none)) else (none)))) else (none)) else (none)) = some (r1, r2) := by first | (rw [hji67] at H; exact H) | (simp only [hji67] at H ⊢; exact H)
                  have hji67w : (IntKind.i64.wrap (x23_5 - 1)) = ji67 := (i64_w _).trans hji67
                  by_cases c68 : 0 ≤ (ji67)
                  ·rw [if_pos c68] at H
                   have c68b0 : decide (0 ≤ (ji67)) = true := decide_eq_true c68
                   clear c68
                   by_cases c69 : (ji67) < (x12_2.length : Int)
                   ·rw [if_pos c69] at H
                    have c69b0 : decide ((ji67) < (x12_2.length : Int)) = true := decide_eq_true c69
                    clear c69
                    replace H := Option.bind_eq_some_iff.mp H
                    obtain ⟨t159, A700, H⟩ := H
                    replace H : (if t159 = true then (spec_RayMeets.l1 k5 a1 a2 a3 a4 x12_2 x58_2 ji67 l0 (l0.length : Int) x58_2 x149000_31 x149001_31) else (if 0 ≤ x23_5 then (if x23_5 ≤ (x12_2.length : Int) then ((some (x12_2.take (x23_5 : Int).toNat : List (S109))).bind fun y160 => (if ([] : List (S109)).length + y160.length < 5864062014805 then ((some (([] : List (S109)) ++ y160 : List (S109))).bind fun y164 => (if y164.length < 5864062014805 then ((some (y164 ++ [(⟨x58_2, x149000_31, x149001_31⟩ : S109)] : List (S109))).bind fun y167 => ((some (x12_2.drop (x23_5 : Int).toNat : List (S109))).bind fun y170 => (if y167.length + y170.length < 5864062014805 then (spec_RayMeets.l0 k5 a1 a2 a3 a4 (y167 ++ y170) l0 (l0.length : Int) (wrap64 (x58_2 + 1))) else (none)))) else (none))) else (none))) else (none)) else (none))) = some (r1, r2) := H
                    have A70 := Aside0.mk A700
                    clear A700
                    by_cases c71 : t159 = true
                    ·subst c71
                     have H1 : (spec_RayMeets.l1 k5 a1 a2 a3 a4 x12_2 x58_2 ji67 l0 (l0.length : Int) x58_2 x149000_31 x149001_31) = some (r1, r2) := by rw [if_pos rfl] at H; exact H
                     clear H
                     have H := H1
                     clear H1
                     have H' := Aside0.mk H
                     clear H
                     try go_wp2
                     have n0_ := Aside0.mk (Kd.R_drew HO_12.out)
                     have n1_ := Aside0.mk (blk_drew BK137.out)
                     have n2_ := Aside0.mk (blk_drew BK148.out)
                     have n3_ := Aside0.mk (blk_drew BK149.out)
                     have n4_ := Aside0.mk (below_drew1 HB.out)
                     clear HO_12
                     clear BK137
                     clear BK148
                     clear BK149
                     clear HB
                     have HO_12 := n0_
                     have BK137 := n1_
                     have BK148 := n2_
                     have BK149 := n3_
                     have HB := n4_
                     clear n0_ n1_ n2_ n3_ n4_
                     have p157 : 0 ≤ ((ji67) : Int) := of_decide_eq_true (by first | (with_reducible assumption) | assumption)
                     have q157 : (ji67) < (x12_2.length : Int) := of_decide_eq_true (by first | (with_reducible assumption) | assumption)
                     obtain ⟨ad157, e157, hx157_0, hx157_1, hx157_2⟩ := at_T109 (Kd.R_reads' HO_12.out).2.2 (ji67) p157 q157
                     cases e157
                     replace p157 := eq_true p157
                     replace q157 := eq_true q157
                     have p158 : 0 ≤ ((ji67) : Int) := of_decide_eq_true (by first | (with_reducible assumption) | assumption)
                     have q158 : (ji67) < (x12_2.length : Int) := of_decide_eq_true (by first | (with_reducible assumption) | assumption)
                     obtain ⟨ad158, e158, hx158_0, hx158_1, hx158_2⟩ := at_T109 (Kd.R_reads' HO_12.out).2.2 (ji67) p158 q158
                     obtain rfl : ad157 = ad158 := (by injection e158)
                     replace p158 := eq_true p158
                     replace q158 := eq_true q158
                     refine start_ (n := 19) (S := fun w' => w'.cell? ⟨gb148, 0, none⟩ = some (.int .i64 x149000_31) ∧ w'.cell? ⟨gb148, 1, none⟩ = some (.int .i64 x149001_31) ∧ w'.cell? (ad157.add (((ji67)).toNat * 3)) = some (.int .i64 ((rd_T109 x12_2 (ji67)).f0)) ∧ w'.cell? ⟨(ad157.add (((ji67)).toNat * 3)).block, (ad157.add (((ji67)).toNat * 3)).off + 1, none⟩ = some (.int .i64 ((rd_T109 x12_2 (ji67)).f1)) ∧ w'.cell? ⟨(ad157.add (((ji67)).toNat * 3)).block, (ad157.add (((ji67)).toNat * 3)).off + 2, none⟩ = some (.int .i64 ((rd_T109 x12_2 (ji67)).f2)) ∧ w'.cell? (ad157.add (((ji67)).toNat * 3)) = some (.int .i64 ((rd_T109 x12_2 (ji67)).f0)) ∧ w'.cell? ⟨(ad157.add (((ji67)).toNat * 3)).block, (ad157.add (((ji67)).toNat * 3)).off + 1, none⟩ = some (.int .i64 ((rd_T109 x12_2 (ji67)).f1)) ∧ w'.cell? ⟨(ad157.add (((ji67)).toNat * 3)).block, (ad157.add (((ji67)).toNat * 3)).off + 2, none⟩ = some (.int .i64 ((rd_T109 x12_2 (ji67)).f2))) (ds := []) #[false, false, false, false, false, false, false, false, false, false, false, false, false, false, false, false, false, false, false] (by kernel_rfl) rfl rfl ⟨(blk_cell BK148.out 0).trans rfl, (blk_cell BK148.out 1).trans rfl, hx157_0, hx157_1, hx157_2, hx158_0, hx158_1, hx158_2⟩ (fun hHeld => ?_); refine with_tabW spec_RayMeets.tab14 spec_RayMeets.bits14 (fun HT_ HW_ => ?_)
                     generalize wr.drew = w72 at HO_12 BK137 BK148 BK149 HB hx157_0 hx157_1 hx157_2 hx158_0 hx158_1 hx158_2 hHeld ⊢
                     refine pure_ (i := 0) (N := some 111) (v := ?_) (a' := ?_) #[true, false, false, false, false, false, false, false, false, false, false, false, false, false, false, false, false, false, false] rfl rfl (any_of HT_.out (by kernel_rfl)) (fun _ _ _ h => h) (Or.inl ⟨by rfl, ?_⟩) ?_ ?_
                     rotate_left; (· (intro w'; go_simp; with_reducible rfl)); rotate_left; (· (simp only [Act.put, List.setIfInBounds_toArray, List.set_cons_zero, List.set_cons_succ, i64_w, i32_w]; rfl))
                     refine pure_ (i := 1) (N := some 112) (v := ?_) (a' := ?_) #[true, true, false, false, false, false, false, false, false, false, false, false, false, false, false, false, false, false, false] rfl rfl (any_of HT_.out (by kernel_rfl)) (fun _ _ _ h => h) (Or.inl ⟨by rfl, ?_⟩) ?_ ?_
                     rotate_left; (· (intro w'; go_simp; with_reducible rfl)); rotate_left; (· (simp only [Act.put, List.setIfInBounds_toArray, List.set_cons_zero, List.set_cons_succ, i64_w, i32_w]; rfl))
                     refine pure_ (i := 2) (N := some 113) (v := ?_) (a' := ?_) #[true, true, true, false, false, false, false, false, false, false, false, false, false, false, false, false, false, false, false] rfl rfl (any_of HT_.out (by kernel_rfl)) (fun _ _ _ h => h) (Or.inl ⟨by rfl, ?_⟩) ?_ ?_
                     rotate_left; (· (intro w'; go_simp; with_reducible rfl)); rotate_left; (· (simp only [Act.put, List.setIfInBounds_toArray, List.set_cons_zero, List.set_cons_succ, i64_w, i32_w]; rfl))
                     refine pure_ (i := 4) (N := some 115) (v := ?_) (a' := ?_) #[true, true, true, false, true, false, false, false, false, false, false, false, false, false, false, false, false, false, false] rfl rfl (any_of HT_.out (by kernel_rfl)) (fun _ _ _ h => h) (Or.inl ⟨by rfl, ?_⟩) ?_ ?_
                     rotate_left; (· (intro w'; go_simp; with_reducible rfl)); rotate_left; (· (simp only [Act.put, List.setIfInBounds_toArray, List.set_cons_zero, List.set_cons_succ, i64_w, i32_w]; rfl))
                     refine pure_ (i := 5) (N := some 116) (v := ?_) (a' := ?_) #[true, true, true, false, true, true, false, false, false, false, false, false, false, false, false, false, false, false, false] rfl rfl (any_of HT_.out (by kernel_rfl)) (fun _ _ _ h => h) (Or.inl ⟨by rfl, ?_⟩) ?_ ?_
                     rotate_left; (· (intro w'; go_simp; with_reducible rfl)); rotate_left; (· (simp only [Act.put, List.setIfInBounds_toArray, List.set_cons_zero, List.set_cons_succ, i64_w, i32_w]; rfl))
                     refine pure_ (i := 6) (N := some 117) (v := ?_) (a' := ?_) #[true, true, true, false, true, true, true, false, false, false, false, false, false, false, false, false, false, false, false] rfl rfl (any_of HT_.out (by kernel_rfl)) (fun _ _ _ h => h) (Or.inl ⟨by rfl, ?_⟩) ?_ ?_
                     rotate_left; (· (intro w'; go_simp; with_reducible rfl)); rotate_left; (· (simp only [Act.put, List.setIfInBounds_toArray, List.set_cons_zero, List.set_cons_succ, i64_w, i32_w]; rfl))
                     refine pure_ (i := 7) (N := some 118) (v := ?_) (a' := ?_) #[true, true, true, false, true, true, true, true, false, false, false, false, false, false, false, false, false, false, false] rfl rfl (any_of HT_.out (by kernel_rfl)) (fun _ _ _ h => h) (Or.inl ⟨by rfl, ?_⟩) ?_ ?_
                     rotate_left; (· (intro w'; go_simp; with_reducible rfl)); rotate_left; (· (simp only [Act.put, List.setIfInBounds_toArray, List.set_cons_zero, List.set_cons_succ, i64_w, i32_w]; rfl))
                     refine pure_ (i := 8) (N := some 119) (v := ?_) (a' := ?_) #[true, true, true, false, true, true, true, true, true, false, false, false, false, false, false, false, false, false, false] rfl rfl (any_of HT_.out (by kernel_rfl)) (fun _ _ _ h => h) (Or.inl ⟨by rfl, ?_⟩) ?_ ?_
                     rotate_left; (· (intro w'; go_simp; with_reducible rfl)); rotate_left; (· (simp only [Act.put, List.setIfInBounds_toArray, List.set_cons_zero, List.set_cons_succ, i64_w, i32_w]; rfl))
                     refine pure_ (i := 10) (N := some 121) (v := ?_) (a' := ?_) #[true, true, true, false, true, true, true, true, true, false, true, false, false, false, false, false, false, false, false] rfl rfl (any_of HT_.out (by kernel_rfl)) (fun _ _ _ h => h) (Or.inl ⟨by rfl, ?_⟩) ?_ ?_
                     rotate_left; (· (intro w'; go_simp; with_reducible rfl)); rotate_left; (· (simp only [Act.put, List.setIfInBounds_toArray, List.set_cons_zero, List.set_cons_succ, i64_w, i32_w]; rfl))
                     refine pure_ (i := 11) (N := some 122) (v := ?_) (a' := ?_) #[true, true, true, false, true, true, true, true, true, false, true, true, false, false, false, false, false, false, false] rfl rfl (any_of HT_.out (by kernel_rfl)) (fun _ _ _ h => h) (Or.inl ⟨by rfl, ?_⟩) ?_ ?_
                     rotate_left; (· (intro w'; go_simp; with_reducible rfl)); rotate_left; (· (simp only [Act.put, List.setIfInBounds_toArray, List.set_cons_zero, List.set_cons_succ, i64_w, i32_w]; rfl))
                     refine pure_ (i := 12) (N := some 123) (v := ?_) (a' := ?_) #[true, true, true, false, true, true, true, true, true, false, true, true, true, false, false, false, false, false, false] rfl rfl (any_of HT_.out (by kernel_rfl)) (fun _ _ _ h => h) (Or.inl ⟨by rfl, ?_⟩) ?_ ?_
                     rotate_left; (· (intro w'; go_simp; with_reducible rfl)); rotate_left; (· (simp only [Act.put, List.setIfInBounds_toArray, List.set_cons_zero, List.set_cons_succ, i64_w, i32_w]; rfl))
                     refine pure_ (i := 13) (N := some 124) (v := ?_) (a' := ?_) #[true, true, true, false, true, true, true, true, true, false, true, true, true, true, false, false, false, false, false] rfl rfl (any_of HT_.out (by kernel_rfl)) (fun _ _ _ h => h) (Or.inl ⟨by rfl, ?_⟩) ?_ ?_
                     rotate_left; (· (intro w'; go_simp; with_reducible rfl)); rotate_left; (· (simp only [Act.put, List.setIfInBounds_toArray, List.set_cons_zero, List.set_cons_succ, i64_w, i32_w]; rfl))
                     refine pure_ (i := 14) (N := some 125) (v := ?_) (a' := ?_) #[true, true, true, false, true, true, true, true, true, false, true, true, true, true, true, false, false, false, false] rfl rfl (any_of HT_.out (by kernel_rfl)) (fun _ _ _ h => h) (Or.inl ⟨by rfl, ?_⟩) ?_ ?_
                     rotate_left; (· (intro w'; go_simp; with_reducible rfl)); rotate_left; (· (simp only [Act.put, List.setIfInBounds_toArray, List.set_cons_zero, List.set_cons_succ, i64_w, i32_w]; rfl))
                     refine take_ (i := 3) (N := some 114) (v := ?_) (a' := ?_) #[true, true, true, true, true, true, true, true, true, false, true, true, true, true, true, false, false, false, false] rfl rfl (take_ofW HT_.out HW_.out (by kernel_rfl)) (fun _ _ _ h => h) (Or.inl ⟨by rfl, ?_⟩) hHeld ?_ ?_
                     rotate_left; (· (rintro w' ⟨s0, s1, s2, s3, s4, s5, s6, s7⟩; go_simp; with_reducible rfl)); rotate_left; (· (simp only [Act.put, List.setIfInBounds_toArray, List.set_cons_zero, List.set_cons_succ, i64_w, i32_w]; rfl))
                     refine take_ (i := 9) (N := some 120) (v := ?_) (a' := ?_) #[true, true, true, true, true, true, true, true, true, true, true, true, true, true, true, false, false, false, false] rfl rfl (take_ofW HT_.out HW_.out (by kernel_rfl)) (fun _ _ _ h => h) (Or.inl ⟨by rfl, ?_⟩) hHeld ?_ ?_
                     rotate_left; (· (rintro w' ⟨s0, s1, s2, s3, s4, s5, s6, s7⟩; go_simp; with_reducible rfl)); rotate_left; (· (simp only [Act.put, List.setIfInBounds_toArray, List.set_cons_zero, List.set_cons_succ, i64_w, i32_w]; rfl))
                     refine take_ (i := 15) (N := some 126) (v := ?_) (a' := ?_) #[true, true, true, true, true, true, true, true, true, true, true, true, true, true, true, true, false, false, false] rfl rfl (take_ofW HT_.out HW_.out (by kernel_rfl)) (fun _ _ _ h => h) (Or.inl ⟨by rfl, ?_⟩) hHeld ?_ ?_
                     rotate_left; (· (rintro w' ⟨s0, s1, s2, s3, s4, s5, s6, s7⟩; go_simp; with_reducible rfl)); rotate_left; (· (simp only [Act.put, List.setIfInBounds_toArray, List.set_cons_zero, List.set_cons_succ, i64_w, i32_w]; rfl))
                     refine pure_ (i := 16) (N := some 127) (v := ?_) (a' := ?_) #[true, true, true, true, true, true, true, true, true, true, true, true, true, true, true, true, true, false, false] rfl rfl (any_of HT_.out (by kernel_rfl)) (fun _ _ _ h => h) (Or.inl ⟨by rfl, ?_⟩) ?_ ?_
                     rotate_left; (· (intro w'; go_simp; with_reducible rfl)); rotate_left; (· (simp only [Act.put, List.setIfInBounds_toArray, List.set_cons_zero, List.set_cons_succ, i64_w, i32_w]; rfl))
                     refine one_ (i := 17) (N := some 128) #[true, true, true, true, true, true, true, true, true, true, true, true, true, true, true, true, true, true, false] rfl rfl (one_of HT_.out (by kernel_rfl)) (by decide) (fun K hK => ?_)
                     refine goes_ Try.func65 (by kernel_rfl) rfl #[.agg #[.int .i64 x149000_31, .int .i64 x149001_31], .agg #[.int .i64 ((rd_T109 x12_2 (ji67)).f1), .int .i64 ((rd_T109 x12_2 (ji67)).f2)]] (by rfl) rfl rfl (by (try simp only [List.map_toArray, List.map_cons, List.map_nil]); first | done | (simp only [hji67]; rfl) | rfl | (simp only [List.length_drop, List.length_take]; rfl)) ?_
                     with_reducible refine (spec_l9Less.calls x149000_31 x149001_31 ((rd_T109 x12_2 (ji67)).f1) ((rd_T109 x12_2 (ji67)).f2) true _ A70.out).mono ?_
                     rintro e w73 ⟨rfl, hb⟩
                     have HS2_ := (hb.cell (World.block_lt_of_cell? _ _ (hHeld.2.2.1))).trans (hHeld.2.2.1)
                     have HS3_ := (hb.cell (World.block_lt_of_cell? _ _ (hHeld.2.2.2.1))).trans (hHeld.2.2.2.1)
                     have HS4_ := (hb.cell (World.block_lt_of_cell? _ _ (hHeld.2.2.2.2.1))).trans (hHeld.2.2.2.2.1)
                     have HS5_ := (hb.cell (World.block_lt_of_cell? _ _ (hHeld.2.2.2.2.2.1))).trans (hHeld.2.2.2.2.2.1)
                     have HS6_ := (hb.cell (World.block_lt_of_cell? _ _ (hHeld.2.2.2.2.2.2.1))).trans (hHeld.2.2.2.2.2.2.1)
                     have HS7_ := (hb.cell (World.block_lt_of_cell? _ _ (hHeld.2.2.2.2.2.2.2))).trans (hHeld.2.2.2.2.2.2.2)
                     refine ⟨_, rfl, ?_⟩
                     have n0_ := Aside0.mk (Kd.R_below (by (with_reducible repeat (first | apply Kd.R_alloc | apply Kd.R_drewN | apply Kd.R_drew)); exact HO_12.out) hb)
                     have n1_ := Aside0.mk (blk_below (g := gb137) (o := .cells #[.int .i64 ((rd_T100 l0 x58_2).f0), .int .i64 ((rd_T100 l0 x58_2).f1), .int .i64 ((rd_T100 l0 x58_2).f2), .int .i64 ((rd_T100 l0 x58_2).f3), .int .i64 ((rd_T100 l0 x58_2).f4)] 100 (0, 0)) (by (with_reducible repeat (first | refine blk_drewN ?_ _ | refine blk_drew ?_ | refine blk_alloc ?_ _)); exact BK137.out) hb)
                     have n2_ := Aside0.mk (blk_below (g := gb148) (o := .cells #[.int .i64 x149000_31, .int .i64 x149001_31] 104 (0, 0)) (by (with_reducible repeat (first | refine blk_drewN ?_ _ | refine blk_drew ?_ | refine blk_alloc ?_ _)); exact BK148.out) hb)
                     have n3_ := Aside0.mk (blk_below (g := gb149) (o := .cells #[.int .i64 x150000_31, .int .i64 x150001_31] 104 (0, 0)) (by (with_reducible repeat (first | refine blk_drewN ?_ _ | refine blk_drew ?_ | refine blk_alloc ?_ _)); exact BK149.out) hb)
                     have n4_ := Aside0.mk (below_step (by repeat (first | (with_reducible first | exact HB.out | apply below_alloc | apply pw_below_drewN | apply below_drew1 | refine below_set ?_ GE137.out | refine below_set ?_ GE148.out | refine below_set ?_ GE149.out) | exact HB.out)) hb)
                     clear HO_12
                     clear BK137
                     clear BK148
                     clear BK149
                     clear HB
                     have HO_12 := n0_
                     have BK137 := n1_
                     have BK148 := n2_
                     have BK149 := n3_
                     have HB := n4_
                     clear n0_ n1_ n2_ n3_ n4_
                     (try clear hb)
                     (try clear hb2)
                     (try clear hk)
                     (try clear hi)
                     refine hK.out _ _ ⟨(blk_cell BK148.out 0).trans rfl, (blk_cell BK148.out 1).trans rfl, HS2_, HS3_, HS4_, HS5_, HS6_, HS7_⟩ (fun hHeld => ?_)
                     clear hK K
                     refine norm_ (a' := ?_) ?_ ?_
                     rotate_left
                     ·show Act.put _ (some 128) _ = _
                      simp only [Act.put, List.setIfInBounds_toArray, List.set_cons_zero, List.set_cons_succ, i64_w, i32_w]
                      rfl
                     refine pure_ (i := 18) (N := some 129) (v := ?_) (a' := ?_) #[true, true, true, true, true, true, true, true, true, true, true, true, true, true, true, true, true, true, true] rfl rfl (any_of HT_.out (by kernel_rfl)) (fun _ _ _ h => h) (Or.inl ⟨by rfl, ?_⟩) ?_ ?_
                     rotate_left; (· (intro w'; go_simp; with_reducible rfl)); rotate_left; (· (simp only [Act.put, List.setIfInBounds_toArray, List.set_cons_zero, List.set_cons_succ, i64_w, i32_w]; rfl))
                     refine done_ (done_of HT_.out (by kernel_rfl)) ?_
                     try go_wp2
                     go_roundg k5
                     case measure => have := HJ5.out; have := HK2.out; have := HJ31.out; have := HJ53.out; have := HK5.out; omega
                     case rel => exact ⟨(ji67), (by first | rfl | (simp; done) | (simp only [← hji67] <;> (first | rfl | simp)) | (simp [*]; done)), H', ⟨by have := HJ5.out; have := HK2.out; have := HJ31.out; have := HJ53.out; have := HK5.out; omega⟩, ⟨by (with_reducible repeat (first | apply Kd.R_alloc | apply Kd.R_drewN | apply Kd.R_drew)); exact HO_12.out⟩, ⟨by (with_reducible repeat (first | refine blk_drewN ?_ _ | refine blk_drew ?_ | refine blk_alloc ?_ _)); exact BK137.out⟩, ⟨by (with_reducible repeat (first | refine blk_drewN ?_ _ | refine blk_drew ?_ | refine blk_alloc ?_ _)); exact BK148.out⟩, ⟨by (with_reducible repeat (first | refine blk_drewN ?_ _ | refine blk_drew ?_ | refine blk_alloc ?_ _)); exact BK149.out⟩, ⟨by repeat (first | (with_reducible first | exact HB.out | apply below_alloc | apply pw_below_drewN | apply below_drew1 | refine below_set ?_ GE137.out | refine below_set ?_ GE148.out | refine below_set ?_ GE149.out) | exact HB.out)⟩⟩
                    ·replace c71 := Bool.eq_false_iff.mpr c71
                     subst c71
                     have H1 : (if 0 ≤ x23_5 then (if x23_5 ≤ (x12_2.length : Int) then ((some (x12_2.take (x23_5 : Int).toNat : List (S109))).bind fun y160 => (if ([] : List (S109)).length + y160.length < 5864062014805 then ((some (([] : List (S109)) ++ y160 : List (S109))).bind fun y164 => (if y164.length < 5864062014805 then ((some (y164 ++ [(⟨x58_2, x149000_31, x149001_31⟩ : S109)] : List (S109))).bind fun y167 => ((some (x12_2.drop (x23_5 : Int).toNat : List (S109))).bind fun y170 => (if y167.length + y170.length < 5864062014805 then (spec_RayMeets.l0 k5 a1 a2 a3 a4 (y167 ++ y170) l0 (l0.length : Int) (wrap64 (x58_2 + 1))) else (none)))) else (none))) else (none))) else (none)) else (none)) = some (r1, r2) := by rw [if_neg (show ¬ (false = true) by decide)] at H; exact H
                     clear H
                     have H := H1
                     clear H1
                     by_cases c74 : 0 ≤ x23_5
                     ·rw [if_pos c74] at H
                      have c74b0 := eq_true c74
                      have c74b1 : decide (0 ≤ x23_5) = true := decide_eq_true c74
                      clear c74
                      by_cases c75 : x23_5 ≤ (x12_2.length : Int)
                      ·rw [if_pos c75] at H
                       have c75b0 := eq_true c75
                       have c75b1 : decide (x23_5 ≤ (x12_2.length : Int)) = true := decide_eq_true c75
                       clear c75
                       obtain ⟨y160, hy160⟩ : ∃ y_ : List (S109), y_ = (x12_2.take (x23_5 : Int).toNat) := ⟨_, rfl⟩
                       replace H : (if ([] : List (S109)).length + y160.length < 5864062014805 then ((some (([] : List (S109)) ++ y160 : List (S109))).bind fun y164 => (if y164.length < 5864062014805 then ((some (y164 ++ [(⟨x58_2, x149000_31, x149001_31⟩ : S109)] : List (S109))).bind fun y167 => ((some (x12_2.drop (x23_5 : Int).toNat : List (S109))).bind fun y170 => (if y167.length + y170.length < 5864062014805 then (spec_RayMeets.l0 k5 a1 a2 a3 a4 (y167 ++ y170) l0 (l0.length : Int) (wrap64 (x58_2 + 1))) else (none)))) else (none))) else (none)) = some (r1, r2) := by first | (rw [hy160]; with_reducible exact H) | (have H2_ := (Option.bind_some _ _).symm.trans H; rw [hy160]; with_reducible exact H2_) | (have H2_ := (Option.bind_some _ _).symm.trans H; with_reducible exact H2_) | with_reducible exact H | (rw [hy160]; exact H) | exact H
                       have Ny160 := Aside0.mk hy160
                       clear hy160
                       by_cases c76 : ([] : List (S109)).length + y160.length < 5864062014805
                       ·rw [if_pos c76] at H
                        have LMc76 := Aside0.mk c76
                        clear c76
                        obtain ⟨y164, hy164⟩ : ∃ y_ : List (S109), y_ = (([] : List (S109)) ++ y160) := ⟨_, rfl⟩
                        replace H : (if y164.length < 5864062014805 then ((some (y164 ++ [(⟨x58_2, x149000_31, x149001_31⟩ : S109)] : List (S109))).bind fun y167 => ((some (x12_2.drop (x23_5 : Int).toNat : List (S109))).bind fun y170 => (if y167.length + y170.length < 5864062014805 then (spec_RayMeets.l0 k5 a1 a2 a3 a4 (y167 ++ y170) l0 (l0.length : Int) (wrap64 (x58_2 + 1))) else (none)))) else (none)) = some (r1, r2) := by first | (rw [hy164]; with_reducible exact H) | (have H2_ := (Option.bind_some _ _).symm.trans H; rw [hy164]; with_reducible exact H2_) | (have H2_ := (Option.bind_some _ _).symm.trans H; with_reducible exact H2_) | with_reducible exact H | (rw [hy164]; exact H) | exact H
                        have Ny164 := Aside0.mk hy164
                        clear hy164
                        by_cases c77 : y164.length < 5864062014805
                        ·rw [if_pos c77] at H
                         have LMc77 := Aside0.mk c77
                         clear c77
                         obtain ⟨y167, hy167⟩ : ∃ y_ : List (S109), y_ = (y164 ++ [(⟨x58_2, x149000_31, x149001_31⟩ : S109)]) := ⟨_, rfl⟩
                         replace H : ((some (x12_2.drop (x23_5 : Int).toNat : List (S109))).bind fun y170 => (if y167.length + y170.length < 5864062014805 then (spec_RayMeets.l0 k5 a1 a2 a3 a4 (y167 ++ y170) l0 (l0.length : Int) (wrap64 (x58_2 + 1))) else (none))) = some (r1, r2) := by first | (rw [hy167]; with_reducible exact H) | (have H2_ := (Option.bind_some _ _).symm.trans H; rw [hy167]; with_reducible exact H2_) | (have H2_ := (Option.bind_some _ _).symm.trans H; with_reducible exact H2_) | with_reducible exact H | (rw [hy167]; exact H) | exact H
                         have Ny167 := Aside0.mk hy167
                         clear hy167
                         have c78b0 := eq_true (of_decide_eq_true (by first | (with_reducible assumption) | assumption) : 0 ≤ x23_5)
                         have c79b0 := eq_true (of_decide_eq_true (by first | (with_reducible assumption) | assumption) : x23_5 ≤ (x12_2.length : Int))
                         obtain ⟨y170, hy170⟩ : ∃ y_ : List (S109), y_ = (x12_2.drop (x23_5 : Int).toNat) := ⟨_, rfl⟩
                         replace H : (if y167.length + y170.length < 5864062014805 then (spec_RayMeets.l0 k5 a1 a2 a3 a4 (y167 ++ y170) l0 (l0.length : Int) (wrap64 (x58_2 + 1))) else (none)) = some (r1, r2) := by first | (rw [hy170]; with_reducible exact H) | (have H2_ := (Option.bind_some _ _).symm.trans H; rw [hy170]; with_reducible exact H2_) | (have H2_ := (Option.bind_some _ _).symm.trans H; with_reducible exact H2_) | with_reducible exact H | (rw [hy170]; exact H) | exact H
                         have Ny170 := Aside0.mk hy170
                         clear hy170
                         by_cases c80 : y167.length + y170.length < 5864062014805
                         ·rw [if_pos c80] at H
                          have LMc80 := Aside0.mk c80
                          clear c80
                          obtain ⟨y174, hy174⟩ : ∃ y_ : List (S109), y_ = (y167 ++ y170) := ⟨_, rfl⟩
                          replace H : (spec_RayMeets.l0 k5 a1 a2 a3 a4 y174 l0 (l0.length : Int) (wrap64 (x58_2 + 1))) = some (r1, r2) := by first | (rw [hy174]; with_reducible exact H) | (have H2_ := (Option.bind_some _ _).symm.trans H; rw [hy174]; with_reducible exact H2_) | (have H2_ := (Option.bind_some _ _).symm.trans H; with_reducible exact H2_) | with_reducible exact H | (rw [hy174]; exact H) | exact H
                          have Ny174 := Aside0.mk hy174
                          clear hy174
                          have H' := Aside0.mk H
                          clear H
                          try go_wp2
                          have n0_ := Aside0.mk (Kd.R_drew HO_12.out)
                          have n1_ := Aside0.mk (blk_drew BK137.out)
                          have n2_ := Aside0.mk (blk_drew BK148.out)
                          have n3_ := Aside0.mk (blk_drew BK149.out)
                          have n4_ := Aside0.mk (below_drew1 HB.out)
                          clear HO_12
                          clear BK137
                          clear BK148
                          clear BK149
                          clear HB
                          have HO_12 := n0_
                          have BK137 := n1_
                          have BK148 := n2_
                          have BK149 := n3_
                          have HB := n4_
                          clear n0_ n1_ n2_ n3_ n4_
                          have p157 : 0 ≤ ((ji67) : Int) := of_decide_eq_true (by first | (with_reducible assumption) | assumption)
                          have q157 : (ji67) < (x12_2.length : Int) := of_decide_eq_true (by first | (with_reducible assumption) | assumption)
                          obtain ⟨ad157, e157, hx157_0, hx157_1, hx157_2⟩ := at_T109 (Kd.R_reads' HO_12.out).2.2 (ji67) p157 q157
                          cases e157
                          replace p157 := eq_true p157
                          replace q157 := eq_true q157
                          have p158 : 0 ≤ ((ji67) : Int) := of_decide_eq_true (by first | (with_reducible assumption) | assumption)
                          have q158 : (ji67) < (x12_2.length : Int) := of_decide_eq_true (by first | (with_reducible assumption) | assumption)
                          obtain ⟨ad158, e158, hx158_0, hx158_1, hx158_2⟩ := at_T109 (Kd.R_reads' HO_12.out).2.2 (ji67) p158 q158
                          obtain rfl : ad157 = ad158 := (by injection e158)
                          replace p158 := eq_true p158
                          replace q158 := eq_true q158
                          refine start_ (n := 19) (S := fun w' => w'.cell? ⟨gb148, 0, none⟩ = some (.int .i64 x149000_31) ∧ w'.cell? ⟨gb148, 1, none⟩ = some (.int .i64 x149001_31) ∧ w'.cell? (ad157.add (((ji67)).toNat * 3)) = some (.int .i64 ((rd_T109 x12_2 (ji67)).f0)) ∧ w'.cell? ⟨(ad157.add (((ji67)).toNat * 3)).block, (ad157.add (((ji67)).toNat * 3)).off + 1, none⟩ = some (.int .i64 ((rd_T109 x12_2 (ji67)).f1)) ∧ w'.cell? ⟨(ad157.add (((ji67)).toNat * 3)).block, (ad157.add (((ji67)).toNat * 3)).off + 2, none⟩ = some (.int .i64 ((rd_T109 x12_2 (ji67)).f2)) ∧ w'.cell? (ad157.add (((ji67)).toNat * 3)) = some (.int .i64 ((rd_T109 x12_2 (ji67)).f0)) ∧ w'.cell? ⟨(ad157.add (((ji67)).toNat * 3)).block, (ad157.add (((ji67)).toNat * 3)).off + 1, none⟩ = some (.int .i64 ((rd_T109 x12_2 (ji67)).f1)) ∧ w'.cell? ⟨(ad157.add (((ji67)).toNat * 3)).block, (ad157.add (((ji67)).toNat * 3)).off + 2, none⟩ = some (.int .i64 ((rd_T109 x12_2 (ji67)).f2))) (ds := []) #[false, false, false, false, false, false, false, false, false, false, false, false, false, false, false, false, false, false, false] (by kernel_rfl) rfl rfl ⟨(blk_cell BK148.out 0).trans rfl, (blk_cell BK148.out 1).trans rfl, hx157_0, hx157_1, hx157_2, hx158_0, hx158_1, hx158_2⟩ (fun hHeld => ?_); refine with_tabW spec_RayMeets.tab14 spec_RayMeets.bits14 (fun HT_ HW_ => ?_)
                          generalize wr.drew = w81 at HO_12 BK137 BK148 BK149 HB hx157_0 hx157_1 hx157_2 hx158_0 hx158_1 hx158_2 hHeld ⊢
                          refine pure_ (i := 0) (N := some 111) (v := ?_) (a' := ?_) #[true, false, false, false, false, false, false, false, false, false, false, false, false, false, false, false, false, false, false] rfl rfl (any_of HT_.out (by kernel_rfl)) (fun _ _ _ h => h) (Or.inl ⟨by rfl, ?_⟩) ?_ ?_
                          rotate_left; (· (intro w'; go_simp; with_reducible rfl)); rotate_left; (· (simp only [Act.put, List.setIfInBounds_toArray, List.set_cons_zero, List.set_cons_succ, i64_w, i32_w]; rfl))
                          refine pure_ (i := 1) (N := some 112) (v := ?_) (a' := ?_) #[true, true, false, false, false, false, false, false, false, false, false, false, false, false, false, false, false, false, false] rfl rfl (any_of HT_.out (by kernel_rfl)) (fun _ _ _ h => h) (Or.inl ⟨by rfl, ?_⟩) ?_ ?_
                          rotate_left; (· (intro w'; go_simp; with_reducible rfl)); rotate_left; (· (simp only [Act.put, List.setIfInBounds_toArray, List.set_cons_zero, List.set_cons_succ, i64_w, i32_w]; rfl))
                          refine pure_ (i := 2) (N := some 113) (v := ?_) (a' := ?_) #[true, true, true, false, false, false, false, false, false, false, false, false, false, false, false, false, false, false, false] rfl rfl (any_of HT_.out (by kernel_rfl)) (fun _ _ _ h => h) (Or.inl ⟨by rfl, ?_⟩) ?_ ?_
                          rotate_left; (· (intro w'; go_simp; with_reducible rfl)); rotate_left; (· (simp only [Act.put, List.setIfInBounds_toArray, List.set_cons_zero, List.set_cons_succ, i64_w, i32_w]; rfl))
                          refine pure_ (i := 4) (N := some 115) (v := ?_) (a' := ?_) #[true, true, true, false, true, false, false, false, false, false, false, false, false, false, false, false, false, false, false] rfl rfl (any_of HT_.out (by kernel_rfl)) (fun _ _ _ h => h) (Or.inl ⟨by rfl, ?_⟩) ?_ ?_
                          rotate_left; (· (intro w'; go_simp; with_reducible rfl)); rotate_left; (· (simp only [Act.put, List.setIfInBounds_toArray, List.set_cons_zero, List.set_cons_succ, i64_w, i32_w]; rfl))
                          refine pure_ (i := 5) (N := some 116) (v := ?_) (a' := ?_) #[true, true, true, false, true, true, false, false, false, false, false, false, false, false, false, false, false, false, false] rfl rfl (any_of HT_.out (by kernel_rfl)) (fun _ _ _ h => h) (Or.inl ⟨by rfl, ?_⟩) ?_ ?_
                          rotate_left; (· (intro w'; go_simp; with_reducible rfl)); rotate_left; (· (simp only [Act.put, List.setIfInBounds_toArray, List.set_cons_zero, List.set_cons_succ, i64_w, i32_w]; rfl))
                          refine pure_ (i := 6) (N := some 117) (v := ?_) (a' := ?_) #[true, true, true, false, true, true, true, false, false, false, false, false, false, false, false, false, false, false, false] rfl rfl (any_of HT_.out (by kernel_rfl)) (fun _ _ _ h => h) (Or.inl ⟨by rfl, ?_⟩) ?_ ?_
                          rotate_left; (· (intro w'; go_simp; with_reducible rfl)); rotate_left; (· (simp only [Act.put, List.setIfInBounds_toArray, List.set_cons_zero, List.set_cons_succ, i64_w, i32_w]; rfl))
                          refine pure_ (i := 7) (N := some 118) (v := ?_) (a' := ?_) #[true, true, true, false, true, true, true, true, false, false, false, false, false, false, false, false, false, false, false] rfl rfl (any_of HT_.out (by kernel_rfl)) (fun _ _ _ h => h) (Or.inl ⟨by rfl, ?_⟩) ?_ ?_
                          rotate_left; (· (intro w'; go_simp; with_reducible rfl)); rotate_left; (· (simp only [Act.put, List.setIfInBounds_toArray, List.set_cons_zero, List.set_cons_succ, i64_w, i32_w]; rfl))
                          refine pure_ (i := 8) (N := some 119) (v := ?_) (a' := ?_) #[true, true, true, false, true, true, true, true, true, false, false, false, false, false, false, false, false, false, false] rfl rfl (any_of HT_.out (by kernel_rfl)) (fun _ _ _ h => h) (Or.inl ⟨by rfl, ?_⟩) ?_ ?_
                          rotate_left; (· (intro w'; go_simp; with_reducible rfl)); rotate_left; (· (simp only [Act.put, List.setIfInBounds_toArray, List.set_cons_zero, List.set_cons_succ, i64_w, i32_w]; rfl))
                          refine pure_ (i := 10) (N := some 121) (v := ?_) (a' := ?_) #[true, true, true, false, true, true, true, true, true, false, true, false, false, false, false, false, false, false, false] rfl rfl (any_of HT_.out (by kernel_rfl)) (fun _ _ _ h => h) (Or.inl ⟨by rfl, ?_⟩) ?_ ?_
                          rotate_left; (· (intro w'; go_simp; with_reducible rfl)); rotate_left; (· (simp only [Act.put, List.setIfInBounds_toArray, List.set_cons_zero, List.set_cons_succ, i64_w, i32_w]; rfl))
                          refine pure_ (i := 11) (N := some 122) (v := ?_) (a' := ?_) #[true, true, true, false, true, true, true, true, true, false, true, true, false, false, false, false, false, false, false] rfl rfl (any_of HT_.out (by kernel_rfl)) (fun _ _ _ h => h) (Or.inl ⟨by rfl, ?_⟩) ?_ ?_
                          rotate_left; (· (intro w'; go_simp; with_reducible rfl)); rotate_left; (· (simp only [Act.put, List.setIfInBounds_toArray, List.set_cons_zero, List.set_cons_succ, i64_w, i32_w]; rfl))
                          refine pure_ (i := 12) (N := some 123) (v := ?_) (a' := ?_) #[true, true, true, false, true, true, true, true, true, false, true, true, true, false, false, false, false, false, false] rfl rfl (any_of HT_.out (by kernel_rfl)) (fun _ _ _ h => h) (Or.inl ⟨by rfl, ?_⟩) ?_ ?_
                          rotate_left; (· (intro w'; go_simp; with_reducible rfl)); rotate_left; (· (simp only [Act.put, List.setIfInBounds_toArray, List.set_cons_zero, List.set_cons_succ, i64_w, i32_w]; rfl))
                          refine pure_ (i := 13) (N := some 124) (v := ?_) (a' := ?_) #[true, true, true, false, true, true, true, true, true, false, true, true, true, true, false, false, false, false, false] rfl rfl (any_of HT_.out (by kernel_rfl)) (fun _ _ _ h => h) (Or.inl ⟨by rfl, ?_⟩) ?_ ?_
                          rotate_left; (· (intro w'; go_simp; with_reducible rfl)); rotate_left; (· (simp only [Act.put, List.setIfInBounds_toArray, List.set_cons_zero, List.set_cons_succ, i64_w, i32_w]; rfl))
                          refine pure_ (i := 14) (N := some 125) (v := ?_) (a' := ?_) #[true, true, true, false, true, true, true, true, true, false, true, true, true, true, true, false, false, false, false] rfl rfl (any_of HT_.out (by kernel_rfl)) (fun _ _ _ h => h) (Or.inl ⟨by rfl, ?_⟩) ?_ ?_
                          rotate_left; (· (intro w'; go_simp; with_reducible rfl)); rotate_left; (· (simp only [Act.put, List.setIfInBounds_toArray, List.set_cons_zero, List.set_cons_succ, i64_w, i32_w]; rfl))
                          refine take_ (i := 3) (N := some 114) (v := ?_) (a' := ?_) #[true, true, true, true, true, true, true, true, true, false, true, true, true, true, true, false, false, false, false] rfl rfl (take_ofW HT_.out HW_.out (by kernel_rfl)) (fun _ _ _ h => h) (Or.inl ⟨by rfl, ?_⟩) hHeld ?_ ?_
                          rotate_left; (· (rintro w' ⟨s0, s1, s2, s3, s4, s5, s6, s7⟩; go_simp; with_reducible rfl)); rotate_left; (· (simp only [Act.put, List.setIfInBounds_toArray, List.set_cons_zero, List.set_cons_succ, i64_w, i32_w]; rfl))
                          refine take_ (i := 9) (N := some 120) (v := ?_) (a' := ?_) #[true, true, true, true, true, true, true, true, true, true, true, true, true, true, true, false, false, false, false] rfl rfl (take_ofW HT_.out HW_.out (by kernel_rfl)) (fun _ _ _ h => h) (Or.inl ⟨by rfl, ?_⟩) hHeld ?_ ?_
                          rotate_left; (· (rintro w' ⟨s0, s1, s2, s3, s4, s5, s6, s7⟩; go_simp; with_reducible rfl)); rotate_left; (· (simp only [Act.put, List.setIfInBounds_toArray, List.set_cons_zero, List.set_cons_succ, i64_w, i32_w]; rfl))
                          refine take_ (i := 15) (N := some 126) (v := ?_) (a' := ?_) #[true, true, true, true, true, true, true, true, true, true, true, true, true, true, true, true, false, false, false] rfl rfl (take_ofW HT_.out HW_.out (by kernel_rfl)) (fun _ _ _ h => h) (Or.inl ⟨by rfl, ?_⟩) hHeld ?_ ?_
                          rotate_left; (· (rintro w' ⟨s0, s1, s2, s3, s4, s5, s6, s7⟩; go_simp; with_reducible rfl)); rotate_left; (· (simp only [Act.put, List.setIfInBounds_toArray, List.set_cons_zero, List.set_cons_succ, i64_w, i32_w]; rfl))
                          refine pure_ (i := 16) (N := some 127) (v := ?_) (a' := ?_) #[true, true, true, true, true, true, true, true, true, true, true, true, true, true, true, true, true, false, false] rfl rfl (any_of HT_.out (by kernel_rfl)) (fun _ _ _ h => h) (Or.inl ⟨by rfl, ?_⟩) ?_ ?_
                          rotate_left; (· (intro w'; go_simp; with_reducible rfl)); rotate_left; (· (simp only [Act.put, List.setIfInBounds_toArray, List.set_cons_zero, List.set_cons_succ, i64_w, i32_w]; rfl))
                          refine one_ (i := 17) (N := some 128) #[true, true, true, true, true, true, true, true, true, true, true, true, true, true, true, true, true, true, false] rfl rfl (one_of HT_.out (by kernel_rfl)) (by decide) (fun K hK => ?_)
                          refine goes_ Try.func65 (by kernel_rfl) rfl #[.agg #[.int .i64 x149000_31, .int .i64 x149001_31], .agg #[.int .i64 ((rd_T109 x12_2 (ji67)).f1), .int .i64 ((rd_T109 x12_2 (ji67)).f2)]] (by rfl) rfl rfl (by (try simp only [List.map_toArray, List.map_cons, List.map_nil]); first | done | (simp only [hji67]; rfl) | rfl | (simp only [List.length_drop, List.length_take]; rfl)) ?_
                          with_reducible refine (spec_l9Less.calls x149000_31 x149001_31 ((rd_T109 x12_2 (ji67)).f1) ((rd_T109 x12_2 (ji67)).f2) false _ A70.out).mono ?_
                          rintro e w82 ⟨rfl, hb⟩
                          have HS2_ := (hb.cell (World.block_lt_of_cell? _ _ (hHeld.2.2.1))).trans (hHeld.2.2.1)
                          have HS3_ := (hb.cell (World.block_lt_of_cell? _ _ (hHeld.2.2.2.1))).trans (hHeld.2.2.2.1)
                          have HS4_ := (hb.cell (World.block_lt_of_cell? _ _ (hHeld.2.2.2.2.1))).trans (hHeld.2.2.2.2.1)
                          have HS5_ := (hb.cell (World.block_lt_of_cell? _ _ (hHeld.2.2.2.2.2.1))).trans (hHeld.2.2.2.2.2.1)
                          have HS6_ := (hb.cell (World.block_lt_of_cell? _ _ (hHeld.2.2.2.2.2.2.1))).trans (hHeld.2.2.2.2.2.2.1)
                          have HS7_ := (hb.cell (World.block_lt_of_cell? _ _ (hHeld.2.2.2.2.2.2.2))).trans (hHeld.2.2.2.2.2.2.2)
                          refine ⟨_, rfl, ?_⟩
                          have n0_ := Aside0.mk (Kd.R_below (by (with_reducible repeat (first | apply Kd.R_alloc | apply Kd.R_drewN | apply Kd.R_drew)); exact HO_12.out) hb)
                          have n1_ := Aside0.mk (blk_below (g := gb137) (o := .cells #[.int .i64 ((rd_T100 l0 x58_2).f0), .int .i64 ((rd_T100 l0 x58_2).f1), .int .i64 ((rd_T100 l0 x58_2).f2), .int .i64 ((rd_T100 l0 x58_2).f3), .int .i64 ((rd_T100 l0 x58_2).f4)] 100 (0, 0)) (by (with_reducible repeat (first | refine blk_drewN ?_ _ | refine blk_drew ?_ | refine blk_alloc ?_ _)); exact BK137.out) hb)
                          have n2_ := Aside0.mk (blk_below (g := gb148) (o := .cells #[.int .i64 x149000_31, .int .i64 x149001_31] 104 (0, 0)) (by (with_reducible repeat (first | refine blk_drewN ?_ _ | refine blk_drew ?_ | refine blk_alloc ?_ _)); exact BK148.out) hb)
                          have n3_ := Aside0.mk (blk_below (g := gb149) (o := .cells #[.int .i64 x150000_31, .int .i64 x150001_31] 104 (0, 0)) (by (with_reducible repeat (first | refine blk_drewN ?_ _ | refine blk_drew ?_ | refine blk_alloc ?_ _)); exact BK149.out) hb)
                          have n4_ := Aside0.mk (below_step (by repeat (first | (with_reducible first | exact HB.out | apply below_alloc | apply pw_below_drewN | apply below_drew1 | refine below_set ?_ GE137.out | refine below_set ?_ GE148.out | refine below_set ?_ GE149.out) | exact HB.out)) hb)
                          clear HO_12
                          clear BK137
                          clear BK148
                          clear BK149
                          clear HB
                          have HO_12 := n0_
                          have BK137 := n1_
                          have BK148 := n2_
                          have BK149 := n3_
                          have HB := n4_
                          clear n0_ n1_ n2_ n3_ n4_
                          (try clear hb)
                          (try clear hb2)
                          (try clear hk)
                          (try clear hi)
                          refine hK.out _ _ ⟨(blk_cell BK148.out 0).trans rfl, (blk_cell BK148.out 1).trans rfl, HS2_, HS3_, HS4_, HS5_, HS6_, HS7_⟩ (fun hHeld => ?_)
                          clear hK K
                          refine norm_ (a' := ?_) ?_ ?_
                          rotate_left
                          ·show Act.put _ (some 128) _ = _
                           simp only [Act.put, List.setIfInBounds_toArray, List.set_cons_zero, List.set_cons_succ, i64_w, i32_w]
                           rfl
                          refine pure_ (i := 18) (N := some 129) (v := ?_) (a' := ?_) #[true, true, true, true, true, true, true, true, true, true, true, true, true, true, true, true, true, true, true] rfl rfl (any_of HT_.out (by kernel_rfl)) (fun _ _ _ h => h) (Or.inl ⟨by rfl, ?_⟩) ?_ ?_
                          rotate_left; (· (intro w'; go_simp; with_reducible rfl)); rotate_left; (· (simp only [Act.put, List.setIfInBounds_toArray, List.set_cons_zero, List.set_cons_succ, i64_w, i32_w]; rfl))
                          refine done_ (done_of HT_.out (by kernel_rfl)) ?_
                          have q83 : (x23_5 : Int) ≤ ((x12_2.length : Int) : Int) := of_decide_eq_true (by first | (with_reducible assumption) | assumption)
                          obtain ⟨i083, hi083, _, hsz83, _⟩ := info_parts info109
                          have hroom83 : x12_2.length ≤ co65 := (Kd.R_reads' HO_12.out).2.1
                          have hC83 : Kd.C k109 _ (some ad157) x12_2.length x12_2 := (Kd.R_reads' HO_12.out).2.2
                          have hcut83 := cut_to (P := Try.prog) 52 109 .i64 Try.underlying52 hi083 (some ad157) x12_2.length co65 x23_5 (of_decide_eq_true (by first | (with_reducible assumption) | assumption)) q83 hroom83
                          have hr83 := Kd.C_take (m := (x23_5 : Int).toNat) hC83 (by omega)
                          have hy83 : y160.length = (x23_5 : Int).toNat := (by rw [Ny160.out, List.length_take]; omega)
                          rw [← Ny160.out] at hr83
                          rw [← hy83] at hcut83
                          have HR163 := Aside0.mk hr83
                          have HC163 := Aside0.mk (show y160.length ≤ co65 from by omega)
                          clear hr83 hC83 hroom83 hi083 hsz83
                          have KY83 := Aside0.mk hy83
                          clear hy83
                          have KL83 := Aside0.mk (show (x23_5 : Int).toNat ≤ x12_2.length from by omega)
                          replace q83 := eq_true q83
                          try go_wp2_with (first | ((with_reducible refine gate_builtin (b := .append) (xs := #[.tmp 132, .tmp 135]) rfl ?_); at_builtin; refine Kd.R_append_rows k109 (w0 := w) w.heap.size rfl (.tmp 132) (.tmp 135) 52 109 (.agg #[(.int .i64 0), (.int .i64 0), (.int .i64 0)]) 24 rfl Try.underlying52 info109 rfl (by decide) (by omega) (.slice none 0 0) ([] : List (S109)) y160 _ _ _ (fun k_ => some k_ ≠ (.slice (some ad157) x12_2.length co65 : Value).ownBlock) (fun _ => False) rfl rfl ?aO ?aR (fun _ _ h => h) (fun _ h => h.elim) ?aF ?aB ?aS ?aL ?_; (case aR => repeat (first | exact (by repeat (first | (with_reducible exact HR163.out) | (with_reducible refine Kd.C_alloc ?_ _) | (with_reducible refine Kd.C_drewN ?_ _) | (with_reducible refine Kd.C_drew ?_) | exact HR163.out)) | (with_reducible refine Kd.C_alloc ?_ _) | (with_reducible refine Kd.C_drewN ?_ _) | (with_reducible refine Kd.C_drew ?_))); (case aB => exact (by repeat (first | (with_reducible first | exact HB.out | apply below_alloc | apply pw_below_drewN | apply below_drew1 | refine below_set ?_ GE137.out | refine below_set ?_ GE148.out | refine below_set ?_ GE149.out) | exact HB.out))); (case aF => exact (fun k_ hk => Kd.fresh' (Kd.R_lt (by (with_reducible repeat (first | apply Kd.R_alloc | apply Kd.R_drewN | apply Kd.R_drew)); exact HO_12.out)) k_ hk)); (case aO => exact ((Kd.R_nil _ _ _ _ (fun k_ => some k_ ≠ (.slice (some ad157) x12_2.length co65 : Value).ownBlock)))); (case aS => exact (below_size (by repeat (first | (with_reducible first | exact HB.out | apply below_alloc | apply pw_below_drewN | apply below_drew1 | refine below_set ?_ GE137.out | refine below_set ?_ GE148.out | refine below_set ?_ GE149.out) | exact HB.out)))); (case aL => have := LMc76.out; omega); intro v165 w84 ho hb hg hat; rw [← Ny164.out] at ho; have n0_ := Aside0.mk (Kd.R_after (Kd.R_apart_nil (by (with_reducible repeat (first | apply Kd.R_alloc | apply Kd.R_drewN | apply Kd.R_drew)); exact HO_12.out)) hg hat); have n1_ := Aside0.mk (blk_grown (g := gb137) (o := .cells #[.int .i64 ((rd_T100 l0 x58_2).f0), .int .i64 ((rd_T100 l0 x58_2).f1), .int .i64 ((rd_T100 l0 x58_2).f2), .int .i64 ((rd_T100 l0 x58_2).f3), .int .i64 ((rd_T100 l0 x58_2).f4)] 100 (0, 0)) (by (with_reducible repeat (first | refine blk_drewN ?_ _ | refine blk_drew ?_ | refine blk_alloc ?_ _)); exact BK137.out) hg (by simp [Value.ownBlock])); have n2_ := Aside0.mk (blk_grown (g := gb148) (o := .cells #[.int .i64 x149000_31, .int .i64 x149001_31] 104 (0, 0)) (by (with_reducible repeat (first | refine blk_drewN ?_ _ | refine blk_drew ?_ | refine blk_alloc ?_ _)); exact BK148.out) hg (by simp [Value.ownBlock])); have n3_ := Aside0.mk (blk_grown (g := gb149) (o := .cells #[.int .i64 x150000_31, .int .i64 x150001_31] 104 (0, 0)) (by (with_reducible repeat (first | refine blk_drewN ?_ _ | refine blk_drew ?_ | refine blk_alloc ?_ _)); exact BK149.out) hg (by simp [Value.ownBlock])); have n4_ := Aside0.mk (hb); have n5_ := Aside0.mk ((show Kd.C k109 w84 (some ad157) y160.length y160 from by rw [Ny160.out]; exact Kd.C_take (m := (x23_5 : Int).toNat) ((Kd.R_reads' (Kd.R_after (Kd.R_apart_nil (by (with_reducible repeat (first | apply Kd.R_alloc | apply Kd.R_drewN | apply Kd.R_drew)); exact HO_12.out)) hg hat)).2.2) KL83.out)); have n6_ := Aside0.mk (ho); clear HO_12; clear BK137; clear BK148; clear BK149; clear HB; clear HR163; have HO_12 := n0_; have BK137 := n1_; have BK148 := n2_; have BK149 := n3_; have HB := n4_; have HR163 := n5_; have HO166 := n6_; clear n0_ n1_ n2_ n3_ n4_ n5_ n6_; clear ho hb hg hat; have hnb85 := NB148_137.out; have hnc85 := NB137_148.out; have hnb86 := NB148_149.out; have hnc86 := NB149_148.out; have hcz87_0 : w84.cell? ⟨gb148, 0, none⟩ = some (.int .i64 x149000_31) := (blk_cell BK148.out 0).trans rfl; have hcz87_1 : w84.cell? ⟨gb148, 1, none⟩ = some (.int .i64 x149001_31) := (blk_cell BK148.out 1).trans rfl; have hfz87_0 := blk_frozen BK148.out 0; have hfz87_1 := blk_frozen BK148.out 1) | ((with_reducible refine gate_builtin (b := .append) (xs := #[.tmp 137, .tmp 144]) rfl ?_); at_builtin; refine Kd.R_append k109 (w0 := w) w.heap.size rfl (.tmp 137) (.tmp 144) 52 109 (.agg #[(.int .i64 0), (.int .i64 0), (.int .i64 0)]) 24 rfl Try.underlying52 info109 rfl (by decide) (by omega) v165 y164 (⟨x58_2, x149000_31, x149001_31⟩ : S109) [.int .i64 x58_2, .int .i64 x149000_31, .int .i64 x149001_31] (fun k_ => some k_ ≠ (.slice (some ad157) x12_2.length co65 : Value).ownBlock) (fun _ => False) rfl rfl ?aP (fun _ hk => hk.elim) ?aF ?aO ?aB ?aS ?aL ?_; (case aP => exact k109_mkM _ _ _ (⟨x58_2, x149000_31, x149001_31⟩ : S109)); (case aB => exact (by repeat (first | (with_reducible first | exact HB.out | apply below_alloc | apply pw_below_drewN | apply below_drew1 | refine below_set ?_ GE137.out | refine below_set ?_ GE148.out | refine below_set ?_ GE149.out) | exact HB.out))); (case aF => exact (fun k_ hk => Kd.fresh' (Kd.R_lt (by (with_reducible repeat (first | apply Kd.R_alloc | apply Kd.R_drewN | apply Kd.R_drew)); exact HO_12.out)) k_ hk)); (case aO => exact (by (with_reducible repeat (first | apply Kd.R_alloc | apply Kd.R_drewN | apply Kd.R_drew)); exact HO166.out)); (case aS => exact (below_size (by repeat (first | (with_reducible first | exact HB.out | apply below_alloc | apply pw_below_drewN | apply below_drew1 | refine below_set ?_ GE137.out | refine below_set ?_ GE148.out | refine below_set ?_ GE149.out) | exact HB.out)))); (case aL => have := LMc77.out; omega); intro v168 w88 ho hb hg hat; rw [← Ny167.out] at ho; have n0_ := Aside0.mk (Kd.R_after (ok := (fun _ => True)) (by (with_reducible repeat (first | apply Kd.R_alloc | apply Kd.R_drewN | apply Kd.R_drew)); exact HO_12.out) hg hat); have n1_ := Aside0.mk (blk_grown (g := gb137) (o := .cells #[.int .i64 ((rd_T100 l0 x58_2).f0), .int .i64 ((rd_T100 l0 x58_2).f1), .int .i64 ((rd_T100 l0 x58_2).f2), .int .i64 ((rd_T100 l0 x58_2).f3), .int .i64 ((rd_T100 l0 x58_2).f4)] 100 (0, 0)) (by (with_reducible repeat (first | refine blk_drewN ?_ _ | refine blk_drew ?_ | refine blk_alloc ?_ _)); exact BK137.out) hg (Kd.R_ne HO166.out BK137.out (by decide))); have n2_ := Aside0.mk (blk_grown (g := gb148) (o := .cells #[.int .i64 x149000_31, .int .i64 x149001_31] 104 (0, 0)) (by (with_reducible repeat (first | refine blk_drewN ?_ _ | refine blk_drew ?_ | refine blk_alloc ?_ _)); exact BK148.out) hg (Kd.R_ne HO166.out BK148.out (by decide))); have n3_ := Aside0.mk (blk_grown (g := gb149) (o := .cells #[.int .i64 x150000_31, .int .i64 x150001_31] 104 (0, 0)) (by (with_reducible repeat (first | refine blk_drewN ?_ _ | refine blk_drew ?_ | refine blk_alloc ?_ _)); exact BK149.out) hg (Kd.R_ne HO166.out BK149.out (by decide))); have n4_ := Aside0.mk (hb); have n5_ := Aside0.mk ((show Kd.C k109 w88 (some ad157) y160.length y160 from by rw [Ny160.out]; exact Kd.C_take (m := (x23_5 : Int).toNat) ((Kd.R_reads' (Kd.R_after (ok := (fun _ => True)) (by (with_reducible repeat (first | apply Kd.R_alloc | apply Kd.R_drewN | apply Kd.R_drew)); exact HO_12.out) hg hat)).2.2) KL83.out)); have n6_ := Aside0.mk (ho); clear HO_12; clear BK137; clear BK148; clear BK149; clear HB; clear HR163; clear HO166; have HO_12 := n0_; have BK137 := n1_; have BK148 := n2_; have BK149 := n3_; have HB := n4_; have HR163 := n5_; have HO169 := n6_; clear n0_ n1_ n2_ n3_ n4_ n5_ n6_; clear ho hb hg hat; have q89 : (x23_5 : Int) ≤ ((x12_2.length : Int) : Int) := of_decide_eq_true (by first | (with_reducible assumption) | assumption); obtain ⟨i089, hi089, _, hsz89, _⟩ := info_parts info109; have hroom89 : x12_2.length ≤ co65 := (Kd.R_reads' HO_12.out).2.1; have hC89 : Kd.C k109 _ (some ad157) x12_2.length x12_2 := (Kd.R_reads' HO_12.out).2.2; have q089 : (0 : Int) ≤ (x23_5 : Int) := of_decide_eq_true (by first | (with_reducible assumption) | assumption); have hcut89 := cut_from (P := Try.prog) 52 109 .i64 Try.underlying52 hi089 3 hsz89 (some ad157) x12_2.length co65 x23_5 q089 q89; have hr89 := Kd.C_drop (m := (x23_5 : Int).toNat) (c := co65) hC89 (by omega) hroom89; obtain ⟨A89, hA89⟩ : ∃ A1, A1 = (if co65 = (x23_5 : Int).toNat then (some ad157) else ((some ad157) : Option Addr).map (·.add ((x23_5 : Int).toNat * 3))) := ⟨_, rfl⟩; obtain ⟨c89, hc89⟩ : ∃ c1, c1 = co65 - (x23_5 : Int).toNat := ⟨_, rfl⟩; have hy89 : y170.length = x12_2.length - (x23_5 : Int).toNat := (by rw [Ny170.out, List.length_drop] <;> omega); rw [show (x12_2).drop (x23_5 : Int).toNat = y170 from Ny170.out.symm] at hr89; replace hr89 : Kd.C k109 _ A89 y170.length y170 := (by rw [hA89]; exact hr89); rw [← hy89, ← hA89, ← hc89] at hcut89; have HR173 := Aside0.mk hr89; have HC173 := Aside0.mk (show y170.length ≤ c89 from by rw [hy89, hc89]; exact Nat.sub_le_sub_right hroom89 _); clear hr89 hC89 hroom89 hi089 hsz89 hc89; have KY89 := Aside0.mk hy89; have KA89 := Aside0.mk hA89; clear hy89 hA89; have KL89 := Aside0.mk (show (x23_5 : Int).toNat ≤ x12_2.length from by omega); replace q89 := eq_true q89) | ((with_reducible refine gate_builtin (b := .append) (xs := #[.tmp 146, .tmp 149]) rfl ?_); at_builtin; refine Kd.R_append_rows k109 (w0 := w) w.heap.size rfl (.tmp 146) (.tmp 149) 52 109 (.agg #[(.int .i64 0), (.int .i64 0), (.int .i64 0)]) 24 rfl Try.underlying52 info109 rfl (by decide) (by omega) v168 y167 y170 _ _ _ (fun k_ => some k_ ≠ (.slice (some ad157) x12_2.length co65 : Value).ownBlock) (fun _ => False) rfl rfl ?aO ?aR (fun _ _ h => h) (fun _ h => h.elim) ?aF ?aB ?aS ?aL ?_; (case aR => repeat (first | exact (by repeat (first | (with_reducible exact HR173.out) | (with_reducible refine Kd.C_alloc ?_ _) | (with_reducible refine Kd.C_drewN ?_ _) | (with_reducible refine Kd.C_drew ?_) | exact HR173.out)) | (with_reducible refine Kd.C_alloc ?_ _) | (with_reducible refine Kd.C_drewN ?_ _) | (with_reducible refine Kd.C_drew ?_))); (case aB => exact (by repeat (first | (with_reducible first | exact HB.out | apply below_alloc | apply pw_below_drewN | apply below_drew1 | refine below_set ?_ GE137.out | refine below_set ?_ GE148.out | refine below_set ?_ GE149.out) | exact HB.out))); (case aF => exact (fun k_ hk => Kd.fresh' (Kd.R_lt (by (with_reducible repeat (first | apply Kd.R_alloc | apply Kd.R_drewN | apply Kd.R_drew)); exact HO_12.out)) k_ hk)); (case aO => exact (by (with_reducible repeat (first | apply Kd.R_alloc | apply Kd.R_drewN | apply Kd.R_drew)); exact HO169.out)); (case aS => exact (below_size (by repeat (first | (with_reducible first | exact HB.out | apply below_alloc | apply pw_below_drewN | apply below_drew1 | refine below_set ?_ GE137.out | refine below_set ?_ GE148.out | refine below_set ?_ GE149.out) | exact HB.out)))); (case aL => have := LMc80.out; omega); intro v175 w90 ho hb hg hat; rw [← Ny174.out] at ho; have n0_ := Aside0.mk (Kd.R_after (ok := (fun _ => True)) (by (with_reducible repeat (first | apply Kd.R_alloc | apply Kd.R_drewN | apply Kd.R_drew)); exact HO_12.out) hg hat); have n1_ := Aside0.mk (blk_grown (g := gb137) (o := .cells #[.int .i64 ((rd_T100 l0 x58_2).f0), .int .i64 ((rd_T100 l0 x58_2).f1), .int .i64 ((rd_T100 l0 x58_2).f2), .int .i64 ((rd_T100 l0 x58_2).f3), .int .i64 ((rd_T100 l0 x58_2).f4)] 100 (0, 0)) (by (with_reducible repeat (first | refine blk_drewN ?_ _ | refine blk_drew ?_ | refine blk_alloc ?_ _)); exact BK137.out) hg (Kd.R_ne HO169.out BK137.out (by decide))); have n2_ := Aside0.mk (blk_grown (g := gb148) (o := .cells #[.int .i64 x149000_31, .int .i64 x149001_31] 104 (0, 0)) (by (with_reducible repeat (first | refine blk_drewN ?_ _ | refine blk_drew ?_ | refine blk_alloc ?_ _)); exact BK148.out) hg (Kd.R_ne HO169.out BK148.out (by decide))); have n3_ := Aside0.mk (blk_grown (g := gb149) (o := .cells #[.int .i64 x150000_31, .int .i64 x150001_31] 104 (0, 0)) (by (with_reducible repeat (first | refine blk_drewN ?_ _ | refine blk_drew ?_ | refine blk_alloc ?_ _)); exact BK149.out) hg (Kd.R_ne HO169.out BK149.out (by decide))); have n4_ := Aside0.mk (hb); have n5_ := Aside0.mk ((show Kd.C k109 w90 (some ad157) y160.length y160 from by rw [Ny160.out]; exact Kd.C_take (m := (x23_5 : Int).toNat) ((Kd.R_reads' (Kd.R_after (ok := (fun _ => True)) (by (with_reducible repeat (first | apply Kd.R_alloc | apply Kd.R_drewN | apply Kd.R_drew)); exact HO_12.out) hg hat)).2.2) KL83.out)); have n6_ := Aside0.mk ((show Kd.C k109 w90 A89 y170.length y170 from by rw [Ny170.out, KA89.out]; exact Kd.C_drop (m := (x23_5 : Int).toNat) (c := co65) ((Kd.R_reads' (Kd.R_after (ok := (fun _ => True)) (by (with_reducible repeat (first | apply Kd.R_alloc | apply Kd.R_drewN | apply Kd.R_drew)); exact HO_12.out) hg hat)).2.2) KL89.out ((Kd.R_reads' (Kd.R_after (ok := (fun _ => True)) (by (with_reducible repeat (first | apply Kd.R_alloc | apply Kd.R_drewN | apply Kd.R_drew)); exact HO_12.out) hg hat)).2.1))); have n7_ := Aside0.mk (ho); clear HO_12; clear BK137; clear BK148; clear BK149; clear HB; clear HR163; clear HR173; clear HO169; have HO_12 := n0_; have BK137 := n1_; have BK148 := n2_; have BK149 := n3_; have HB := n4_; have HR163 := n5_; have HR173 := n6_; have HO176 := n7_; clear n0_ n1_ n2_ n3_ n4_ n5_ n6_ n7_; clear ho hb hg hat))
                          go_roundg k5
                          case measure => have := HJ5.out; have := HK2.out; have := HJ31.out; have := HJ53.out; have := HK5.out; omega
                          case rel => exact ⟨(y174), (wrap64 (x58_2 + 1)), (by first | rfl | (simp; done) | (simp [*]; done)), H', ⟨by have := HJ5.out; have := HK2.out; have := HJ31.out; have := HJ53.out; have := HK5.out; omega⟩, ⟨by (with_reducible repeat (first | apply Kd.R_alloc | apply Kd.R_drewN | apply Kd.R_drew)); exact Kd.R_mono HO176.out (fun _ hk => trivial)⟩, ⟨by repeat (first | (with_reducible first | exact HB.out | apply below_alloc | apply pw_below_drewN | apply below_drew1 | refine below_set ?_ GE137.out | refine below_set ?_ GE148.out | refine below_set ?_ GE149.out) | exact HB.out)⟩⟩
                         ·rw [if_neg c80] at H
                          exact absurd H (by simp)
                        ·rw [if_neg c77] at H
                         exact absurd H (by simp)
                       ·rw [if_neg c76] at H
                        exact absurd H (by simp)
                      ·rw [if_neg c75] at H
                       exact absurd H (by simp)
                     ·rw [if_neg c74] at H
                      exact absurd H (by simp)
                   ·rw [if_neg c69] at H
                    exact absurd H (by simp)
                  ·rw [if_neg c68] at H
                   exact absurd H (by simp)
                 ·rw [if_neg c66] at H
                  have c66b0 : decide (0 < x23_5) = false := decide_eq_false c66
                  clear c66
                  by_cases c91 : 0 ≤ x23_5
                  ·rw [if_pos c91] at H
                   have c91b0 := eq_true c91
                   have c91b1 : decide (0 ≤ x23_5) = true := decide_eq_true c91
                   clear c91
                   by_cases c92 : x23_5 ≤ (x12_2.length : Int)
                   ·rw [if_pos c92] at H
                    have c92b0 := eq_true c92
                    have c92b1 : decide (x23_5 ≤ (x12_2.length : Int)) = true := decide_eq_true c92
                    clear c92
                    obtain ⟨y177, hy177⟩ : ∃ y_ : List (S109), y_ = (x12_2.take (x23_5 : Int).toNat) := ⟨_, rfl⟩
                    replace H : (if ([] : List (S109)).length + y177.length < 5864062014805 then ((some (([] : List (S109)) ++ y177 : List (S109))).bind fun y181 => (if y181.length < 5864062014805 then ((some (y181 ++ [(⟨x58_2, x149000_31, x149001_31⟩ : S109)] : List (S109))).bind fun y184 => ((some (x12_2.drop (x23_5 : Int).toNat : List (S109))).bind fun y187 => (if y184.length + y187.length < 5864062014805 then (spec_RayMeets.l0 k5 a1 a2 a3 a4 (y184 ++ y187) l0 (l0.length : Int) (wrap64 (x58_2 + 1))) else (none)))) else (none))) else (none)) = some (r1, r2) := by first | (rw [hy177]; with_reducible exact H) | (have H2_ := (Option.bind_some _ _).symm.trans H; rw [hy177]; with_reducible exact H2_) | (have H2_ := (Option.bind_some _ _).symm.trans H; with_reducible exact H2_) | with_reducible exact H | (rw [hy177]; exact H) | exact H
                    have Ny177 := Aside0.mk hy177
                    clear hy177
                    by_cases c93 : ([] : List (S109)).length + y177.length < 5864062014805
                    ·rw [if_pos c93] at H
                     have LMc93 := Aside0.mk c93
                     clear c93
                     obtain ⟨y181, hy181⟩ : ∃ y_ : List (S109), y_ = (([] : List (S109)) ++ y177) := ⟨_, rfl⟩
                     replace H : (if y181.length < 5864062014805 then ((some (y181 ++ [(⟨x58_2, x149000_31, x149001_31⟩ : S109)] : List (S109))).bind fun y184 => ((some (x12_2.drop (x23_5 : Int).toNat : List (S109))).bind fun y187 => (if y184.length + y187.length < 5864062014805 then (spec_RayMeets.l0 k5 a1 a2 a3 a4 (y184 ++ y187) l0 (l0.length : Int) (wrap64 (x58_2 + 1))) else (none)))) else (none)) = some (r1, r2) := by first | (rw [hy181]; with_reducible exact H) | (have H2_ := (Option.bind_some _ _).symm.trans H; rw [hy181]; with_reducible exact H2_) | (have H2_ := (Option.bind_some _ _).symm.trans H; with_reducible exact H2_) | with_reducible exact H | (rw [hy181]; exact H) | exact H
                     have Ny181 := Aside0.mk hy181
                     clear hy181
                     by_cases c94 : y181.length < 5864062014805
                     ·rw [if_pos c94] at H
                      have LMc94 := Aside0.mk c94
                      clear c94
                      obtain ⟨y184, hy184⟩ : ∃ y_ : List (S109), y_ = (y181 ++ [(⟨x58_2, x149000_31, x149001_31⟩ : S109)]) := ⟨_, rfl⟩
                      replace H : ((some (x12_2.drop (x23_5 : Int).toNat : List (S109))).bind fun y187 => (if y184.length + y187.length < 5864062014805 then (spec_RayMeets.l0 k5 a1 a2 a3 a4 (y184 ++ y187) l0 (l0.length : Int) (wrap64 (x58_2 + 1))) else (none))) = some (r1, r2) := by first | (rw [hy184]; with_reducible exact H) | (have H2_ := (Option.bind_some _ _).symm.trans H; rw [hy184]; with_reducible exact H2_) | (have H2_ := (Option.bind_some _ _).symm.trans H; with_reducible exact H2_) | with_reducible exact H | (rw [hy184]; exact H) | exact H
                      have Ny184 := Aside0.mk hy184
                      clear hy184
                      have c95b0 := eq_true (of_decide_eq_true (by first | (with_reducible assumption) | assumption) : 0 ≤ x23_5)
                      have c96b0 := eq_true (of_decide_eq_true (by first | (with_reducible assumption) | assumption) : x23_5 ≤ (x12_2.length : Int))
                      obtain ⟨y187, hy187⟩ : ∃ y_ : List (S109), y_ = (x12_2.drop (x23_5 : Int).toNat) := ⟨_, rfl⟩
                      replace H : (if y184.length + y187.length < 5864062014805 then (spec_RayMeets.l0 k5 a1 a2 a3 a4 (y184 ++ y187) l0 (l0.length : Int) (wrap64 (x58_2 + 1))) else (none)) = some (r1, r2) := by first | (rw [hy187]; with_reducible exact H) | (have H2_ := (Option.bind_some _ _).symm.trans H; rw [hy187]; with_reducible exact H2_) | (have H2_ := (Option.bind_some _ _).symm.trans H; with_reducible exact H2_) | with_reducible exact H | (rw [hy187]; exact H) | exact H
                      have Ny187 := Aside0.mk hy187
                      clear hy187
                      by_cases c97 : y184.length + y187.length < 5864062014805
                      ·rw [if_pos c97] at H
                       have LMc97 := Aside0.mk c97
                       clear c97
                       obtain ⟨y191, hy191⟩ : ∃ y_ : List (S109), y_ = (y184 ++ y187) := ⟨_, rfl⟩
                       replace H : (spec_RayMeets.l0 k5 a1 a2 a3 a4 y191 l0 (l0.length : Int) (wrap64 (x58_2 + 1))) = some (r1, r2) := by first | (rw [hy191]; with_reducible exact H) | (have H2_ := (Option.bind_some _ _).symm.trans H; rw [hy191]; with_reducible exact H2_) | (have H2_ := (Option.bind_some _ _).symm.trans H; with_reducible exact H2_) | with_reducible exact H | (rw [hy191]; exact H) | exact H
                       have Ny191 := Aside0.mk hy191
                       clear hy191
                       have H' := Aside0.mk H
                       clear H
                       try go_wp2
                       have n0_ := Aside0.mk (Kd.R_drew HO_12.out)
                       have n1_ := Aside0.mk (blk_drew BK137.out)
                       have n2_ := Aside0.mk (blk_drew BK148.out)
                       have n3_ := Aside0.mk (blk_drew BK149.out)
                       have n4_ := Aside0.mk (below_drew1 HB.out)
                       clear HO_12
                       clear BK137
                       clear BK148
                       clear BK149
                       clear HB
                       have HO_12 := n0_
                       have BK137 := n1_
                       have BK148 := n2_
                       have BK149 := n3_
                       have HB := n4_
                       clear n0_ n1_ n2_ n3_ n4_
                       refine start_ (n := 19) (S := fun w' => True) (ds := []) #[false, false, false, false, false, false, false, false, false, false, false, false, false, false, false, false, false, false, false] (by kernel_rfl) rfl rfl trivial (fun hHeld => ?_); refine with_tabW spec_RayMeets.tab14 spec_RayMeets.bits14 (fun HT_ HW_ => ?_)
                       generalize wr.drew = w98 at HO_12 BK137 BK148 BK149 HB hHeld ⊢
                       refine pure_ (i := 0) (N := some 111) (v := ?_) (a' := ?_) #[true, false, false, false, false, false, false, false, false, false, false, false, false, false, false, false, false, false, false] rfl rfl (any_of HT_.out (by kernel_rfl)) (fun _ _ _ h => h) (Or.inl ⟨by rfl, ?_⟩) ?_ ?_
                       rotate_left; (· (intro w'; go_simp; with_reducible rfl)); rotate_left; (· (simp only [Act.put, List.setIfInBounds_toArray, List.set_cons_zero, List.set_cons_succ, i64_w, i32_w]; rfl))
                       refine pure_ (i := 1) (N := some 112) (v := ?_) (a' := ?_) #[true, true, false, false, false, false, false, false, false, false, false, false, false, false, false, false, false, false, false] rfl rfl (any_of HT_.out (by kernel_rfl)) (fun _ _ _ h => h) (Or.inl ⟨by rfl, ?_⟩) ?_ ?_
                       rotate_left; (· (intro w'; go_simp; with_reducible rfl)); rotate_left; (· (simp only [Act.put, List.setIfInBounds_toArray, List.set_cons_zero, List.set_cons_succ, i64_w, i32_w]; rfl))
                       refine pure_ (i := 2) (N := some 113) (v := ?_) (a' := ?_) #[true, true, true, false, false, false, false, false, false, false, false, false, false, false, false, false, false, false, false] rfl rfl (any_of HT_.out (by kernel_rfl)) (fun _ _ _ h => h) (Or.inl ⟨by rfl, ?_⟩) ?_ ?_
                       rotate_left; (· (intro w'; go_simp; with_reducible rfl)); rotate_left; (· (simp only [Act.put, List.setIfInBounds_toArray, List.set_cons_zero, List.set_cons_succ, i64_w, i32_w]; rfl))
                       refine pure_ (i := 3) (N := some 114) (v := undef) (a' := ?_) #[true, true, true, true, false, false, false, false, false, false, false, false, false, false, false, false, false, false, false] rfl rfl (any_of HT_.out (by kernel_rfl)) (fun _ _ _ h => h) (Or.inr ⟨by rfl, rfl⟩) ?_ ?_
                       rotate_left
                       ·simp only [Act.put, List.setIfInBounds_toArray, List.set_cons_zero, List.set_cons_succ, i64_w, i32_w]
                        rfl
                       refine pure_ (i := 4) (N := some 115) (v := undef) (a' := ?_) #[true, true, true, true, true, false, false, false, false, false, false, false, false, false, false, false, false, false, false] rfl rfl (any_of HT_.out (by kernel_rfl)) (fun _ _ _ h => h) (Or.inr ⟨by rfl, rfl⟩) ?_ ?_
                       rotate_left
                       ·simp only [Act.put, List.setIfInBounds_toArray, List.set_cons_zero, List.set_cons_succ, i64_w, i32_w]
                        rfl
                       refine pure_ (i := 5) (N := some 116) (v := undef) (a' := ?_) #[true, true, true, true, true, true, false, false, false, false, false, false, false, false, false, false, false, false, false] rfl rfl (any_of HT_.out (by kernel_rfl)) (fun _ _ _ h => h) (Or.inr ⟨by rfl, rfl⟩) ?_ ?_
                       rotate_left
                       ·simp only [Act.put, List.setIfInBounds_toArray, List.set_cons_zero, List.set_cons_succ, i64_w, i32_w]
                        rfl
                       refine pure_ (i := 6) (N := some 117) (v := undef) (a' := ?_) #[true, true, true, true, true, true, true, false, false, false, false, false, false, false, false, false, false, false, false] rfl rfl (any_of HT_.out (by kernel_rfl)) (fun _ _ _ h => h) (Or.inr ⟨by rfl, rfl⟩) ?_ ?_
                       rotate_left
                       ·simp only [Act.put, List.setIfInBounds_toArray, List.set_cons_zero, List.set_cons_succ, i64_w, i32_w]
                        rfl
                       refine pure_ (i := 7) (N := some 118) (v := undef) (a' := ?_) #[true, true, true, true, true, true, true, true, false, false, false, false, false, false, false, false, false, false, false] rfl rfl (any_of HT_.out (by kernel_rfl)) (fun _ _ _ h => h) (Or.inr ⟨by rfl, rfl⟩) ?_ ?_
                       rotate_left
                       ·simp only [Act.put, List.setIfInBounds_toArray, List.set_cons_zero, List.set_cons_succ, i64_w, i32_w]
                        rfl
                       refine pure_ (i := 8) (N := some 119) (v := undef) (a' := ?_) #[true, true, true, true, true, true, true, true, true, false, false, false, false, false, false, false, false, false, false] rfl rfl (any_of HT_.out (by kernel_rfl)) (fun _ _ _ h => h) (Or.inr ⟨by rfl, rfl⟩) ?_ ?_
                       rotate_left
                       ·simp only [Act.put, List.setIfInBounds_toArray, List.set_cons_zero, List.set_cons_succ, i64_w, i32_w]
                        rfl
                       refine pure_ (i := 9) (N := some 120) (v := undef) (a' := ?_) #[true, true, true, true, true, true, true, true, true, true, false, false, false, false, false, false, false, false, false] rfl rfl (any_of HT_.out (by kernel_rfl)) (fun _ _ _ h => h) (Or.inr ⟨by rfl, rfl⟩) ?_ ?_
                       rotate_left
                       ·simp only [Act.put, List.setIfInBounds_toArray, List.set_cons_zero, List.set_cons_succ, i64_w, i32_w]
                        rfl
                       refine pure_ (i := 10) (N := some 121) (v := undef) (a' := ?_) #[true, true, true, true, true, true, true, true, true, true, true, false, false, false, false, false, false, false, false] rfl rfl (any_of HT_.out (by kernel_rfl)) (fun _ _ _ h => h) (Or.inr ⟨by rfl, rfl⟩) ?_ ?_
                       rotate_left
                       ·simp only [Act.put, List.setIfInBounds_toArray, List.set_cons_zero, List.set_cons_succ, i64_w, i32_w]
                        rfl
                       refine pure_ (i := 11) (N := some 122) (v := undef) (a' := ?_) #[true, true, true, true, true, true, true, true, true, true, true, true, false, false, false, false, false, false, false] rfl rfl (any_of HT_.out (by kernel_rfl)) (fun _ _ _ h => h) (Or.inr ⟨by rfl, rfl⟩) ?_ ?_
                       rotate_left
                       ·simp only [Act.put, List.setIfInBounds_toArray, List.set_cons_zero, List.set_cons_succ, i64_w, i32_w]
                        rfl
                       refine pure_ (i := 12) (N := some 123) (v := undef) (a' := ?_) #[true, true, true, true, true, true, true, true, true, true, true, true, true, false, false, false, false, false, false] rfl rfl (any_of HT_.out (by kernel_rfl)) (fun _ _ _ h => h) (Or.inr ⟨by rfl, rfl⟩) ?_ ?_
                       rotate_left
                       ·simp only [Act.put, List.setIfInBounds_toArray, List.set_cons_zero, List.set_cons_succ, i64_w, i32_w]
                        rfl
                       refine pure_ (i := 13) (N := some 124) (v := undef) (a' := ?_) #[true, true, true, true, true, true, true, true, true, true, true, true, true, true, false, false, false, false, false] rfl rfl (any_of HT_.out (by kernel_rfl)) (fun _ _ _ h => h) (Or.inr ⟨by rfl, rfl⟩) ?_ ?_
                       rotate_left
                       ·simp only [Act.put, List.setIfInBounds_toArray, List.set_cons_zero, List.set_cons_succ, i64_w, i32_w]
                        rfl
                       refine pure_ (i := 14) (N := some 125) (v := undef) (a' := ?_) #[true, true, true, true, true, true, true, true, true, true, true, true, true, true, true, false, false, false, false] rfl rfl (any_of HT_.out (by kernel_rfl)) (fun _ _ _ h => h) (Or.inr ⟨by rfl, rfl⟩) ?_ ?_
                       rotate_left
                       ·simp only [Act.put, List.setIfInBounds_toArray, List.set_cons_zero, List.set_cons_succ, i64_w, i32_w]
                        rfl
                       refine pure_ (i := 15) (N := some 126) (v := undef) (a' := ?_) #[true, true, true, true, true, true, true, true, true, true, true, true, true, true, true, true, false, false, false] rfl rfl (any_of HT_.out (by kernel_rfl)) (fun _ _ _ h => h) (Or.inr ⟨by rfl, rfl⟩) ?_ ?_
                       rotate_left
                       ·simp only [Act.put, List.setIfInBounds_toArray, List.set_cons_zero, List.set_cons_succ, i64_w, i32_w]
                        rfl
                       refine pure_ (i := 16) (N := some 127) (v := undef) (a' := ?_) #[true, true, true, true, true, true, true, true, true, true, true, true, true, true, true, true, true, false, false] rfl rfl (any_of HT_.out (by kernel_rfl)) (fun _ _ _ h => h) (Or.inr ⟨by rfl, rfl⟩) ?_ ?_
                       rotate_left
                       ·simp only [Act.put, List.setIfInBounds_toArray, List.set_cons_zero, List.set_cons_succ, i64_w, i32_w]
                        rfl
                       refine pure_ (i := 17) (N := some 128) (v := undef) (a' := ?_) #[true, true, true, true, true, true, true, true, true, true, true, true, true, true, true, true, true, true, false] rfl rfl (any_of HT_.out (by kernel_rfl)) (fun _ _ _ h => h) (Or.inr ⟨by rfl, rfl⟩) ?_ ?_
                       rotate_left
                       ·simp only [Act.put, List.setIfInBounds_toArray, List.set_cons_zero, List.set_cons_succ, i64_w, i32_w]
                        rfl
                       refine pure_ (i := 18) (N := some 129) (v := ?_) (a' := ?_) #[true, true, true, true, true, true, true, true, true, true, true, true, true, true, true, true, true, true, true] rfl rfl (any_of HT_.out (by kernel_rfl)) (fun _ _ _ h => h) (Or.inl ⟨by rfl, ?_⟩) ?_ ?_
                       rotate_left; (· (intro w'; go_simp; with_reducible rfl)); rotate_left; (· (simp only [Act.put, List.setIfInBounds_toArray, List.set_cons_zero, List.set_cons_succ, i64_w, i32_w]; rfl))
                       refine done_ (done_of HT_.out (by kernel_rfl)) ?_
                       have q99 : (x23_5 : Int) ≤ ((x12_2.length : Int) : Int) := of_decide_eq_true (by first | (with_reducible assumption) | assumption)
                       obtain ⟨i099, hi099, _, hsz99, _⟩ := info_parts info109
                       have hroom99 : x12_2.length ≤ co65 := (Kd.R_reads' HO_12.out).2.1
                       have hC99 : Kd.C k109 _ Ao65 x12_2.length x12_2 := (Kd.R_reads' HO_12.out).2.2
                       have hcut99 := cut_to (P := Try.prog) 52 109 .i64 Try.underlying52 hi099 Ao65 x12_2.length co65 x23_5 (of_decide_eq_true (by first | (with_reducible assumption) | assumption)) q99 hroom99
                       have hr99 := Kd.C_take (m := (x23_5 : Int).toNat) hC99 (by omega)
                       have hy99 : y177.length = (x23_5 : Int).toNat := (by rw [Ny177.out, List.length_take]; omega)
                       rw [← Ny177.out] at hr99
                       rw [← hy99] at hcut99
                       have HR180 := Aside0.mk hr99
                       have HC180 := Aside0.mk (show y177.length ≤ co65 from by omega)
                       clear hr99 hC99 hroom99 hi099 hsz99
                       have KY99 := Aside0.mk hy99
                       clear hy99
                       have KL99 := Aside0.mk (show (x23_5 : Int).toNat ≤ x12_2.length from by omega)
                       replace q99 := eq_true q99
                       try go_wp2_with (first | ((with_reducible refine gate_builtin (b := .append) (xs := #[.tmp 132, .tmp 135]) rfl ?_); at_builtin; refine Kd.R_append_rows k109 (w0 := w) w.heap.size rfl (.tmp 132) (.tmp 135) 52 109 (.agg #[(.int .i64 0), (.int .i64 0), (.int .i64 0)]) 24 rfl Try.underlying52 info109 rfl (by decide) (by omega) (.slice none 0 0) ([] : List (S109)) y177 _ _ _ (fun k_ => some k_ ≠ (.slice Ao65 x12_2.length co65 : Value).ownBlock) (fun _ => False) rfl rfl ?aO ?aR (fun _ _ h => h) (fun _ h => h.elim) ?aF ?aB ?aS ?aL ?_; (case aR => repeat (first | exact (by repeat (first | (with_reducible exact HR180.out) | (with_reducible refine Kd.C_alloc ?_ _) | (with_reducible refine Kd.C_drewN ?_ _) | (with_reducible refine Kd.C_drew ?_) | exact HR180.out)) | (with_reducible refine Kd.C_alloc ?_ _) | (with_reducible refine Kd.C_drewN ?_ _) | (with_reducible refine Kd.C_drew ?_))); (case aB => exact (by repeat (first | (with_reducible first | exact HB.out | apply below_alloc | apply pw_below_drewN | apply below_drew1 | refine below_set ?_ GE137.out | refine below_set ?_ GE148.out | refine below_set ?_ GE149.out) | exact HB.out))); (case aF => exact (fun k_ hk => Kd.fresh' (Kd.R_lt (by (with_reducible repeat (first | apply Kd.R_alloc | apply Kd.R_drewN | apply Kd.R_drew)); exact HO_12.out)) k_ hk)); (case aO => exact ((Kd.R_nil _ _ _ _ (fun k_ => some k_ ≠ (.slice Ao65 x12_2.length co65 : Value).ownBlock)))); (case aS => exact (below_size (by repeat (first | (with_reducible first | exact HB.out | apply below_alloc | apply pw_below_drewN | apply below_drew1 | refine below_set ?_ GE137.out | refine below_set ?_ GE148.out | refine below_set ?_ GE149.out) | exact HB.out)))); (case aL => have := LMc93.out; omega); intro v182 w100 ho hb hg hat; rw [← Ny181.out] at ho; have n0_ := Aside0.mk (Kd.R_after (Kd.R_apart_nil (by (with_reducible repeat (first | apply Kd.R_alloc | apply Kd.R_drewN | apply Kd.R_drew)); exact HO_12.out)) hg hat); have n1_ := Aside0.mk (blk_grown (g := gb137) (o := .cells #[.int .i64 ((rd_T100 l0 x58_2).f0), .int .i64 ((rd_T100 l0 x58_2).f1), .int .i64 ((rd_T100 l0 x58_2).f2), .int .i64 ((rd_T100 l0 x58_2).f3), .int .i64 ((rd_T100 l0 x58_2).f4)] 100 (0, 0)) (by (with_reducible repeat (first | refine blk_drewN ?_ _ | refine blk_drew ?_ | refine blk_alloc ?_ _)); exact BK137.out) hg (by simp [Value.ownBlock])); have n2_ := Aside0.mk (blk_grown (g := gb148) (o := .cells #[.int .i64 x149000_31, .int .i64 x149001_31] 104 (0, 0)) (by (with_reducible repeat (first | refine blk_drewN ?_ _ | refine blk_drew ?_ | refine blk_alloc ?_ _)); exact BK148.out) hg (by simp [Value.ownBlock])); have n3_ := Aside0.mk (blk_grown (g := gb149) (o := .cells #[.int .i64 x150000_31, .int .i64 x150001_31] 104 (0, 0)) (by (with_reducible repeat (first | refine blk_drewN ?_ _ | refine blk_drew ?_ | refine blk_alloc ?_ _)); exact BK149.out) hg (by simp [Value.ownBlock])); have n4_ := Aside0.mk (hb); have n5_ := Aside0.mk ((show Kd.C k109 w100 Ao65 y177.length y177 from by rw [Ny177.out]; exact Kd.C_take (m := (x23_5 : Int).toNat) ((Kd.R_reads' (Kd.R_after (Kd.R_apart_nil (by (with_reducible repeat (first | apply Kd.R_alloc | apply Kd.R_drewN | apply Kd.R_drew)); exact HO_12.out)) hg hat)).2.2) KL99.out)); have n6_ := Aside0.mk (ho); clear HO_12; clear BK137; clear BK148; clear BK149; clear HB; clear HR180; have HO_12 := n0_; have BK137 := n1_; have BK148 := n2_; have BK149 := n3_; have HB := n4_; have HR180 := n5_; have HO183 := n6_; clear n0_ n1_ n2_ n3_ n4_ n5_ n6_; clear ho hb hg hat; have hnb101 := NB148_137.out; have hnc101 := NB137_148.out; have hnb102 := NB148_149.out; have hnc102 := NB149_148.out; have hcz103_0 : w100.cell? ⟨gb148, 0, none⟩ = some (.int .i64 x149000_31) := (blk_cell BK148.out 0).trans rfl; have hcz103_1 : w100.cell? ⟨gb148, 1, none⟩ = some (.int .i64 x149001_31) := (blk_cell BK148.out 1).trans rfl; have hfz103_0 := blk_frozen BK148.out 0; have hfz103_1 := blk_frozen BK148.out 1) | ((with_reducible refine gate_builtin (b := .append) (xs := #[.tmp 137, .tmp 144]) rfl ?_); at_builtin; refine Kd.R_append k109 (w0 := w) w.heap.size rfl (.tmp 137) (.tmp 144) 52 109 (.agg #[(.int .i64 0), (.int .i64 0), (.int .i64 0)]) 24 rfl Try.underlying52 info109 rfl (by decide) (by omega) v182 y181 (⟨x58_2, x149000_31, x149001_31⟩ : S109) [.int .i64 x58_2, .int .i64 x149000_31, .int .i64 x149001_31] (fun k_ => some k_ ≠ (.slice Ao65 x12_2.length co65 : Value).ownBlock) (fun _ => False) rfl rfl ?aP (fun _ hk => hk.elim) ?aF ?aO ?aB ?aS ?aL ?_; (case aP => exact k109_mkM _ _ _ (⟨x58_2, x149000_31, x149001_31⟩ : S109)); (case aB => exact (by repeat (first | (with_reducible first | exact HB.out | apply below_alloc | apply pw_below_drewN | apply below_drew1 | refine below_set ?_ GE137.out | refine below_set ?_ GE148.out | refine below_set ?_ GE149.out) | exact HB.out))); (case aF => exact (fun k_ hk => Kd.fresh' (Kd.R_lt (by (with_reducible repeat (first | apply Kd.R_alloc | apply Kd.R_drewN | apply Kd.R_drew)); exact HO_12.out)) k_ hk)); (case aO => exact (by (with_reducible repeat (first | apply Kd.R_alloc | apply Kd.R_drewN | apply Kd.R_drew)); exact HO183.out)); (case aS => exact (below_size (by repeat (first | (with_reducible first | exact HB.out | apply below_alloc | apply pw_below_drewN | apply below_drew1 | refine below_set ?_ GE137.out | refine below_set ?_ GE148.out | refine below_set ?_ GE149.out) | exact HB.out)))); (case aL => have := LMc94.out; omega); intro v185 w104 ho hb hg hat; rw [← Ny184.out] at ho; have n0_ := Aside0.mk (Kd.R_after (ok := (fun _ => True)) (by (with_reducible repeat (first | apply Kd.R_alloc | apply Kd.R_drewN | apply Kd.R_drew)); exact HO_12.out) hg hat); have n1_ := Aside0.mk (blk_grown (g := gb137) (o := .cells #[.int .i64 ((rd_T100 l0 x58_2).f0), .int .i64 ((rd_T100 l0 x58_2).f1), .int .i64 ((rd_T100 l0 x58_2).f2), .int .i64 ((rd_T100 l0 x58_2).f3), .int .i64 ((rd_T100 l0 x58_2).f4)] 100 (0, 0)) (by (with_reducible repeat (first | refine blk_drewN ?_ _ | refine blk_drew ?_ | refine blk_alloc ?_ _)); exact BK137.out) hg (Kd.R_ne HO183.out BK137.out (by decide))); have n2_ := Aside0.mk (blk_grown (g := gb148) (o := .cells #[.int .i64 x149000_31, .int .i64 x149001_31] 104 (0, 0)) (by (with_reducible repeat (first | refine blk_drewN ?_ _ | refine blk_drew ?_ | refine blk_alloc ?_ _)); exact BK148.out) hg (Kd.R_ne HO183.out BK148.out (by decide))); have n3_ := Aside0.mk (blk_grown (g := gb149) (o := .cells #[.int .i64 x150000_31, .int .i64 x150001_31] 104 (0, 0)) (by (with_reducible repeat (first | refine blk_drewN ?_ _ | refine blk_drew ?_ | refine blk_alloc ?_ _)); exact BK149.out) hg (Kd.R_ne HO183.out BK149.out (by decide))); have n4_ := Aside0.mk (hb); have n5_ := Aside0.mk ((show Kd.C k109 w104 Ao65 y177.length y177 from by rw [Ny177.out]; exact Kd.C_take (m := (x23_5 : Int).toNat) ((Kd.R_reads' (Kd.R_after (ok := (fun _ => True)) (by (with_reducible repeat (first | apply Kd.R_alloc | apply Kd.R_drewN | apply Kd.R_drew)); exact HO_12.out) hg hat)).2.2) KL99.out)); have n6_ := Aside0.mk (ho); clear HO_12; clear BK137; clear BK148; clear BK149; clear HB; clear HR180; clear HO183; have HO_12 := n0_; have BK137 := n1_; have BK148 := n2_; have BK149 := n3_; have HB := n4_; have HR180 := n5_; have HO186 := n6_; clear n0_ n1_ n2_ n3_ n4_ n5_ n6_; clear ho hb hg hat; have q105 : (x23_5 : Int) ≤ ((x12_2.length : Int) : Int) := of_decide_eq_true (by first | (with_reducible assumption) | assumption); obtain ⟨i0105, hi0105, _, hsz105, _⟩ := info_parts info109; have hroom105 : x12_2.length ≤ co65 := (Kd.R_reads' HO_12.out).2.1; have hC105 : Kd.C k109 _ Ao65 x12_2.length x12_2 := (Kd.R_reads' HO_12.out).2.2; have q0105 : (0 : Int) ≤ (x23_5 : Int) := of_decide_eq_true (by first | (with_reducible assumption) | assumption); have hcut105 := cut_from (P := Try.prog) 52 109 .i64 Try.underlying52 hi0105 3 hsz105 Ao65 x12_2.length co65 x23_5 q0105 q105; have hr105 := Kd.C_drop (m := (x23_5 : Int).toNat) (c := co65) hC105 (by omega) hroom105; obtain ⟨A105, hA105⟩ : ∃ A1, A1 = (if co65 = (x23_5 : Int).toNat then Ao65 else (Ao65 : Option Addr).map (·.add ((x23_5 : Int).toNat * 3))) := ⟨_, rfl⟩; obtain ⟨c105, hc105⟩ : ∃ c1, c1 = co65 - (x23_5 : Int).toNat := ⟨_, rfl⟩; have hy105 : y187.length = x12_2.length - (x23_5 : Int).toNat := (by rw [Ny187.out, List.length_drop] <;> omega); rw [show (x12_2).drop (x23_5 : Int).toNat = y187 from Ny187.out.symm] at hr105; replace hr105 : Kd.C k109 _ A105 y187.length y187 := (by rw [hA105]; exact hr105); rw [← hy105, ← hA105, ← hc105] at hcut105; have HR190 := Aside0.mk hr105; have HC190 := Aside0.mk (show y187.length ≤ c105 from by rw [hy105, hc105]; exact Nat.sub_le_sub_right hroom105 _); clear hr105 hC105 hroom105 hi0105 hsz105 hc105; have KY105 := Aside0.mk hy105; have KA105 := Aside0.mk hA105; clear hy105 hA105; have KL105 := Aside0.mk (show (x23_5 : Int).toNat ≤ x12_2.length from by omega); replace q105 := eq_true q105) | ((with_reducible refine gate_builtin (b := .append) (xs := #[.tmp 146, .tmp 149]) rfl ?_); at_builtin; refine Kd.R_append_rows k109 (w0 := w) w.heap.size rfl (.tmp 146) (.tmp 149) 52 109 (.agg #[(.int .i64 0), (.int .i64 0), (.int .i64 0)]) 24 rfl Try.underlying52 info109 rfl (by decide) (by omega) v185 y184 y187 _ _ _ (fun k_ => some k_ ≠ (.slice Ao65 x12_2.length co65 : Value).ownBlock) (fun _ => False) rfl rfl ?aO ?aR (fun _ _ h => h) (fun _ h => h.elim) ?aF ?aB ?aS ?aL ?_; (case aR => repeat (first | exact (by repeat (first | (with_reducible exact HR190.out) | (with_reducible refine Kd.C_alloc ?_ _) | (with_reducible refine Kd.C_drewN ?_ _) | (with_reducible refine Kd.C_drew ?_) | exact HR190.out)) | (with_reducible refine Kd.C_alloc ?_ _) | (with_reducible refine Kd.C_drewN ?_ _) | (with_reducible refine Kd.C_drew ?_))); (case aB => exact (by repeat (first | (with_reducible first | exact HB.out | apply below_alloc | apply pw_below_drewN | apply below_drew1 | refine below_set ?_ GE137.out | refine below_set ?_ GE148.out | refine below_set ?_ GE149.out) | exact HB.out))); (case aF => exact (fun k_ hk => Kd.fresh' (Kd.R_lt (by (with_reducible repeat (first | apply Kd.R_alloc | apply Kd.R_drewN | apply Kd.R_drew)); exact HO_12.out)) k_ hk)); (case aO => exact (by (with_reducible repeat (first | apply Kd.R_alloc | apply Kd.R_drewN | apply Kd.R_drew)); exact HO186.out)); (case aS => exact (below_size (by repeat (first | (with_reducible first | exact HB.out | apply below_alloc | apply pw_below_drewN | apply below_drew1 | refine below_set ?_ GE137.out | refine below_set ?_ GE148.out | refine below_set ?_ GE149.out) | exact HB.out)))); (case aL => have := LMc97.out; omega); intro v192 w106 ho hb hg hat; rw [← Ny191.out] at ho; have n0_ := Aside0.mk (Kd.R_after (ok := (fun _ => True)) (by (with_reducible repeat (first | apply Kd.R_alloc | apply Kd.R_drewN | apply Kd.R_drew)); exact HO_12.out) hg hat); have n1_ := Aside0.mk (blk_grown (g := gb137) (o := .cells #[.int .i64 ((rd_T100 l0 x58_2).f0), .int .i64 ((rd_T100 l0 x58_2).f1), .int .i64 ((rd_T100 l0 x58_2).f2), .int .i64 ((rd_T100 l0 x58_2).f3), .int .i64 ((rd_T100 l0 x58_2).f4)] 100 (0, 0)) (by (with_reducible repeat (first | refine blk_drewN ?_ _ | refine blk_drew ?_ | refine blk_alloc ?_ _)); exact BK137.out) hg (Kd.R_ne HO186.out BK137.out (by decide))); have n2_ := Aside0.mk (blk_grown (g := gb148) (o := .cells #[.int .i64 x149000_31, .int .i64 x149001_31] 104 (0, 0)) (by (with_reducible repeat (first | refine blk_drewN ?_ _ | refine blk_drew ?_ | refine blk_alloc ?_ _)); exact BK148.out) hg (Kd.R_ne HO186.out BK148.out (by decide))); have n3_ := Aside0.mk (blk_grown (g := gb149) (o := .cells #[.int .i64 x150000_31, .int .i64 x150001_31] 104 (0, 0)) (by (with_reducible repeat (first | refine blk_drewN ?_ _ | refine blk_drew ?_ | refine blk_alloc ?_ _)); exact BK149.out) hg (Kd.R_ne HO186.out BK149.out (by decide))); have n4_ := Aside0.mk (hb); have n5_ := Aside0.mk ((show Kd.C k109 w106 Ao65 y177.length y177 from by rw [Ny177.out]; exact Kd.C_take (m := (x23_5 : Int).toNat) ((Kd.R_reads' (Kd.R_after (ok := (fun _ => True)) (by (with_reducible repeat (first | apply Kd.R_alloc | apply Kd.R_drewN | apply Kd.R_drew)); exact HO_12.out) hg hat)).2.2) KL99.out)); have n6_ := Aside0.mk ((show Kd.C k109 w106 A105 y187.length y187 from by rw [Ny187.out, KA105.out]; exact Kd.C_drop (m := (x23_5 : Int).toNat) (c := co65) ((Kd.R_reads' (Kd.R_after (ok := (fun _ => True)) (by (with_reducible repeat (first | apply Kd.R_alloc | apply Kd.R_drewN | apply Kd.R_drew)); exact HO_12.out) hg hat)).2.2) KL105.out ((Kd.R_reads' (Kd.R_after (ok := (fun _ => True)) (by (with_reducible repeat (first | apply Kd.R_alloc | apply Kd.R_drewN | apply Kd.R_drew)); exact HO_12.out) hg hat)).2.1))); have n7_ := Aside0.mk (ho); clear HO_12; clear BK137; clear BK148; clear BK149; clear HB; clear HR180; clear HR190; clear HO186; have HO_12 := n0_; have BK137 := n1_; have BK148 := n2_; have BK149 := n3_; have HB := n4_; have HR180 := n5_; have HR190 := n6_; have HO193 := n7_; clear n0_ n1_ n2_ n3_ n4_ n5_ n6_ n7_; clear ho hb hg hat))
                       go_roundg k5
                       case measure => have := HJ5.out; have := HK2.out; have := HJ31.out; have := HJ53.out; have := HK5.out; omega
                       case rel => exact ⟨(y191), (wrap64 (x58_2 + 1)), (by first | rfl | (simp; done) | (simp [*]; done)), H', ⟨by have := HJ5.out; have := HK2.out; have := HJ31.out; have := HJ53.out; have := HK5.out; omega⟩, ⟨by (with_reducible repeat (first | apply Kd.R_alloc | apply Kd.R_drewN | apply Kd.R_drew)); exact Kd.R_mono HO193.out (fun _ hk => trivial)⟩, ⟨by repeat (first | (with_reducible first | exact HB.out | apply below_alloc | apply pw_below_drewN | apply below_drew1 | refine below_set ?_ GE137.out | refine below_set ?_ GE148.out | refine below_set ?_ GE149.out) | exact HB.out)⟩⟩
                      ·rw [if_neg c97] at H
                       exact absurd H (by simp)
                     ·rw [if_neg c94] at H
                      exact absurd H (by simp)
                    ·rw [if_neg c93] at H
                     exact absurd H (by simp)
                   ·rw [if_neg c92] at H
                    exact absurd H (by simp)
                  ·rw [if_neg c91] at H
                   exact absurd H (by simp)
         ·rw [if_neg c29] at H
          have c29b0 : (((rd_T100 l0 x58_2).f0) == 1) = false := beq_eq_false_iff_ne.mpr c29
          have c29b1 : (((rd_T100 l0 x58_2).f0) != 1) = true := bne_iff_ne.mpr c29
          have H' := Aside0.mk H
          clear H
          have p136 : 0 ≤ (x58_2 : Int) := of_decide_eq_true (by first | (with_reducible assumption) | assumption)
          have q136 : x58_2 < (l0.length : Int) := of_decide_eq_true (by first | (with_reducible assumption) | assumption)
          obtain ⟨ad136, e136, hx136_0, hx136_1, hx136_2, hx136_3, hx136_4⟩ := at_T100 HR0.out x58_2 p136 q136
          cases e136
          replace hx136_0 := (HB.out.cell (World.block_lt_of_cell? w _ hx136_0)).trans hx136_0
          replace hx136_1 := (HB.out.cell (World.block_lt_of_cell? w _ hx136_1)).trans hx136_1
          replace hx136_2 := (HB.out.cell (World.block_lt_of_cell? w _ hx136_2)).trans hx136_2
          replace hx136_3 := (HB.out.cell (World.block_lt_of_cell? w _ hx136_3)).trans hx136_3
          replace hx136_4 := (HB.out.cell (World.block_lt_of_cell? w _ hx136_4)).trans hx136_4
          replace p136 := eq_true p136
          replace q136 := eq_true q136
          go_wp2_with (first | ((with_reducible refine gate_dst (N := 14) rfl ?_); refine box_event ?hg (N := 14) ?hd (cs := #[.int .i64 0, .int .i64 0, .int .i64 0, .int .i64 0, .int .i64 0]) (t := 100) ?hr ?_; (case hd => rfl); (case hg => rfl); (case hr => first | (go_simp; done) | (go_simp; rfl)); intro gb137 hg w107 hbox hb; have n0_ := Aside0.mk (Kd.R_below (by (with_reducible repeat (first | apply Kd.R_alloc | apply Kd.R_drewN | apply Kd.R_drew)); exact HO_12.out) hb); have n1_ := Aside0.mk (below_step (by repeat (first | (with_reducible first | exact HB.out | apply below_alloc | apply pw_below_drewN | apply below_drew1) | exact HB.out)) hb); have n2_ := Aside0.mk (hbox); have n3_ := Aside0.mk ((by rw [hg]; exact (below_size (by repeat (first | (with_reducible first | exact HB.out | apply below_alloc | apply pw_below_drewN | apply below_drew1) | exact HB.out))) : w.heap.size ≤ gb137)); have n4_ := Aside0.mk ((by rw [hg]; exact (below_size (by repeat (first | (with_reducible first | exact HB.out | apply below_alloc | apply pw_below_drewN | apply below_drew1) | exact HB.out))) : w.heap.size ≤ gb137)); clear HO_12; clear HB; have HO_12 := n0_; have HB := n1_; have BK137 := n2_; have GW137 := n3_; have GE137 := n4_; clear n0_ n1_ n2_ n3_ n4_; clear hb hbox hg; have hcz108_0 : w107.cell? ⟨gb137, 0, none⟩ = some (.int .i64 0) := (blk_cell BK137.out 0).trans rfl; have hcz108_1 : w107.cell? ⟨gb137, 1, none⟩ = some (.int .i64 0) := (blk_cell BK137.out 1).trans rfl; have hcz108_2 : w107.cell? ⟨gb137, 2, none⟩ = some (.int .i64 0) := (blk_cell BK137.out 2).trans rfl; have hcz108_3 : w107.cell? ⟨gb137, 3, none⟩ = some (.int .i64 0) := (blk_cell BK137.out 3).trans rfl; have hcz108_4 : w107.cell? ⟨gb137, 4, none⟩ = some (.int .i64 0) := (blk_cell BK137.out 4).trans rfl; have hfz108_0 := blk_frozen BK137.out 0; have hfz108_1 := blk_frozen BK137.out 1; have hfz108_2 := blk_frozen BK137.out 2; have hfz108_3 := blk_frozen BK137.out 3; have hfz108_4 := blk_frozen BK137.out 4))
          go_roundg k2
          case measure => have := HJ5.out; have := HK2.out; omega
          case rel => exact ⟨(x12_2), (wrap64 (x58_2 + 1)), (by first | rfl | (simp; done) | (simp [*]; done)), H', ⟨by have := HJ5.out; have := HK2.out; omega⟩, ⟨by (with_reducible repeat (first | apply Kd.R_alloc | apply Kd.R_drewN | apply Kd.R_drew)); exact Kd.R_mono (Kd.R_far (p := ⟨gb137, 4, none⟩) (Kd.R_far (p := ⟨gb137, 3, none⟩) (Kd.R_far (p := ⟨gb137, 2, none⟩) (Kd.R_far (p := ⟨gb137, 1, none⟩) (Kd.R_far (p := ⟨gb137, 0, none⟩) (Kd.R_types HO_12.out BK137.out (by decide)) (fun _ hk => hk.2) (.int .i64 ((rd_T100 l0 x58_2).f0))) (fun _ hk => hk.2) (.int .i64 ((rd_T100 l0 x58_2).f1))) (fun _ hk => hk.2) (.int .i64 ((rd_T100 l0 x58_2).f2))) (fun _ hk => hk.2) (.int .i64 ((rd_T100 l0 x58_2).f3))) (fun _ hk => hk.2) (.int .i64 ((rd_T100 l0 x58_2).f4))) (fun _ hk => trivial)⟩, ⟨by repeat (first | (with_reducible first | exact HB.out | apply below_alloc | apply pw_below_drewN | apply below_drew1 | refine below_set ?_ GE137.out) | exact HB.out)⟩⟩
        ·rw [if_neg c28] at H
         exact absurd H (by simp)
       ·rw [if_neg c27] at H
        exact absurd H (by simp)
      ·rw [if_neg c26] at H
       have c26b0 : decide (x58_2 < (l0.length : Int)) = false := decide_eq_false c26
       clear c26
       simp only [Option.some.injEq, Prod.mk.injEq] at H
       obtain ⟨rfl, rfl⟩ := H
       go_wp2
       go_ret2
       exact ⟨_, by first | rfl | (simp [errW_none, errW_some] <;> rfl) | (simp [*, errW_none, errW_some] <;> rfl), by (with_reducible repeat (first | apply Kd.R_alloc | apply Kd.R_drewN | apply Kd.R_drew)); exact HO_12.out, by repeat (first | (with_reducible first | exact HB.out | apply below_alloc | apply pw_below_drewN | apply below_drew1) | exact HB.out)⟩

end Go.Proofs.Ytiaajmnmbjheoaa.PFnExactRayMeets
