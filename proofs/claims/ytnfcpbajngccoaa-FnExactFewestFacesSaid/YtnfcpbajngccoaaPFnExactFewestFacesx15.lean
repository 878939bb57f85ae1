/- The machine's side of a law, function by function: a Lean function with the Go function's answers and the proof that the Go code comes to them. No condition. Written by this session's program over the kit's print, this session's own contracts set in. -/
import Derived.Test.YtnfcpbajngccoaaPFnExactFewestFacesx0
import Derived.Test.YtnfcpbajngccoaaPFnExactFewestFacesx14
namespace Go.Proofs.Ytnfcpbajngccoaa.PFnExactFewestFaces
open Go.RowKit Go.Proofs.YtnfcpbajngccoaaW.PrintWords Go.Proofs.YtnfcpbajngccoaaW.PrintLast Go.Proofs.YtnfcpbajngccoaaW.PrintMore
attribute [local go_sem] max2_int min2_int max_two min_two max_three min_three max_four min_four   -- for this text's walks alone
set_option linter.unusedVariables false
set_option linter.unusedSimpArgs false

/-! ### impl_FewestFaces: function 29 -/
mutual
def impl_FewestFaces.j0 : Nat → Int → Int → Bool → List (S54) → List (List Int) → Option (List Int × Bool)
 | 0, _, _, _, _, _ => none
 | k + 1, x1, x2, x25, x333000, x333001 => if x25 = true then (some (([] : List Int), false)) else ((slices_Repeat_int_int.f (([(-1)] : List Int)) (x333001.length : Int)).bind fun t338 => (if 0 ≤ x2 then (if x2 < (t338.length : Int) then (impl_FewestFaces.l0 k x1 x2 (t338.set (x2 : Int).toNat 0) (([x2] : List Int)) x333000 x333001) else (none)) else (none)))
def impl_FewestFaces.l0 : Nat → Int → Int → List Int → List Int → List (S54) → List (List Int) → Option (List Int × Bool)
 | 0, _, _, _, _, _, _ => none
 | k + 1, x1, x2, x8, x9, x333000, x333001 => if (x9.length : Int) > 0 then (if 0 < (x9.length : Int) then ((impl_Ground_beside.f k x333000 x333001 (rd x9 0)).bind fun t346 => (impl_FewestFaces.l1 k x1 x2 x8 x9 t346 (t346.length : Int) 0 x333000 x333001)) else (none)) else (if 0 ≤ x1 then (if x1 < (x8.length : Int) then (if (rd x8 x1) < 0 then (some (([] : List Int), false)) else (impl_FewestFaces.l2 k x2 x8 (([x1] : List Int)) x1 x333000 x333001)) else (none)) else (none))
def impl_FewestFaces.l1 : Nat → Int → Int → List Int → List Int → List Int → Int → Int → List (S54) → List (List Int) → Option (List Int × Bool)
 | 0, _, _, _, _, _, _, _, _, _ => none
 | k + 1, x1, x2, x8, x9, x45, x46, x47, x333000, x333001 => if x47 < x46 then (if 0 ≤ x47 then (if x47 < (x45.length : Int) then (if 0 ≤ (rd x45 x47) then (if (rd x45 x47) < (x8.length : Int) then (if (rd x8 (rd x45 x47)) < 0 then (if 0 < (x9.length : Int) then (if 0 ≤ (rd x9 0) then (if (rd x9 0) < (x8.length : Int) then (if x9.length < 17592186044416 then (impl_FewestFaces.l1 k x1 x2 (x8.set ((rd x45 x47) : Int).toNat (wrap64 ((rd x8 (rd x9 0)) + 1))) (x9 ++ [rd x45 x47]) x45 x46 (wrap64 (x47 + 1)) x333000 x333001) else (none)) else (none)) else (none)) else (none)) else (impl_FewestFaces.l1 k x1 x2 x8 x9 x45 x46 (wrap64 (x47 + 1)) x333000 x333001)) else (none)) else (none)) else (none)) else (none)) else (if 1 ≤ (x9.length : Int) then (impl_FewestFaces.l0 k x1 x2 x8 (x9.drop (1 : Int).toNat) x333000 x333001) else (none))
def impl_FewestFaces.l2 : Nat → Int → List Int → List Int → Int → List (S54) → List (List Int) → Option (List Int × Bool)
 | 0, _, _, _, _, _, _ => none
 | k + 1, x2, x8, x12, x13, x333000, x333001 => if x13 = x2 then (some (x12, true)) else ((impl_Ground_beside.f k x333000 x333001 x13).bind fun t364 => (impl_FewestFaces.l3 k x2 x8 x12 x13 t364 (t364.length : Int) 0 x333000 x333001))
def impl_FewestFaces.l3 : Nat → Int → List Int → List Int → Int → List Int → Int → Int → List (S54) → List (List Int) → Option (List Int × Bool)
 | 0, _, _, _, _, _, _, _, _, _ => none
 | k + 1, x2, x8, x12, x13, x84, x85, x86, x333000, x333001 => if x86 < x85 then (if 0 ≤ x86 then (if x86 < (x84.length : Int) then (if 0 ≤ (rd x84 x86) then (if (rd x84 x86) < (x8.length : Int) then (if 0 ≤ x13 then (if x13 < (x8.length : Int) then (if (rd x8 (rd x84 x86)) = (wrap64 ((rd x8 x13) - 1)) then (if x12.length < 17592186044416 then (impl_FewestFaces.l2 k x2 x8 (x12 ++ [rd x84 x86]) (rd x84 x86) x333000 x333001) else (none)) else (impl_FewestFaces.l3 k x2 x8 x12 x13 x84 x85 (wrap64 (x86 + 1)) x333000 x333001)) else (none)) else (none)) else (none)) else (none)) else (none)) else (none)) else (if x12.length < 17592186044416 then (impl_FewestFaces.l2 k x2 x8 (x12 ++ [x13]) x13 x333000 x333001) else (none))
end
def impl_FewestFaces.f (k : Nat) (l0_0 : List (S54)) (l0_1 : List (List Int)) (a1 : Int) (a2 : Int) : Option (List Int × Bool) := (impl_isFaceOf.f k l0_0 l0_1 a1).bind fun t333 => (if t333 = true then ((impl_isFaceOf.f k l0_0 l0_1 a2).bind fun t334 => (impl_FewestFaces.j0 k a1 a2 (!t334) l0_0 l0_1)) else (impl_FewestFaces.j0 k a1 a2 true l0_0 l0_1))
theorem impl_FewestFaces.mono_l : ∀ k, (∀ y0 y1 y2 y3 y4, LeO (impl_FewestFaces.j0 k y0 y1 y2 y3 y4) (impl_FewestFaces.j0 (k + 1) y0 y1 y2 y3 y4)) ∧ (∀ y0 y1 y2 y3 y4 y5, LeO (impl_FewestFaces.l0 k y0 y1 y2 y3 y4 y5) (impl_FewestFaces.l0 (k + 1) y0 y1 y2 y3 y4 y5)) ∧ (∀ y0 y1 y2 y3 y4 y5 y6 y7 y8, LeO (impl_FewestFaces.l1 k y0 y1 y2 y3 y4 y5 y6 y7 y8) (impl_FewestFaces.l1 (k + 1) y0 y1 y2 y3 y4 y5 y6 y7 y8)) ∧ (∀ y0 y1 y2 y3 y4 y5, LeO (impl_FewestFaces.l2 k y0 y1 y2 y3 y4 y5) (impl_FewestFaces.l2 (k + 1) y0 y1 y2 y3 y4 y5)) ∧ (∀ y0 y1 y2 y3 y4 y5 y6 y7 y8, LeO (impl_FewestFaces.l3 k y0 y1 y2 y3 y4 y5 y6 y7 y8) (impl_FewestFaces.l3 (k + 1) y0 y1 y2 y3 y4 y5 y6 y7 y8))
 | 0 => ⟨fun _ _ _ _ _ r h => by simp [impl_FewestFaces.j0] at h, fun _ _ _ _ _ _ r h => by simp [impl_FewestFaces.l0] at h, fun _ _ _ _ _ _ _ _ _ r h => by simp [impl_FewestFaces.l1] at h, fun _ _ _ _ _ _ r h => by simp [impl_FewestFaces.l2] at h, fun _ _ _ _ _ _ _ _ _ r h => by simp [impl_FewestFaces.l3] at h⟩
 | k + 1 => by
  obtain ⟨ih0, ih1, ih2, ih3, ih4⟩ := impl_FewestFaces.mono_l k
  refine ⟨?_, ?_, ?_, ?_, ?_⟩
  ·intro y0 y1 y2 y3 y4
   unfold impl_FewestFaces.j0
   repeat' first
   | (with_reducible exact ih0 _ _ _ _ _)
   | (with_reducible exact ih1 _ _ _ _ _ _)
   | (with_reducible exact ih2 _ _ _ _ _ _ _ _ _)
   | (with_reducible exact ih3 _ _ _ _ _ _)
   | (with_reducible exact ih4 _ _ _ _ _ _ _ _ _)
   | (with_reducible exact impl_Ground_beside.mono _ _ _ _)
   | (with_reducible exact impl_isFaceOf.mono _ _ _ _)
   | (with_reducible exact LeO.refl _)
   | (with_reducible exact LeO.none _)
   | (with_reducible refine LeO.ite ?_ ?_)
   | (with_reducible refine LeO.bind ?_ (fun _ => ?_))
   | exact ih0 _ _ _ _ _
   | exact ih1 _ _ _ _ _ _
   | exact ih2 _ _ _ _ _ _ _ _ _
   | exact ih3 _ _ _ _ _ _
   | exact ih4 _ _ _ _ _ _ _ _ _
   | exact impl_Ground_beside.mono _ _ _ _
   | exact impl_isFaceOf.mono _ _ _ _
   | exact LeO.none _
   | refine LeO.ite ?_ ?_
   | refine LeO.bind ?_ (fun _ => ?_)
  ·intro y0 y1 y2 y3 y4 y5
   unfold impl_FewestFaces.l0
   repeat' first
   | (with_reducible exact ih0 _ _ _ _ _)
   | (with_reducible exact ih1 _ _ _ _ _ _)
   | (with_reducible exact ih2 _ _ _ _ _ _ _ _ _)
   | (with_reducible exact ih3 _ _ _ _ _ _)
   | (with_reducible exact ih4 _ _ _ _ _ _ _ _ _)
   | (with_reducible exact impl_Ground_beside.mono _ _ _ _)
   | (with_reducible exact impl_isFaceOf.mono _ _ _ _)
   | (with_reducible exact LeO.refl _)
   | (with_reducible exact LeO.none _)
   | (with_reducible refine LeO.ite ?_ ?_)
   | (with_reducible refine LeO.bind ?_ (fun _ => ?_))
   | exact ih0 _ _ _ _ _
   | exact ih1 _ _ _ _ _ _
   | exact ih2 _ _ _ _ _ _ _ _ _
   | exact ih3 _ _ _ _ _ _
   | exact ih4 _ _ _ _ _ _ _ _ _
   | exact impl_Ground_beside.mono _ _ _ _
   | exact impl_isFaceOf.mono _ _ _ _
   | exact LeO.none _
   | refine LeO.ite ?_ ?_
   | refine LeO.bind ?_ (fun _ => ?_)
  ·intro y0 y1 y2 y3 y4 y5 y6 y7 y8
   unfold impl_FewestFaces.l1
   repeat' first
   | (with_reducible exact ih0 _ _ _ _ _)
   | (with_reducible exact ih1 _ _ _ _ _ _)
   | (with_reducible exact ih2 _ _ _ _ _ _ _ _ _)
   | (with_reducible exact ih3 _ _ _ _ _ _)
   | (with_reducible exact ih4 _ _ _ _ _ _ _ _ _)
   | (with_reducible exact impl_Ground_beside.mono _ _ _ _)
   | (with_reducible exact impl_isFaceOf.mono _ _ _ _)
   | (with_reducible exact LeO.refl _)
   | (with_reducible exact LeO.none _)
   | (with_reducible refine LeO.ite ?_ ?_)
   | (with_reducible refine LeO.bind ?_ (fun _ => ?_))
   | exact ih0 _ _ _ _ _
   | exact ih1 _ _ _ _ _ _
   | exact ih2 _ _ _ _ _ _ _ _ _
   | exact ih3 _ _ _ _ _ _
   | exact ih4 _ _ _ _ _ _ _ _ _
   | exact impl_Ground_beside.mono _ _ _ _
   | exact impl_isFaceOf.mono _ _ _ _
   | exact LeO.none _
   | refine LeO.ite ?_ ?_
   | refine LeO.bind ?_ (fun _ => ?_)
  ·intro y0 y1 y2 y3 y4 y5
   unfold impl_FewestFaces.l2
   repeat' first
   | (with_reducible exact ih0 _ _ _ _ _)
   | (with_reducible exact ih1 _ _ _ _ _ _)
   | (with_reducible exact ih2 _ _ _ _ _ _ _ _ _)
   | (with_reducible exact ih3 _ _ _ _ _ _)
   | (with_reducible exact ih4 _ _ _ _ _ _ _ _ _)
   | (with_reducible exact impl_Ground_beside.mono _ _ _ _)
   | (with_reducible exact impl_isFaceOf.mono _ _ _ _)
   | (with_reducible exact LeO.refl _)
   | (with_reducible exact LeO.none _)
   | (with_reducible refine LeO.ite ?_ ?_)
   | (with_reducible refine LeO.bind ?_ (fun _ => ?_))
   | exact ih0 _ _ _ _ _
   | exact ih1 _ _ _ _ _ _
   | exact ih2 _ _ _ _ _ _ _ _ _
   | exact ih3 _ _ _ _ _ _
   | exact ih4 _ _ _ _ _ _ _ _ _
   | exact impl_Ground_beside.mono _ _ _ _
   | exact impl_isFaceOf.mono _ _ _ _
   | exact LeO.none _
   | refine LeO.ite ?_ ?_
   | refine LeO.bind ?_ (fun _ => ?_)
  ·intro y0 y1 y2 y3 y4 y5 y6 y7 y8
   unfold impl_FewestFaces.l3
   repeat' first
   | (with_reducible exact ih0 _ _ _ _ _)
   | (with_reducible exact ih1 _ _ _ _ _ _)
   | (with_reducible exact ih2 _ _ _ _ _ _ _ _ _)
   | (with_reducible exact ih3 _ _ _ _ _ _)
   | (with_reducible exact ih4 _ _ _ _ _ _ _ _ _)
   | (with_reducible exact impl_Ground_beside.mono _ _ _ _)
   | (with_reducible exact impl_isFaceOf.mono _ _ _ _)
   | (with_reducible exact LeO.refl _)
   | (with_reducible exact LeO.none _)
   | (with_reducible refine LeO.ite ?_ ?_)
   | (with_reducible refine LeO.bind ?_ (fun _ => ?_))
   | exact ih0 _ _ _ _ _
   | exact ih1 _ _ _ _ _ _
   | exact ih2 _ _ _ _ _ _ _ _ _
   | exact ih3 _ _ _ _ _ _
   | exact ih4 _ _ _ _ _ _ _ _ _
   | exact impl_Ground_beside.mono _ _ _ _
   | exact impl_isFaceOf.mono _ _ _ _
   | exact LeO.none _
   | refine LeO.ite ?_ ?_
   | refine LeO.bind ?_ (fun _ => ?_)
theorem impl_FewestFaces.mono : ∀ a0 a1 a2 a3 k, LeO (impl_FewestFaces.f k a0 a1 a2 a3) (impl_FewestFaces.f (k + 1) a0 a1 a2 a3) := by
 intro a0 a1 a2 a3 k
 obtain ⟨ih0, ih1, ih2, ih3, ih4⟩ := impl_FewestFaces.mono_l k
 unfold impl_FewestFaces.f
 repeat' first
   | (with_reducible exact ih0 _ _ _ _ _)
   | (with_reducible exact ih1 _ _ _ _ _ _)
   | (with_reducible exact ih2 _ _ _ _ _ _ _ _ _)
   | (with_reducible exact ih3 _ _ _ _ _ _)
   | (with_reducible exact ih4 _ _ _ _ _ _ _ _ _)
   | (with_reducible exact impl_Ground_beside.mono _ _ _ _)
   | (with_reducible exact impl_isFaceOf.mono _ _ _ _)
   | (with_reducible exact LeO.refl _)
   | (with_reducible exact LeO.none _)
   | (with_reducible refine LeO.ite ?_ ?_)
   | (with_reducible refine LeO.bind ?_ (fun _ => ?_))
   | exact ih0 _ _ _ _ _
   | exact ih1 _ _ _ _ _ _
   | exact ih2 _ _ _ _ _ _ _ _ _
   | exact ih3 _ _ _ _ _ _
   | exact ih4 _ _ _ _ _ _ _ _ _
   | exact impl_Ground_beside.mono _ _ _ _
   | exact impl_isFaceOf.mono _ _ _ _
   | exact LeO.none _
   | refine LeO.ite ?_ ?_
   | refine LeO.bind ?_ (fun _ => ?_)
def impl_FewestFaces.T23 : Bool × List (List Nat × List Nat) := (true, [([], []), ([], []), ([0, 1], [0, 1]), ([2], [2]), ([], []), ([], []), ([4, 5], [4, 5]), ([6], [6]), ([7], [7]), ([3, 8], [3, 8])])
def impl_FewestFaces.B23 : List Nat := [0, 0, 3, 7, 0, 0, 48, 112, 240, 511]
theorem impl_FewestFaces.tab23 : rtab .any (opsOf Try.f29 23) = impl_FewestFaces.T23 := by kernel_rfl
theorem impl_FewestFaces.bits23 : waitsOk impl_FewestFaces.T23.2 impl_FewestFaces.B23 = true := by kernel_rfl
set_option maxHeartbeats 8000000 in
set_option maxRecDepth 100000 in
theorem impl_FewestFaces.calls (k : Nat) (A0_0 : Option Addr) (c0_0 : Nat) (l0_0 : List (S54)) (A0_1 : Option Addr) (c0_1 : Nat) (l0_1 : List (List Int)) (a1 : Int) (a2 : Int) (r1 : List Int) (r2 : Bool) (w : World) (hr0_0 : Kd.C k54 w A0_0 l0_0.length l0_0) (hc0_0 : l0_0.length ≤ c0_0) (hr0_1 : Kd.C (Kd.slice 3 (Kd.int .i64)) w A0_1 l0_1.length l0_1) (hc0_1 : l0_1.length ≤ c0_1) (h : impl_FewestFaces.f k l0_0 l0_1 a1 a2 = some (r1, r2)) :
  Calls Try.prog 29 #[.agg #[.slice A0_0 l0_0.length c0_0, .slice A0_1 l0_1.length c0_1], .int .i64 a1, .int .i64 a2] w fun e w' => ∃ v0_ : Value, e = .returned (.tuple #[v0_, .bool r2]) ∧ Kd.R (Kd.int .i64) 3 w' w.heap.size (fun _ => True) v0_ r1 ∧ Below w.heap.size w w' := by
 have hu30 := Try.underlying30
 have HR0_0 := Aside0.mk hr0_0
 have HC0_0 := Aside0.mk hc0_0
 clear hr0_0 hc0_0
 have HR0_1 := Aside0.mk hr0_1
 have HC0_1 := Aside0.mk hc0_1
 clear hr0_1 hc0_1
 have HB := Aside0.mk (Below.refl w.heap.size w)
 have H : ((impl_isFaceOf.f k l0_0 l0_1 a1).bind fun t333 => (if t333 = true then ((impl_isFaceOf.f k l0_0 l0_1 a2).bind fun t334 => (impl_FewestFaces.j0 k a1 a2 (!t334) l0_0 l0_1)) else (impl_FewestFaces.j0 k a1 a2 true l0_0 l0_1))) = some (r1, r2) := h
 clear h
 have HC4 := Aside0.mk H
 clear H
 go_enter Try.func29, Try.ntmps29
 go_upto_region 1 with (first | ((with_reducible refine gate_dst (N := 3) rfl ?_); refine box_event ?hg (N := 3) ?hd (cs := #[.slice A0_0 l0_0.length c0_0, .slice A0_1 l0_1.length c0_1]) (t := 30) ?hr ?_; (case hd => rfl); (case hg => rfl); (case hr => first | (go_simp; done) | (go_simp; rfl)); intro gb332 hg w5 hbox hb; have n0_ := Aside0.mk (below_step blw hb); have n1_ := Aside0.mk (hbox); have n2_ := Aside0.mk ((by rw [hg]; exact (below_size blw) : w.heap.size ≤ gb332)); have n3_ := Aside0.mk ((by rw [hg]; exact (below_size blw) : w.heap.size ≤ gb332)); clear HB; have HB := n0_; have BK332 := n1_; have GW332 := n2_; have GE332 := n3_; clear n0_ n1_ n2_ n3_; clear hb hbox hg))
 (try simp only [Act.put, List.setIfInBounds_toArray, List.set_cons_zero, List.set_cons_succ])
 go_cut [25] (fun v25 wc => ∃ (kq : Nat) (x25_3 : Bool), v25 = .bool x25_3 ∧ Aside0 (impl_FewestFaces.j0 kq a1 a2 x25_3 l0_0 l0_1 = some (r1, r2)) ∧ Aside0 (kq ≤ k) ∧ Aside0 (wc.heap[gb332]? = some (.cells #[(.slice A0_0 l0_0.length c0_0), (.slice A0_1 l0_1.length c0_1)] 30 (0, 0))) ∧ Aside0 (Below w.heap.size w wc))
 case first =>
  have H := HC4.out
  clear HC4
  replace H := Option.bind_eq_some_iff.mp H
  obtain ⟨t333, A60, H⟩ := H
  replace H : (if t333 = true then ((impl_isFaceOf.f k l0_0 l0_1 a2).bind fun t334 => (impl_FewestFaces.j0 k a1 a2 (!t334) l0_0 l0_1)) else (impl_FewestFaces.j0 k a1 a2 true l0_0 l0_1)) = some (r1, r2) := H
  have A6 := Aside0.mk A60
  clear A60
  by_cases c7 : t333 = true
  ·subst c7
   have H1 : ((impl_isFaceOf.f k l0_0 l0_1 a2).bind fun t334 => (impl_FewestFaces.j0 k a1 a2 (!t334) l0_0 l0_1)) = some (r1, r2) := by rw [if_pos rfl] at H; exact H
   clear H
   have H := H1
   clear H1
   replace H := Option.bind_eq_some_iff.mp H
   obtain ⟨t334, A80, H⟩ := H
   replace H : (impl_FewestFaces.j0 k a1 a2 (!t334) l0_0 l0_1) = some (r1, r2) := H
   have A8 := Aside0.mk A80
   clear A80
   have H' := Aside0.mk H
   clear H
   have hcz9_0 : w5.cell? ⟨gb332, 0, none⟩ = some (.slice A0_0 l0_0.length c0_0) := (blk_cell BK332.out 0).trans rfl
   have hcz9_1 : w5.cell? ⟨gb332, 1, none⟩ = some (.slice A0_1 l0_1.length c0_1) := (blk_cell BK332.out 1).trans rfl
   have hfz9_0 := blk_frozen BK332.out 0
   have hfz9_1 := blk_frozen BK332.out 1
   go_wp2_with (first | ((with_reducible refine gate_callee (f := 54) rfl ?_); refine goesL_ (some 18) rfl rfl Try.func54 (by kernel_rfl) rfl #[.agg #[.slice A0_0 l0_0.length c0_0, .slice A0_1 l0_1.length c0_1], .int .i64 a1] rfl (by (try simp only [List.map_toArray, List.map_cons, List.map_nil]); first | done | rfl | (simp only [List.length_drop, List.length_take]; rfl)) ?_; (with_reducible refine (impl_isFaceOf.calls k _ _ l0_0 _ _ l0_1 a1 true _ ?side1 ?side2 ?side3 ?side4 A6.out).mono ?_); (case side1 => repeat (first | exact (Kd.C_below HR0_0.out HB.out) | (with_reducible refine Kd.C_alloc ?_ _) | (with_reducible refine Kd.C_drewN ?_ _) | (with_reducible refine Kd.C_drew ?_))); (case side2 => exact HC0_0.out); (case side3 => repeat (first | exact (Kd.C_below HR0_1.out HB.out) | (with_reducible refine Kd.C_alloc ?_ _) | (with_reducible refine Kd.C_drewN ?_ _) | (with_reducible refine Kd.C_drew ?_))); (case side4 => exact HC0_1.out); rintro e w10 ⟨rfl, hb⟩; refine ⟨_, rfl, ?_⟩; have n0_ := Aside0.mk (blk_below (g := gb332) (o := .cells #[.slice A0_0 l0_0.length c0_0, .slice A0_1 l0_1.length c0_1] 30 (0, 0)) bkw hb); have n1_ := Aside0.mk (below_step blw hb); clear BK332; clear HB; have BK332 := n0_; have HB := n1_; clear n0_ n1_; (try clear hb); (try clear hb2); (try clear hk); (try clear hi); have hcz11_0 : w10.cell? ⟨gb332, 0, none⟩ = some (.slice A0_0 l0_0.length c0_0) := (blk_cell BK332.out 0).trans rfl; have hcz11_1 : w10.cell? ⟨gb332, 1, none⟩ = some (.slice A0_1 l0_1.length c0_1) := (blk_cell BK332.out 1).trans rfl; have hfz11_0 := blk_frozen BK332.out 0; have hfz11_1 := blk_frozen BK332.out 1) | (go_at_call 54; (with_reducible refine (impl_isFaceOf.calls k _ _ l0_0 _ _ l0_1 a2 t334 _ ?side1 ?side2 ?side3 ?side4 A8.out).mono ?_); (case side1 => repeat (first | exact (Kd.C_below HR0_0.out HB.out) | (with_reducible refine Kd.C_alloc ?_ _) | (with_reducible refine Kd.C_drewN ?_ _) | (with_reducible refine Kd.C_drew ?_))); (case side2 => exact HC0_0.out); (case side3 => repeat (first | exact (Kd.C_below HR0_1.out HB.out) | (with_reducible refine Kd.C_alloc ?_ _) | (with_reducible refine Kd.C_drewN ?_ _) | (with_reducible refine Kd.C_drew ?_))); (case side4 => exact HC0_1.out); rintro e w12 ⟨rfl, hb⟩; have n0_ := Aside0.mk (blk_below (g := gb332) (o := .cells #[.slice A0_0 l0_0.length c0_0, .slice A0_1 l0_1.length c0_1] 30 (0, 0)) bkw hb); have n1_ := Aside0.mk (below_step blw hb); clear BK332; clear HB; have BK332 := n0_; have HB := n1_; clear n0_ n1_; (try clear hb); (try clear hb2); (try clear hk); (try clear hi)))
   go_meet
   case rel => exact ⟨_, (!t334), (by first | rfl | (simp; done) | (simp [*]; done)), H', ⟨by first | omega | exact Nat.le_refl _⟩, ⟨by (with_reducible repeat (first | refine blk_drewN ?_ _ | refine blk_drew ?_ | refine blk_alloc ?_ _)); exact BK332.out⟩, ⟨blw⟩⟩
  ·replace c7 := Bool.eq_false_iff.mpr c7
   subst c7
   have H1 : (impl_FewestFaces.j0 k a1 a2 true l0_0 l0_1) = some (r1, r2) := by rw [if_neg (show ¬ (false = true) by decide)] at H; exact H
   clear H
   have H := H1
   clear H1
   have H' := Aside0.mk H
   clear H
   have hcz13_0 : w5.cell? ⟨gb332, 0, none⟩ = some (.slice A0_0 l0_0.length c0_0) := (blk_cell BK332.out 0).trans rfl
   have hcz13_1 : w5.cell? ⟨gb332, 1, none⟩ = some (.slice A0_1 l0_1.length c0_1) := (blk_cell BK332.out 1).trans rfl
   have hfz13_0 := blk_frozen BK332.out 0
   have hfz13_1 := blk_frozen BK332.out 1
   go_wp2_with (first | ((with_reducible refine gate_callee (f := 54) rfl ?_); refine goesL_ (some 18) rfl rfl Try.func54 (by kernel_rfl) rfl #[.agg #[.slice A0_0 l0_0.length c0_0, .slice A0_1 l0_1.length c0_1], .int .i64 a1] rfl (by (try simp only [List.map_toArray, List.map_cons, List.map_nil]); first | done | rfl | (simp only [List.length_drop, List.length_take]; rfl)) ?_; (with_reducible refine (impl_isFaceOf.calls k _ _ l0_0 _ _ l0_1 a1 false _ ?side1 ?side2 ?side3 ?side4 A6.out).mono ?_); (case side1 => repeat (first | exact (Kd.C_below HR0_0.out HB.out) | (with_reducible refine Kd.C_alloc ?_ _) | (with_reducible refine Kd.C_drewN ?_ _) | (with_reducible refine Kd.C_drew ?_))); (case side2 => exact HC0_0.out); (case side3 => repeat (first | exact (Kd.C_below HR0_1.out HB.out) | (with_reducible refine Kd.C_alloc ?_ _) | (with_reducible refine Kd.C_drewN ?_ _) | (with_reducible refine Kd.C_drew ?_))); (case side4 => exact HC0_1.out); rintro e w14 ⟨rfl, hb⟩; refine ⟨_, rfl, ?_⟩; have n0_ := Aside0.mk (blk_below (g := gb332) (o := .cells #[.slice A0_0 l0_0.length c0_0, .slice A0_1 l0_1.length c0_1] 30 (0, 0)) bkw hb); have n1_ := Aside0.mk (below_step blw hb); clear BK332; clear HB; have BK332 := n0_; have HB := n1_; clear n0_ n1_; (try clear hb); (try clear hb2); (try clear hk); (try clear hi)))
   go_meet
   case rel => exact ⟨_, (true), (by first | rfl | (simp; done) | (simp [*]; done)), H', ⟨by first | omega | exact Nat.le_refl _⟩, ⟨by (with_reducible repeat (first | refine blk_drewN ?_ _ | refine blk_drew ?_ | refine blk_alloc ?_ _)); exact BK332.out⟩, ⟨blw⟩⟩
 case rest =>
  clear HC4
  try clear c2
  try clear p2
  try clear c5
  try clear c7
  try clear hcz11_0
  try clear hcz11_1
  try clear hcz13_0
  try clear hcz13_1
  try clear hcz9_0
  try clear hcz9_1
  try clear hfz11_0
  try clear hfz11_1
  try clear hfz13_0
  try clear hfz13_1
  try clear hfz9_0
  try clear hfz9_1
  obtain ⟨kq, x25_3, rfl, HA, HJ3, BK332, HB⟩ := hcut
  cases kq with
  | zero => exact absurd HA.out (by simp [impl_FewestFaces.j0])
  | succ kj3 =>
   have H := HA.out
   clear HA
   simp only [impl_FewestFaces.j0] at H
   by_cases c15 : x25_3 = true
   ·subst c15
    have H1 : (some (([] : List Int), false)) = some (r1, r2) := by rw [if_pos rfl] at H; exact H
    clear H
    have H := H1
    clear H1
    simp only [Option.some.injEq, Prod.mk.injEq] at H
    obtain ⟨rfl, rfl⟩ := H
    go_wp2
    go_ret2
    exact ⟨_, by first | rfl | (simp [errW_none, errW_some] <;> rfl) | (simp [*, errW_none, errW_some] <;> rfl), by first | exact Kd.R_nil _ _ _ _ _ | exact Kd.N_nil _ _ _ _ _ | exact Kd.V_nil _ _ _ _ _ | exact Kd.Q_nil _ _ _ _ _ | exact Kd.S_nil _ _ _ _ _, blw⟩
   ·replace c15 := Bool.eq_false_iff.mpr c15
    subst c15
    have H1 : ((slices_Repeat_int_int.f (([(-1)] : List Int)) (l0_1.length : Int)).bind fun t338 => (if 0 ≤ a2 then (if a2 < (t338.length : Int) then (impl_FewestFaces.l0 kj3 a1 a2 (t338.set (a2 : Int).toNat 0) (([a2] : List Int)) l0_0 l0_1) else (none)) else (none))) = some (r1, r2) := by rw [if_neg (show ¬ (false = true) by decide)] at H; exact H
    clear H
    have H := H1
    clear H1
    obtain ⟨y335, hy335⟩ : ∃ y_ : List Int, y_ = (([(-1)] : List Int)) := ⟨_, rfl⟩
    replace H : ((slices_Repeat_int_int.f y335 (l0_1.length : Int)).bind fun t338 => (if 0 ≤ a2 then (if a2 < (t338.length : Int) then (impl_FewestFaces.l0 kj3 a1 a2 (t338.set (a2 : Int).toNat 0) (([a2] : List Int)) l0_0 l0_1) else (none)) else (none))) = some (r1, r2) := by first | (rw [hy335]; with_reducible exact H) | (have H2_ := (Option.bind_some _ _).symm.trans H; rw [hy335]; with_reducible exact H2_) | (have H2_ := (Option.bind_some _ _).symm.trans H; with_reducible exact H2_) | with_reducible exact H | (rw [hy335]; exact H) | exact H
    have Ny335 := Aside0.mk hy335
    clear hy335
    replace H := Option.bind_eq_some_iff.mp H
    obtain ⟨t338, A160, H⟩ := H
    replace H : (if 0 ≤ a2 then (if a2 < (t338.length : Int) then (impl_FewestFaces.l0 kj3 a1 a2 (t338.set (a2 : Int).toNat 0) (([a2] : List Int)) l0_0 l0_1) else (none)) else (none)) = some (r1, r2) := H
    have A16 := Aside0.mk A160
    clear A160
    by_cases c17 : 0 ≤ a2
    ·rw [if_pos c17] at H
     have c17b0 : decide (0 ≤ a2) = true := decide_eq_true c17
     clear c17
     by_cases c18 : a2 < (t338.length : Int)
     ·rw [if_pos c18] at H
      have c18b0 : decide (a2 < (t338.length : Int)) = true := decide_eq_true c18
      clear c18
      obtain ⟨y341, hy341⟩ : ∃ y_ : List Int, y_ = (t338.set (a2 : Int).toNat 0) := ⟨_, rfl⟩
      replace H : (impl_FewestFaces.l0 kj3 a1 a2 y341 (([a2] : List Int)) l0_0 l0_1) = some (r1, r2) := by first | (rw [hy341]; with_reducible exact H) | (have H2_ := (Option.bind_some _ _).symm.trans H; rw [hy341]; with_reducible exact H2_) | (have H2_ := (Option.bind_some _ _).symm.trans H; with_reducible exact H2_) | with_reducible exact H | (rw [hy341]; exact H) | exact H
      have Ny341 := Aside0.mk hy341
      clear hy341
      obtain ⟨y342, hy342⟩ : ∃ y_ : List Int, y_ = (([a2] : List Int)) := ⟨_, rfl⟩
      replace H : (impl_FewestFaces.l0 kj3 a1 a2 y341 y342 l0_0 l0_1) = some (r1, r2) := by first | (rw [hy342]; with_reducible exact H) | (have H2_ := (Option.bind_some _ _).symm.trans H; rw [hy342]; with_reducible exact H2_) | (have H2_ := (Option.bind_some _ _).symm.trans H; with_reducible exact H2_) | with_reducible exact H | (rw [hy342]; exact H) | exact H
      have Ny342 := Aside0.mk hy342
      clear hy342
      have H' := Aside0.mk H
      clear H
      go_wp2_with (first | ((with_reducible refine gate_dst (N := 26) rfl ?_); refine Kd.R_lit (Kd.int .i64) _ 3 ?hg (N := 26) ?hd (xs := ([(-1)] : List Int)) (inner := [.int .i64 (-1)]) (ok := fun _ => True) (okp := fun _ => True) ?hr ?hp (fun _ hk => hk) trivial (Below.refl _ _) (Nat.le_refl _) (by simp) ?_; (case hd => rfl); (case hg => rfl); (case hr => first | (go_simp; done) | (go_simp; rfl)); (case hp => exact (Reps.one (show Kd.M (Kd.int .i64) _ _ _ (-1) [.int .i64 (-1)] from rfl) (Reps.none _ _))); intro v336 w20 ho21 hb hg_ hnew_; clear hg_ hnew_; (first | rw [← Ny335.out] at ho21 | (simp only [Int.reduceToNat] at ho21; rw [← Ny335.out] at ho21)); have n0_ := Aside0.mk (Kd.R_lower ho21 (below_size blw)); have n1_ := Aside0.mk (blk_below (g := gb332) (o := .cells #[.slice A0_0 l0_0.length c0_0, .slice A0_1 l0_1.length c0_1] 30 (0, 0)) bkw hb); have n2_ := Aside0.mk (below_step blw hb); clear BK332; clear HB; have HO337 := n0_; have BK332 := n1_; have HB := n2_; clear n0_ n1_ n2_; clear hb ho21; have hcz22_0 : w20.cell? ⟨gb332, 0, none⟩ = some (.slice A0_0 l0_0.length c0_0) := (blk_cell BK332.out 0).trans rfl; have hcz22_1 : w20.cell? ⟨gb332, 1, none⟩ = some (.slice A0_1 l0_1.length c0_1) := (blk_cell BK332.out 1).trans rfl; have hfz22_0 := blk_frozen BK332.out 0; have hfz22_1 := blk_frozen BK332.out 1; obtain ⟨Ao23, co23, eo23⟩ := Kd.R_slice HO337.out; subst eo23) | ((with_reducible refine gate_callee (f := 59) rfl ?_); refine goesL_ (some 30) rfl rfl Try.func59 (by kernel_rfl) rfl #[.slice Ao23 y335.length co23, .int .i64 (l0_1.length : Int)] rfl (by (try simp only [List.map_toArray, List.map_cons, List.map_nil]); first | done | rfl | (simp only [List.length_drop, List.length_take]; rfl)) ?_; (with_reducible refine (slices_Repeat_int_int.calls _ _ y335 (l0_1.length : Int) t338 _ ?side1 ?side2 A16.out).mono ?_); (case side1 => repeat (first | exact (Kd.R_reads' HO337.out).2.2 | (with_reducible refine Kd.C_alloc ?_ _) | (with_reducible refine Kd.C_drewN ?_ _) | (with_reducible refine Kd.C_drew ?_))); (case side2 => exact (Kd.R_reads' HO337.out).2.1); rintro e w24 ⟨v339, rfl, ho0, hb⟩; refine ⟨_, rfl, ?_⟩; have n0_ := Aside0.mk (Kd.R_elder' (by (with_reducible repeat (first | apply Kd.R_alloc | apply Kd.R_drewN | apply Kd.R_drew)); exact HO337.out) (Kd.R_base ho0) hb); have n1_ := Aside0.mk (Kd.R_lower (Kd.R_new' ho0 (Kd.R_lt (by (with_reducible repeat (first | apply Kd.R_alloc | apply Kd.R_drewN | apply Kd.R_drew)); exact HO337.out))) (below_size blw)); have n2_ := Aside0.mk (blk_below (g := gb332) (o := .cells #[.slice A0_0 l0_0.length c0_0, .slice A0_1 l0_1.length c0_1] 30 (0, 0)) bkw hb); have n3_ := Aside0.mk (below_step blw hb); clear HO337; clear BK332; clear HB; have HO337 := n0_; have HO340 := n1_; have BK332 := n2_; have HB := n3_; clear n0_ n1_ n2_ n3_; (try clear hb); (try clear hb2); (try clear hk); (try clear hi); (try clear ho0); have p19 : 0 ≤ (a2 : Int) := odt; have q19 : (a2 : Int) < ((t338.length : Int) : Int) := odt; obtain ⟨go19, co19, eo19, gb19, gl19, cl19, HG19⟩ := Kd.R_form HO340.out (by omega); (first | cases eo19 | (injection eo19 with ea_ en_ ec_; (first | subst ea_ | (injection ea_ with ea_; subst ea_)); subst ec_; clear en_)); have GB19 := Aside0.mk gb19; have GG19 := Aside0.mk HG19; clear gb19 gl19 HG19; obtain ⟨hx19_0, hf19_0⟩ := Kd.R_celln 0 HO340.out (a2 : Int) p19 q19; replace p19 := eq_true p19; replace q19 := eq_true q19; have n_ := Aside0.mk (Kd.R_mono (ok' := (fun k_ => some k_ ≠ (.slice Ao23 y335.length co23 : Value).ownBlock)) HO340.out (fun k_ hk => hk.2)); clear HO340; have HO340 := n_; clear n_; obtain ⟨hy25_, hz25_⟩ := Kd.R_celln 0 HO340.out (a2 : Int) odt odt; have HP25 := Kd.R_putg HO340.out (a2 : Int) 0) | ((with_reducible refine gate_store (t := 3) (p := 33) rfl ?_); refine store_event (t := 3) (p := 33) (v := ?vo_w26) (w1 := (w24.setCell ⟨go19, (a2 : Int).toNat, none⟩ (.int .i64 0))) ?hg ?ho ?hn ?hr ?_; (case ho => rfl); (case hg => rfl); (case hn => rfl); (case hr => first | (go_simp; done) | (go_simp; rfl)); intro w26 hw; have hg : w24.grownBy w26 (some go19) := (by rw [hw]; exact HP25.2); have hp_ : Kd.R (Kd.int .i64) 3 w26 w.heap.size (fun k_ => some k_ ≠ (.slice Ao23 y335.length co23 : Value).ownBlock) (.slice (some ⟨go19, 0, none⟩) t338.length co19) y341 := (by rw [hw, Ny341.out]; exact HP25.1); clear HP25; have n0_ := Aside0.mk (blk_grown (g := gb332) (o := .cells #[.slice A0_0 l0_0.length c0_0, .slice A0_1 l0_1.length c0_1] 30 (0, 0)) bkw hg (Kd.R_ne HO340.out BK332.out (by decide))); have n1_ := Aside0.mk (Kd.R_after (v := (.slice (some ⟨go19, 0, none⟩) t338.length co19)) (v1 := (.slice (some ⟨go19, 0, none⟩) t338.length co19)) (ok := (fun _ => True)) (by (with_reducible repeat (first | apply Kd.R_alloc | apply Kd.R_drewN | apply Kd.R_drew)); exact HO337.out) hg (.inl rfl)); have n2_ := Aside0.mk (hp_); have n3_ := Aside0.mk ((by rw [hw]; exact below_set (HB.out) GB19.out : Below w.heap.size w w26)); clear BK332; clear HO337; clear HO340; clear HB; have BK332 := n0_; have HO337 := n1_; have HO340 := n2_; have HB := n3_; clear n0_ n1_ n2_ n3_; clear hg hw hp_) | ((with_reducible refine gate_dst (N := 35) rfl ?_); refine Kd.R_lit (Kd.int .i64) _ 3 ?hg (N := 35) ?hd (xs := ([a2] : List Int)) (inner := [.int .i64 a2]) (ok := fun _ => True) (okp := fun _ => True) ?hr ?hp (fun _ hk => hk) trivial (Below.refl _ _) (Nat.le_refl _) (by simp) ?_; (case hd => rfl); (case hg => rfl); (case hr => first | (go_simp; done) | (go_simp; rfl)); (case hp => exact (Reps.one (show Kd.M (Kd.int .i64) _ _ _ a2 [.int .i64 a2] from rfl) (Reps.none _ _))); intro v343 w27 ho28 hb hg_ hnew_; clear hg_ hnew_; (first | rw [← Ny342.out] at ho28 | (simp only [Int.reduceToNat] at ho28; rw [← Ny342.out] at ho28)); have n0_ := Aside0.mk (Kd.R_elder' (by (with_reducible repeat (first | apply Kd.R_alloc | apply Kd.R_drewN | apply Kd.R_drew)); exact HO337.out) (Kd.R_base ho28) hb); have n1_ := Aside0.mk (Kd.R_elder' (by (with_reducible repeat (first | apply Kd.R_alloc | apply Kd.R_drewN | apply Kd.R_drew)); exact HO340.out) (Kd.R_base ho28) hb); have n2_ := Aside0.mk (Kd.R_lower (Kd.R_new' (Kd.R_new' ho28 (Kd.R_lt (by (with_reducible repeat (first | apply Kd.R_alloc | apply Kd.R_drewN | apply Kd.R_drew)); exact HO337.out))) (Kd.R_lt (by (with_reducible repeat (first | apply Kd.R_alloc | apply Kd.R_drewN | apply Kd.R_drew)); exact HO340.out))) (below_size blw)); have n3_ := Aside0.mk (blk_below (g := gb332) (o := .cells #[.slice A0_0 l0_0.length c0_0, .slice A0_1 l0_1.length c0_1] 30 (0, 0)) bkw hb); have n4_ := Aside0.mk (below_step blw hb); clear HO337; clear HO340; clear BK332; clear HB; have HO337 := n0_; have HO340 := n1_; have HO344 := n2_; have BK332 := n3_; have HB := n4_; clear n0_ n1_ n2_ n3_ n4_; clear hb ho28))
      go_loopg [9] kj3 (fun kq v9 w' => ∃ (x8_2 : List Int) (x9_2 : List Int), Aside0 (impl_FewestFaces.l0 kq a1 a2 x8_2 x9_2 l0_0 l0_1 = some (r1, r2)) ∧ Aside0 (kq ≤ kj3) ∧ Aside0 (Kd.R (Kd.int .i64) 3 w' w.heap.size (fun k_ => some k_ ≠ (v9 : Value).ownBlock) (.slice (some ⟨go19, 0, none⟩) t338.length co19) x8_2) ∧ Aside0 (Kd.Q (Kd.int .i64) 3 w' w.heap.size (fun k_ => some k_ ≠ ((.slice (some ⟨go19, 0, none⟩) t338.length co19) : Value).ownBlock) v9 x9_2) ∧ Aside0 (w'.heap[gb332]? = some (.cells #[(.slice A0_0 l0_0.length c0_0), (.slice A0_1 l0_1.length c0_1)] 30 (0, 0))) ∧ Aside0 (Below w.heap.size w w'))
      case atStart => exact ⟨(y341), (y342), H', ⟨Nat.le_refl _⟩, ⟨by (with_reducible repeat (first | apply Kd.R_alloc | apply Kd.R_drewN | apply Kd.R_drew)); exact Kd.R_mono HO340.out (fun _ hk => hk.2)⟩, ⟨Kd.Q_of_R (by (with_reducible repeat (first | apply Kd.R_alloc | apply Kd.R_drewN | apply Kd.R_drew)); exact Kd.R_mono HO344.out (fun _ hk => hk.2))⟩, ⟨by (with_reducible repeat (first | refine blk_drewN ?_ _ | refine blk_drew ?_ | refine blk_alloc ?_ _)); exact BK332.out⟩, ⟨blw⟩⟩
      case round =>
       clear H'
       try clear c1
       try clear p1
       try clear q1
       try clear hx1
       try clear c2
       try clear p2
       try clear c5
       try clear c7
       try clear c15
       try clear c17
       try clear c17b0
       try clear c18
       try clear c18b0
       try clear p19
       try clear q19
       try clear hx19
       try clear hf19
       try clear hcz11_0
       try clear hcz11_1
       try clear hcz13_0
       try clear hcz13_1
       try clear hcz22_0
       try clear hcz22_1
       try clear hcz9_0
       try clear hcz9_1
       try clear hfz11_0
       try clear hfz11_1
       try clear hfz13_0
       try clear hfz13_1
       try clear hfz22_0
       try clear hfz22_1
       try clear hfz9_0
       try clear hfz9_1
       try clear hx19_0
       try clear p19
       try clear p2
       try clear q19
       obtain ⟨x8_2, x9_2, HA, HK2, HO_8, HO_9, BK332, HB⟩ := hrel
       have hl8_2 := (Kd.R_reads' HO_8.out).1
       rw [hl8_2] at HO_8
       (try simp only [hl8_2])
       (try simp only [hl8_2] at BK332)
       (try simp only [hl8_2] at HO_9)
       cases gk with
       | zero => exact absurd HA.out (by simp [impl_FewestFaces.l0])
       | succ k2 =>
        have H := HA.out
        clear HA
        simp only [impl_FewestFaces.l0] at H
        by_cases c29 : (x9_2.length : Int) > 0
        ·rw [if_pos c29] at H
         have c29b0 : decide (0 < (x9_2.length : Int)) = true := decide_eq_true c29
         have c29b1 : decide (0 < x9_2.length) = true := decide_eq_true (by omega)
         clear c29
         by_cases c30 : 0 < (x9_2.length : Int)
         ·rw [if_pos c30] at H
          have c30b0 : decide (0 < (x9_2.length : Int)) = true := decide_eq_true c30
          have c30b1 : decide (0 < x9_2.length) = true := decide_eq_true (by omega)
          clear c30
          replace H := Option.bind_eq_some_iff.mp H
          obtain ⟨t346, A310, H⟩ := H
          replace H : (impl_FewestFaces.l1 k2 a1 a2 x8_2 x9_2 t346 (t346.length : Int) 0 l0_0 l0_1) = some (r1, r2) := H
          have A31 := Aside0.mk A310
          clear A310
          have H' := Aside0.mk H
          clear H
          obtain ⟨Ao32, co32, eo32, _⟩ := Kd.Q_slice HO_9.out
          subst eo32
          try go_wp2
          have n0_ := Aside0.mk (Kd.R_drew HO_8.out)
          have n1_ := Aside0.mk (Kd.Q_drew HO_9.out)
          have n2_ := Aside0.mk (blk_drew BK332.out)
          have n3_ := Aside0.mk (below_drew1 HB.out)
          clear HO_8
          clear HO_9
          clear BK332
          clear HB
          have HO_8 := n0_
          have HO_9 := n1_
          have BK332 := n2_
          have HB := n3_
          clear n0_ n1_ n2_ n3_
          have p345 : 0 ≤ (0 : Int) := (by omega)
          have q345 : 0 < (x9_2.length : Int) := odt
          obtain ⟨ad345, e345, hx345_0⟩ := Kd.at_int (Kd.Q_reads' HO_9.out).2.2 0 p345 q345
          cases e345
          have qi345 : (0 < x9_2.length) = True := eq_true (by omega)
          (try rw [show ((0 : Int)).toNat = 0 from rfl] at hx345_0)
          (try rw [Addr.add_zero'] at hx345_0)
          replace p345 := eq_true p345
          replace q345 := eq_true q345
          refine start_ (n := 7) (S := fun w' => w'.cell? ⟨gb332, 0, none⟩ = some (.slice A0_0 l0_0.length c0_0) ∧ w'.cell? ⟨gb332, 1, none⟩ = some (.slice A0_1 l0_1.length c0_1) ∧ w'.cell? ad345 = some (.int .i64 (rd x9_2 0))) (ds := []) #[false, false, false, false, false, false, false] (by kernel_rfl) rfl rfl ⟨(blk_cell BK332.out 0).trans rfl, (blk_cell BK332.out 1).trans rfl, hx345_0⟩ (fun hHeld => ?_)
          generalize wr.drew = w33 at HO_8 HO_9 BK332 HB hx345_0 hHeld ⊢
          refine pure_ (i := 1) (N := some 42) (v := ?_) (a' := ?_) #[false, true, false, false, false, false, false] rfl rfl (by kernel_rfl) (fun _ _ _ h => h) (Or.inl ⟨by rfl, ?_⟩) ?_ ?_
          rotate_left
          ·intro w'
           go_simp
           with_reducible rfl
          rotate_left
          ·simp only [Act.put, sp1, sp2, sp3, i64_w, i32_w]
           rfl
          refine pure_ (i := 2) (N := some 43) (v := ?_) (a' := ?_) #[false, true, true, false, false, false, false] rfl rfl (by kernel_rfl) (fun _ _ _ h => h) (Or.inl ⟨by rfl, ?_⟩) ?_ ?_
          rotate_left
          ·intro w'
           go_simp
           with_reducible rfl
          rotate_left
          ·simp only [Act.put, sp1, sp2, sp3, i64_w, i32_w]
           rfl
          refine pure_ (i := 6) (N := some 47) (v := ?_) (a' := ?_) #[false, true, true, false, false, false, true] rfl rfl (by kernel_rfl) (fun _ _ _ h => h) (Or.inl ⟨by rfl, ?_⟩) ?_ ?_
          rotate_left
          ·intro w'
           go_simp
           with_reducible rfl
          rotate_left
          ·simp only [Act.put, sp1, sp2, sp3, i64_w, i32_w]
           rfl
          refine take_ (i := 0) (N := some 41) (v := ?_) (a' := ?_) #[true, true, true, false, false, false, true] rfl rfl (by kernel_rfl) (fun _ _ _ h => h) (Or.inl ⟨by rfl, ?_⟩) hHeld ?_ ?_
          rotate_left
          ·rintro w' ⟨s0, s1, s2⟩
           go_simp
           with_reducible rfl
          rotate_left
          ·simp only [Act.put, sp1, sp2, sp3, i64_w, i32_w]
           rfl
          refine take_ (i := 3) (N := some 44) (v := ?_) (a' := ?_) #[true, true, true, true, false, false, true] rfl rfl (by kernel_rfl) (fun _ _ _ h => h) (Or.inl ⟨by rfl, ?_⟩) hHeld ?_ ?_
          rotate_left
          ·rintro w' ⟨s0, s1, s2⟩
           go_simp
           with_reducible rfl
          rotate_left
          ·simp only [Act.put, sp1, sp2, sp3, i64_w, i32_w]
           rfl
          refine one_ (i := 4) (N := some 45) #[true, true, true, true, true, false, true] rfl rfl (by kernel_rfl) (by decide) (fun K hK => ?_)
          refine goes_ Try.func55 (by kernel_rfl) rfl #[.agg #[.slice A0_0 l0_0.length c0_0, .slice A0_1 l0_1.length c0_1], .int .i64 (rd x9_2 0)] (by rfl) rfl rfl (by (try simp only [List.map_toArray, List.map_cons, List.map_nil]); first | done | rfl | (simp only [List.length_drop, List.length_take]; rfl)) ?_
          with_reducible refine (impl_Ground_beside.calls k2 _ _ l0_0 _ _ l0_1 (rd x9_2 0) t346 _ ?side1 ?side2 ?side3 ?side4 A31.out).mono ?_
          (case side1 => repeat (first | exact (Kd.C_below HR0_0.out HB.out) | (with_reducible refine Kd.C_alloc ?_ _) | (with_reducible refine Kd.C_drewN ?_ _) | (with_reducible refine Kd.C_drew ?_)))
          (case side2 => exact HC0_0.out)
          (case side3 => repeat (first | exact (Kd.C_below HR0_1.out HB.out) | (with_reducible refine Kd.C_alloc ?_ _) | (with_reducible refine Kd.C_drewN ?_ _) | (with_reducible refine Kd.C_drew ?_)))
          (case side4 => exact HC0_1.out)
          rintro e w34 ⟨v347, rfl, ho0, hb⟩
          have HS2_ := (hb.cell (World.block_lt_of_cell? _ _ (hHeld.2.2))).trans (hHeld.2.2)
          refine ⟨_, rfl, ?_⟩
          have n0_ := Aside0.mk (Kd.R_elder' (by (with_reducible repeat (first | apply Kd.R_alloc | apply Kd.R_drewN | apply Kd.R_drew)); exact HO_8.out) (Kd.R_base ho0) hb)
          have n1_ := Aside0.mk (Kd.Q_elder' (by (with_reducible repeat (first | apply Kd.Q_alloc | apply Kd.Q_drewN | apply Kd.Q_drew)); exact HO_9.out) (Kd.R_base ho0) hb)
          have n2_ := Aside0.mk (Kd.R_lower (Kd.R_new' (Kd.R_new' ho0 (Kd.R_lt (by (with_reducible repeat (first | apply Kd.R_alloc | apply Kd.R_drewN | apply Kd.R_drew)); exact HO_8.out))) (Kd.Q_lt (by (with_reducible repeat (first | apply Kd.Q_alloc | apply Kd.Q_drewN | apply Kd.Q_drew)); exact HO_9.out))) (below_size blw))
          have n3_ := Aside0.mk (blk_below (g := gb332) (o := .cells #[.slice A0_0 l0_0.length c0_0, .slice A0_1 l0_1.length c0_1] 30 (0, 0)) bkw hb)
          have n4_ := Aside0.mk (below_step blw hb)
          clear HO_8
          clear HO_9
          clear BK332
          clear HB
          have HO_8 := n0_
          have HO_9 := n1_
          have HO348 := n2_
          have BK332 := n3_
          have HB := n4_
          clear n0_ n1_ n2_ n3_ n4_
          (try clear hb)
          (try clear hb2)
          (try clear hk)
          (try clear hi)
          (try clear ho0)
          obtain ⟨Ao35, co35, eo35⟩ := Kd.R_slice HO348.out
          (first | subst eo35 | (injection eo35 with f1_ f2_ f3_; have f4_ := f1_.symm; have f5_ := f3_.symm; clear f1_ f2_ f3_; subst f4_; subst f5_))
          refine hK.out _ _ ⟨(blk_cell BK332.out 0).trans rfl, (blk_cell BK332.out 1).trans rfl, HS2_⟩ (fun hHeld => ?_)
          clear hK K
          refine norm_ (a' := ?_) ?_ ?_
          rotate_left
          ·show Act.put _ (some 45) _ = _
           simp only [Act.put, sp1, sp2, sp3, i64_w, i32_w]
           rfl
          refine pure_ (i := 5) (N := some 46) (v := ?_) (a' := ?_) #[true, true, true, true, true, true, true] rfl rfl (by kernel_rfl) (fun _ _ _ h => h) (Or.inl ⟨by rfl, ?_⟩) ?_ ?_
          rotate_left
          ·intro w'
           go_simp
           with_reducible rfl
          rotate_left
          ·simp only [Act.put, sp1, sp2, sp3, i64_w, i32_w]
           rfl
          refine done_ (by kernel_rfl) ?_
          try go_wp2
          go_loopg [9, 47] k2 (fun kq v9 v47 w' => ∃ (x8_3 : List Int) (x9_3 : List Int) (x47_3 : Int), v47 = .int .i64 x47_3 ∧ Aside0 (impl_FewestFaces.l1 kq a1 a2 x8_3 x9_3 t346 (t346.length : Int) x47_3 l0_0 l0_1 = some (r1, r2)) ∧ Aside0 (kq ≤ k2) ∧ Aside0 (Kd.R (Kd.int .i64) 3 w' w.heap.size (fun k_ => some k_ ≠ (v9 : Value).ownBlock ∧ some k_ ≠ ((.slice Ao35 t346.length co35) : Value).ownBlock) (.slice (some ⟨go19, 0, none⟩) x8_2.length co19) x8_3) ∧ Aside0 (Kd.Q (Kd.int .i64) 3 w' w.heap.size (fun k_ => some k_ ≠ ((.slice (some ⟨go19, 0, none⟩) x8_2.length co19) : Value).ownBlock ∧ some k_ ≠ ((.slice Ao35 t346.length co35) : Value).ownBlock) v9 x9_3) ∧ Aside0 (Kd.R (Kd.int .i64) 3 w' w.heap.size (fun k_ => some k_ ≠ ((.slice (some ⟨go19, 0, none⟩) x8_2.length co19) : Value).ownBlock ∧ some k_ ≠ (v9 : Value).ownBlock) (.slice Ao35 t346.length co35) t346) ∧ Aside0 (w'.heap[gb332]? = some (.cells #[(.slice A0_0 l0_0.length c0_0), (.slice A0_1 l0_1.length c0_1)] 30 (0, 0))) ∧ Aside0 (Below w.heap.size w w'))
          case atStart => exact ⟨(x8_2), (x9_2), (0), (by first | rfl | (simp; done) | (simp [*]; done)), H', ⟨Nat.le_refl _⟩, ⟨by (try simp only [hl8_2]); (with_reducible repeat (first | apply Kd.R_alloc | apply Kd.R_drewN | apply Kd.R_drew)); exact HO_8.out⟩, ⟨by (try simp only [hl8_2]); (with_reducible repeat (first | apply Kd.Q_alloc | apply Kd.Q_drewN | apply Kd.Q_drew)); exact HO_9.out⟩, ⟨by (try simp only [hl8_2]); (with_reducible repeat (first | apply Kd.R_alloc | apply Kd.R_drewN | apply Kd.R_drew)); exact Kd.R_mono HO348.out (fun _ hk => ⟨hk.1.2, hk.2⟩)⟩, ⟨by (try simp only [hl8_2]); (with_reducible repeat (first | refine blk_drewN ?_ _ | refine blk_drew ?_ | refine blk_alloc ?_ _)); exact BK332.out⟩, ⟨blw⟩⟩
          case round =>
           clear H'
           try clear c1
           try clear p1
           try clear q1
           try clear hx1
           try clear c2
           try clear p2
           try clear c3
           try clear p3
           try clear q3
           try clear hx3
           try clear qi3
           try clear c5
           try clear c7
           try clear c15
           try clear c17
           try clear c17b0
           try clear c18
           try clear c18b0
           try clear p19
           try clear q19
           try clear hx19
           try clear hf19
           try clear c29
           try clear c29b0
           try clear c29b1
           try clear c30
           try clear c30b0
           try clear c30b1
           try clear p34
           try clear q34
           try clear hx34
           try clear qi34
           try clear hcz11_0
           try clear hcz11_1
           try clear hcz13_0
           try clear hcz13_1
           try clear hcz22_0
           try clear hcz22_1
           try clear hcz9_0
           try clear hcz9_1
           try clear hfz11_0
           try clear hfz11_1
           try clear hfz13_0
           try clear hfz13_1
           try clear hfz22_0
           try clear hfz22_1
           try clear hfz9_0
           try clear hfz9_1
           try clear hx19_0
           try clear hx345_0
           try clear p1
           try clear p19
           try clear p2
           try clear p345
           try clear q1
           try clear q19
           try clear q345
           obtain ⟨x8_3, x9_3, x47_3, rfl, HA, HK3, HO_8, HO_9, HO_45, BK332, HB⟩ := hrel
           have hl8_3 := (Kd.R_reads' HO_8.out).1
           rw [hl8_3] at HO_8
           (try simp only [hl8_3])
           (try simp only [hl8_3] at BK332)
           (try simp only [hl8_3] at HO_9)
           (try simp only [hl8_3] at HO_45)
           cases gk with
           | zero => exact absurd HA.out (by simp [impl_FewestFaces.l1])
           | succ k3 =>
            have H := HA.out
            clear HA
            simp only [impl_FewestFaces.l1] at H
            by_cases c36 : x47_3 < (t346.length : Int)
            ·rw [if_pos c36] at H
             have c36b0 : decide (x47_3 < (t346.length : Int)) = true := decide_eq_true c36
             clear c36
             by_cases c37 : 0 ≤ x47_3
             ·rw [if_pos c37] at H
              have c37b0 : decide (0 ≤ x47_3) = true := decide_eq_true c37
              clear c37
              by_cases c38 : x47_3 < (t346.length : Int)
              ·rw [if_pos c38] at H
               have c38b0 : decide (x47_3 < (t346.length : Int)) = true := decide_eq_true c38
               clear c38
               by_cases c39 : 0 ≤ (rd t346 x47_3)
               ·rw [if_pos c39] at H
                have c39b0 : decide (0 ≤ (rd t346 x47_3)) = true := decide_eq_true c39
                clear c39
                by_cases c40 : (rd t346 x47_3) < (x8_3.length : Int)
                ·rw [if_pos c40] at H
                 have c40b0 : decide ((rd t346 x47_3) < (x8_3.length : Int)) = true := decide_eq_true c40
                 clear c40
                 by_cases c41 : (rd x8_3 (rd t346 x47_3)) < 0
                 ·rw [if_pos c41] at H
                  have c41b0 : decide ((rd x8_3 (rd t346 x47_3)) < 0) = true := decide_eq_true c41
                  clear c41
                  by_cases c42 : 0 < (x9_3.length : Int)
                  ·rw [if_pos c42] at H
                   have c42b0 : decide (0 < (x9_3.length : Int)) = true := decide_eq_true c42
                   have c42b1 : decide (0 < x9_3.length) = true := decide_eq_true (by omega)
                   clear c42
                   by_cases c43 : 0 ≤ (rd x9_3 0)
                   ·rw [if_pos c43] at H
                    have c43b0 : decide (0 ≤ (rd x9_3 0)) = true := decide_eq_true c43
                    clear c43
                    by_cases c44 : (rd x9_3 0) < (x8_3.length : Int)
                    ·rw [if_pos c44] at H
                     have c44b0 : decide ((rd x9_3 0) < (x8_3.length : Int)) = true := decide_eq_true c44
                     clear c44
                     obtain ⟨y353, hy353⟩ : ∃ y_ : List Int, y_ = (x8_3.set ((rd t346 x47_3) : Int).toNat (wrap64 ((rd x8_3 (rd x9_3 0)) + 1))) := ⟨_, rfl⟩
                     replace H : (if x9_3.length < 17592186044416 then (impl_FewestFaces.l1 k3 a1 a2 y353 (x9_3 ++ [rd t346 x47_3]) t346 (t346.length : Int) (wrap64 (x47_3 + 1)) l0_0 l0_1) else (none)) = some (r1, r2) := by first | (rw [hy353]; with_reducible exact H) | (have H2_ := (Option.bind_some _ _).symm.trans H; rw [hy353]; with_reducible exact H2_) | (have H2_ := (Option.bind_some _ _).symm.trans H; with_reducible exact H2_) | with_reducible exact H | (rw [hy353]; exact H) | exact H
                     have Ny353 := Aside0.mk hy353
                     clear hy353
                     by_cases c46 : x9_3.length < 17592186044416
                     ·rw [if_pos c46] at H
                      have LMc46 := Aside0.mk c46
                      clear c46
                      obtain ⟨y354, hy354⟩ : ∃ y_ : List Int, y_ = (x9_3 ++ [rd t346 x47_3]) := ⟨_, rfl⟩
                      replace H : (impl_FewestFaces.l1 k3 a1 a2 y353 y354 t346 (t346.length : Int) (wrap64 (x47_3 + 1)) l0_0 l0_1) = some (r1, r2) := by first | (rw [hy354]; with_reducible exact H) | (have H2_ := (Option.bind_some _ _).symm.trans H; rw [hy354]; with_reducible exact H2_) | (have H2_ := (Option.bind_some _ _).symm.trans H; with_reducible exact H2_) | with_reducible exact H | (rw [hy354]; exact H) | exact H
                      have Ny354 := Aside0.mk hy354
                      clear hy354
                      have H' := Aside0.mk H
                      clear H
                      have p349 : 0 ≤ (x47_3 : Int) := odt
                      have q349 : x47_3 < (t346.length : Int) := odt
                      obtain ⟨ad349, e349, hx349_0⟩ := Kd.at_int (Kd.R_reads' HO_45.out).2.2 x47_3 p349 q349
                      cases e349
                      replace p349 := eq_true p349
                      replace q349 := eq_true q349
                      have p350 : 0 ≤ ((rd t346 x47_3) : Int) := odt
                      have q350 : (rd t346 x47_3) < (x8_3.length : Int) := odt
                      obtain ⟨ad350, e350, hx350_0⟩ := Kd.at_int (Kd.R_reads' HO_8.out).2.2 (rd t346 x47_3) p350 q350
                      obtain rfl : (⟨go19, 0, none⟩ : Addr) = ad350 := (by injection e350)
                      (first | simp only [add_plain] at hx350_0 | simp only [add_at] at hx350_0 | simp only [Addr.add, Nat.zero_add] at hx350_0 | skip)
                      replace p350 := eq_true p350
                      replace q350 := eq_true q350
                      obtain ⟨Ao47, co47, eo47, _⟩ := Kd.Q_slice HO_9.out
                      subst eo47
                      have p351 : 0 ≤ (0 : Int) := (by omega)
                      have q351 : 0 < (x9_3.length : Int) := odt
                      obtain ⟨ad351, e351, hx351_0⟩ := Kd.at_int (Kd.Q_reads' HO_9.out).2.2 0 p351 q351
                      cases e351
                      have qi351 : (0 < x9_3.length) = True := eq_true (by omega)
                      (try rw [show ((0 : Int)).toNat = 0 from rfl] at hx351_0)
                      (try rw [Addr.add_zero'] at hx351_0)
                      replace p351 := eq_true p351
                      replace q351 := eq_true q351
                      have p352 : 0 ≤ ((rd x9_3 0) : Int) := odt
                      have q352 : (rd x9_3 0) < (x8_3.length : Int) := odt
                      obtain ⟨ad352, e352, hx352_0⟩ := Kd.at_int (Kd.R_reads' HO_8.out).2.2 (rd x9_3 0) p352 q352
                      obtain rfl : (⟨go19, 0, none⟩ : Addr) = ad352 := (by injection e352)
                      (first | simp only [add_plain] at hx352_0 | simp only [add_at] at hx352_0 | simp only [Addr.add, Nat.zero_add] at hx352_0 | skip)
                      replace p352 := eq_true p352
                      replace q352 := eq_true q352
                      have p45 : 0 ≤ ((rd t346 x47_3) : Int) := odt
                      have q45 : ((rd t346 x47_3) : Int) < ((x8_3.length : Int) : Int) := odt
                      obtain ⟨hx45_0, hf45_0⟩ := Kd.R_celln 0 HO_8.out ((rd t346 x47_3) : Int) p45 q45
                      replace p45 := eq_true p45
                      replace q45 := eq_true q45
                      have HP48 := Kd.R_putg HO_8.out ((rd t346 x47_3) : Int) (wrap64 ((rd x8_3 (rd x9_3 0)) + 1))
                      go_wp2_with (first | ((with_reducible refine gate_store (t := 3) (p := 65) rfl ?_); refine store_event (t := 3) (p := 65) (v := ?vo_w49) (w1 := (wr.setCell ⟨go19, ((rd t346 x47_3) : Int).toNat, none⟩ (.int .i64 (wrap64 ((rd x8_3 (rd x9_3 0)) + 1))))) ?hg ?ho ?hn ?hr ?_; (case ho => rfl); (case hg => rfl); (case hn => rfl); (case hr => first | (go_simp; done) | (go_simp; rfl)); intro w49 hw; have hg : wr.grownBy w49 (some go19) := (by rw [hw]; exact HP48.2); have hp_ : Kd.R (Kd.int .i64) 3 w49 w.heap.size (fun k_ => some k_ ≠ (.slice (some ad351) x9_3.length co47 : Value).ownBlock ∧ some k_ ≠ (.slice (some ad349) t346.length co35 : Value).ownBlock) (.slice (some ⟨go19, 0, none⟩) x8_3.length co19) y353 := (by rw [hw, Ny353.out]; exact HP48.1); clear HP48; have n0_ := Aside0.mk (hp_); have n1_ := Aside0.mk (Kd.Q_after (v := (.slice (some ⟨go19, 0, none⟩) x8_3.length co19)) (v1 := (.slice (some ⟨go19, 0, none⟩) x8_3.length co19)) (ok := (fun k_ => some k_ ≠ (.slice (some ad349) t346.length co35 : Value).ownBlock)) (by (with_reducible repeat (first | apply Kd.Q_alloc | apply Kd.Q_drewN | apply Kd.Q_drew)); exact Kd.Q_mono HO_9.out (fun _ hk => ⟨hk.2, hk.1⟩)) hg (.inl rfl)); have n2_ := Aside0.mk (Kd.R_after (v := (.slice (some ⟨go19, 0, none⟩) x8_3.length co19)) (v1 := (.slice (some ⟨go19, 0, none⟩) x8_3.length co19)) (ok := (fun k_ => some k_ ≠ (.slice (some ad351) x9_3.length co47 : Value).ownBlock)) (by (with_reducible repeat (first | apply Kd.R_alloc | apply Kd.R_drewN | apply Kd.R_drew)); exact Kd.R_mono HO_45.out (fun _ hk => ⟨hk.2, hk.1⟩)) hg (.inl rfl)); have n3_ := Aside0.mk (blk_grown (g := gb332) (o := .cells #[.slice A0_0 l0_0.length c0_0, .slice A0_1 l0_1.length c0_1] 30 (0, 0)) bkw hg (Kd.R_ne HO_8.out BK332.out (by decide))); have n4_ := Aside0.mk ((by rw [hw]; exact below_set (HB.out) GB19.out : Below w.heap.size w w49)); clear HO_8; clear HO_9; clear HO_45; clear BK332; clear HB; have HO_8 := n0_; have HO_9 := n1_; have HO_45 := n2_; have BK332 := n3_; have HB := n4_; clear n0_ n1_ n2_ n3_ n4_; clear hg hw hp_) | ((with_reducible refine gate_builtin (b := .append) (xs := #[.tmp 66, .tmp 68]) rfl ?_); at_builtin; refine Kd.Q_append (Kd.int .i64) (w0 := w) w.heap.size rfl (.tmp 66) (.tmp 68) 36 3 (.int .i64 0) 8 rfl Try.underlying36 info3 rfl (by decide) (by omega) (.slice (some ad351) x9_3.length co47) x9_3 (rd t346 x47_3) [.int .i64 (rd t346 x47_3)] (fun k_ => some k_ ≠ (.slice (some ⟨go19, 0, none⟩) x8_3.length co19 : Value).ownBlock ∧ some k_ ≠ (.slice (some ad349) t346.length co35 : Value).ownBlock) (fun _ => False) rfl rfl ?aP (fun _ hk => hk.elim) ?aF ?aO ?aB ?aS ?aL ?_; (case aP => exact rfl); (case aB => exact blw); (case aF => exact (fun k_ hk => ⟨Kd.fresh' (Kd.R_lt (by (with_reducible repeat (first | apply Kd.R_alloc | apply Kd.R_drewN | apply Kd.R_drew)); exact HO_8.out)) k_ hk, Kd.fresh' (Kd.R_lt (by (with_reducible repeat (first | apply Kd.R_alloc | apply Kd.R_drewN | apply Kd.R_drew)); exact HO_45.out)) k_ hk⟩)); (case aO => exact (by (with_reducible repeat (first | apply Kd.Q_alloc | apply Kd.Q_drewN | apply Kd.Q_drew)); exact Kd.Q_mono HO_9.out (fun _ hk => ⟨hk.2, hk.1⟩))); (case aS => exact (below_size blw)); (case aL => have := LMc46.out; omega); intro v355 w50 ho hb hg hat; rw [← Ny354.out] at ho; have n0_ := Aside0.mk (Kd.R_after (ok := (fun k_ => some k_ ≠ (.slice (some ad349) t346.length co35 : Value).ownBlock)) (by (with_reducible repeat (first | apply Kd.R_alloc | apply Kd.R_drewN | apply Kd.R_drew)); exact Kd.R_mono HO_8.out (fun _ hk => ⟨hk.2, hk.1⟩)) hg hat); have n1_ := Aside0.mk (Kd.R_after (ok := (fun k_ => some k_ ≠ (.slice (some ⟨go19, 0, none⟩) x8_3.length co19 : Value).ownBlock)) (by (with_reducible repeat (first | apply Kd.R_alloc | apply Kd.R_drewN | apply Kd.R_drew)); exact Kd.R_mono HO_45.out (fun _ hk => ⟨hk.2, hk.1⟩)) hg hat); have n2_ := Aside0.mk (blk_grown (g := gb332) (o := .cells #[.slice A0_0 l0_0.length c0_0, .slice A0_1 l0_1.length c0_1] 30 (0, 0)) bkw hg (Kd.Q_ne HO_9.out BK332.out (by decide))); have n3_ := Aside0.mk (hb); have n4_ := Aside0.mk (ho); clear HO_8; clear HO_45; clear BK332; clear HB; clear HO_9; have HO_8 := n0_; have HO_45 := n1_; have BK332 := n2_; have HB := n3_; have HO356 := n4_; clear n0_ n1_ n2_ n3_ n4_; clear ho hb hg hat))
                      (try simp only [← hl8_3])
                      go_roundg k3
                      case measure => have := HJ3.out; have := HK2.out; have := HK3.out; omega
                      case rel => exact ⟨(y353), (y354), (wrap64 (x47_3 + 1)), (by first | rfl | (simp; done) | (simp [*]; done)), H', ⟨by have := HJ3.out; have := HK2.out; have := HK3.out; omega⟩, ⟨by (try simp only [hl8_2]); (try simp only [hl8_3]); (with_reducible repeat (first | apply Kd.R_alloc | apply Kd.R_drewN | apply Kd.R_drew)); exact Kd.R_mono HO_8.out (fun _ hk => ⟨hk.2, hk.1⟩)⟩, ⟨by (try simp only [hl8_2]); (try simp only [hl8_3]); (with_reducible repeat (first | apply Kd.Q_alloc | apply Kd.Q_drewN | apply Kd.Q_drew)); exact HO356.out⟩, ⟨by (try simp only [hl8_2]); (try simp only [hl8_3]); (with_reducible repeat (first | apply Kd.R_alloc | apply Kd.R_drewN | apply Kd.R_drew)); exact HO_45.out⟩, ⟨by (try simp only [hl8_2]); (try simp only [hl8_3]); (with_reducible repeat (first | refine blk_drewN ?_ _ | refine blk_drew ?_ | refine blk_alloc ?_ _)); exact BK332.out⟩, ⟨blw⟩⟩
                     ·rw [if_neg c46] at H
                      exact absurd H (by simp)
                    ·rw [if_neg c44] at H
                     exact absurd H (by simp)
                   ·rw [if_neg c43] at H
                    exact absurd H (by simp)
                  ·rw [if_neg c42] at H
                   exact absurd H (by simp)
                 ·rw [if_neg c41] at H
                  have c41b0 : decide ((rd x8_3 (rd t346 x47_3)) < 0) = false := decide_eq_false c41
                  clear c41
                  have H' := Aside0.mk H
                  clear H
                  have p349 : 0 ≤ (x47_3 : Int) := odt
                  have q349 : x47_3 < (t346.length : Int) := odt
                  obtain ⟨ad349, e349, hx349_0⟩ := Kd.at_int (Kd.R_reads' HO_45.out).2.2 x47_3 p349 q349
                  cases e349
                  replace p349 := eq_true p349
                  replace q349 := eq_true q349
                  have p350 : 0 ≤ ((rd t346 x47_3) : Int) := odt
                  have q350 : (rd t346 x47_3) < (x8_3.length : Int) := odt
                  obtain ⟨ad350, e350, hx350_0⟩ := Kd.at_int (Kd.R_reads' HO_8.out).2.2 (rd t346 x47_3) p350 q350
                  obtain rfl : (⟨go19, 0, none⟩ : Addr) = ad350 := (by injection e350)
                  (first | simp only [add_plain] at hx350_0 | simp only [add_at] at hx350_0 | simp only [Addr.add, Nat.zero_add] at hx350_0 | skip)
                  replace p350 := eq_true p350
                  replace q350 := eq_true q350
                  go_wp2
                  (try simp only [← hl8_3])
                  go_roundg k3
                  case measure => have := HJ3.out; have := HK2.out; have := HK3.out; omega
                  case rel => exact ⟨(x8_3), (x9_3), (wrap64 (x47_3 + 1)), (by first | rfl | (simp; done) | (simp [*]; done)), H', ⟨by have := HJ3.out; have := HK2.out; have := HK3.out; omega⟩, ⟨by (try simp only [hl8_2]); (try simp only [hl8_3]); (with_reducible repeat (first | apply Kd.R_alloc | apply Kd.R_drewN | apply Kd.R_drew)); exact HO_8.out⟩, ⟨by (try simp only [hl8_2]); (try simp only [hl8_3]); (with_reducible repeat (first | apply Kd.Q_alloc | apply Kd.Q_drewN | apply Kd.Q_drew)); exact HO_9.out⟩, ⟨by (try simp only [hl8_2]); (try simp only [hl8_3]); (with_reducible repeat (first | apply Kd.R_alloc | apply Kd.R_drewN | apply Kd.R_drew)); exact HO_45.out⟩, ⟨by (try simp only [hl8_2]); (try simp only [hl8_3]); (with_reducible repeat (first | refine blk_drewN ?_ _ | refine blk_drew ?_ | refine blk_alloc ?_ _)); exact BK332.out⟩, ⟨blw⟩⟩
                ·rw [if_neg c40] at H
                 exact absurd H (by simp)
               ·rw [if_neg c39] at H
                exact absurd H (by simp)
              ·rw [if_neg c38] at H
               exact absurd H (by simp)
             ·rw [if_neg c37] at H
              exact absurd H (by simp)
            ·rw [if_neg c36] at H
             have c36b0 : decide (x47_3 < (t346.length : Int)) = false := decide_eq_false c36
             clear c36
             by_cases c51 : 1 ≤ (x9_3.length : Int)
             ·rw [if_pos c51] at H
              have c51b0 := eq_true c51
              have c51b1 : decide (1 ≤ (x9_3.length : Int)) = true := decide_eq_true c51
              clear c51
              obtain ⟨y357, hy357⟩ : ∃ y_ : List Int, y_ = (x9_3.drop (1 : Int).toNat) := ⟨_, rfl⟩
              replace H : (impl_FewestFaces.l0 k3 a1 a2 x8_3 y357 l0_0 l0_1) = some (r1, r2) := by first | (rw [hy357]; with_reducible exact H) | (have H2_ := (Option.bind_some _ _).symm.trans H; rw [hy357]; with_reducible exact H2_) | (have H2_ := (Option.bind_some _ _).symm.trans H; with_reducible exact H2_) | with_reducible exact H | (rw [hy357]; exact H) | exact H
              have Ny357 := Aside0.mk hy357
              clear hy357
              have H' := Aside0.mk H
              clear H
              obtain ⟨Ao52, co52, eo52, _⟩ := Kd.Q_slice HO_9.out
              subst eo52
              have q53 : (1 : Int) ≤ ((x9_3.length : Int) : Int) := odt
              obtain ⟨i053, hi053, _, hsz53, _⟩ := info_parts info3
              have hcut53 := cut_from (P := Try.prog) 36 3 .i64 Try.underlying36 hi053 1 hsz53 Ao52 x9_3.length co52 1 (by omega) q53
              have hr53 := Kd.Q_drop (k := (1 : Int).toNat) HO_9.out (by omega)
              obtain ⟨A53, hA53⟩ : ∃ A1, A1 = (if co52 = (1 : Int).toNat then Ao52 else (Ao52 : Option Addr).map (·.add ((1 : Int).toNat * 1))) := ⟨_, rfl⟩
              obtain ⟨c53, hc53⟩ : ∃ c1, c1 = co52 - (1 : Int).toNat := ⟨_, rfl⟩
              have hy53 : y357.length = x9_3.length - (1 : Int).toNat := (by rw [Ny357.out, List.length_drop])
              rw [← Ny357.out] at hr53
              rw [← hy53, ← hA53, ← hc53] at hcut53
              replace hr53 : Kd.Q (Kd.int .i64) 3 wr w.heap.size (fun k_ => some k_ ≠ (.slice (some ⟨go19, 0, none⟩) x8_3.length co19 : Value).ownBlock ∧ some k_ ≠ (.slice Ao35 t346.length co35 : Value).ownBlock) (.slice A53 y357.length c53) y357 := (by rw [hA53, hc53, hy53]; exact hr53)
              have HE53 : Aside0 ((Value.slice A53 y357.length c53).ownBlock = (.slice Ao52 x9_3.length co52 : Value).ownBlock) := ⟨by rw [hA53]; split <;> (cases (Ao52 : Option Addr) <;> rfl)⟩
              clear hy53 hi053 hsz53 HO_9 hA53 hc53
              have HO359 := Aside0.mk hr53
              clear hr53
              replace q53 := eq_true q53
              have n_ := Aside0.mk (Kd.R_mono (ok' := fun k_ => (some k_ ≠ (.slice A53 y357.length c53 : Value).ownBlock ∧ some k_ ≠ (.slice Ao35 t346.length co35 : Value).ownBlock)) HO_8.out (fun k_ hk => ⟨(by rw [HE53.out]; exact hk.1), hk.2⟩))
              clear HO_8
              have HO_8 := n_
              clear n_
              have n_ := Aside0.mk (Kd.R_mono (ok' := fun k_ => (some k_ ≠ (.slice (some ⟨go19, 0, none⟩) x8_3.length co19 : Value).ownBlock ∧ some k_ ≠ (.slice A53 y357.length c53 : Value).ownBlock)) HO_45.out (fun k_ hk => ⟨hk.1, (by rw [HE53.out]; exact hk.2)⟩))
              clear HO_45
              have HO_45 := n_
              clear n_
              go_wp2
              (try simp only [← hl8_2, ← hl8_3])
              go_roundg k3
              case measure => have := HJ3.out; have := HK2.out; have := HK3.out; omega
              case rel => exact ⟨(x8_3), (y357), H', ⟨by have := HJ3.out; have := HK2.out; have := HK3.out; omega⟩, ⟨by (try simp only [hl8_2]); (try simp only [hl8_3]); (with_reducible repeat (first | apply Kd.R_alloc | apply Kd.R_drewN | apply Kd.R_drew)); exact Kd.R_mono HO_8.out (fun _ hk => hk.1)⟩, ⟨by (try simp only [hl8_2]); (try simp only [hl8_3]); (with_reducible repeat (first | apply Kd.Q_alloc | apply Kd.Q_drewN | apply Kd.Q_drew)); exact Kd.Q_mono HO359.out (fun _ hk => hk.1)⟩, ⟨by (try simp only [hl8_2]); (try simp only [hl8_3]); (with_reducible repeat (first | refine blk_drewN ?_ _ | refine blk_drew ?_ | refine blk_alloc ?_ _)); exact BK332.out⟩, ⟨blw⟩⟩
             ·rw [if_neg c51] at H
              exact absurd H (by simp)
         ·rw [if_neg c30] at H
          exact absurd H (by simp)
        ·rw [if_neg c29] at H
         have c29b0 : decide (0 < (x9_2.length : Int)) = false := decide_eq_false c29
         have c29b1 : decide (0 < x9_2.length) = false := decide_eq_false (by omega)
         clear c29
         by_cases c54 : 0 ≤ a1
         ·rw [if_pos c54] at H
          have c54b0 : decide (0 ≤ a1) = true := decide_eq_true c54
          clear c54
          by_cases c55 : a1 < (x8_2.length : Int)
          ·rw [if_pos c55] at H
           have c55b0 : decide (a1 < (x8_2.length : Int)) = true := decide_eq_true c55
           clear c55
           by_cases c56 : (rd x8_2 a1) < 0
           ·rw [if_pos c56] at H
            have c56b0 : decide ((rd x8_2 a1) < 0) = true := decide_eq_true c56
            clear c56
            simp only [Option.some.injEq, Prod.mk.injEq] at H
            obtain ⟨rfl, rfl⟩ := H
            obtain ⟨Ao57, co57, eo57, _⟩ := Kd.Q_slice HO_9.out
            subst eo57
            have p360 : 0 ≤ (a1 : Int) := odt
            have q360 : a1 < (x8_2.length : Int) := odt
            obtain ⟨ad360, e360, hx360_0⟩ := Kd.at_int (Kd.R_reads' HO_8.out).2.2 a1 p360 q360
            obtain rfl : (⟨go19, 0, none⟩ : Addr) = ad360 := (by injection e360)
            (first | simp only [add_plain] at hx360_0 | simp only [add_at] at hx360_0 | simp only [Addr.add, Nat.zero_add] at hx360_0 | skip)
            replace p360 := eq_true p360
            replace q360 := eq_true q360
            go_wp2
            go_ret2
            exact ⟨_, by first | rfl | (simp [errW_none, errW_some] <;> rfl) | (simp [*, errW_none, errW_some] <;> rfl), by first | exact Kd.R_nil _ _ _ _ _ | exact Kd.N_nil _ _ _ _ _ | exact Kd.V_nil _ _ _ _ _ | exact Kd.Q_nil _ _ _ _ _ | exact Kd.S_nil _ _ _ _ _, blw⟩
           ·rw [if_neg c56] at H
            have c56b0 : decide ((rd x8_2 a1) < 0) = false := decide_eq_false c56
            clear c56
            obtain ⟨y361, hy361⟩ : ∃ y_ : List Int, y_ = (([a1] : List Int)) := ⟨_, rfl⟩
            replace H : (impl_FewestFaces.l2 k2 a2 x8_2 y361 a1 l0_0 l0_1) = some (r1, r2) := by first | (rw [hy361]; with_reducible exact H) | (have H2_ := (Option.bind_some _ _).symm.trans H; rw [hy361]; with_reducible exact H2_) | (have H2_ := (Option.bind_some _ _).symm.trans H; with_reducible exact H2_) | with_reducible exact H | (rw [hy361]; exact H) | exact H
            have Ny361 := Aside0.mk hy361
            clear hy361
            have H' := Aside0.mk H
            clear H
            obtain ⟨Ao58, co58, eo58, _⟩ := Kd.Q_slice HO_9.out
            subst eo58
            have p360 : 0 ≤ (a1 : Int) := odt
            have q360 : a1 < (x8_2.length : Int) := odt
            obtain ⟨ad360, e360, hx360_0⟩ := Kd.at_int (Kd.R_reads' HO_8.out).2.2 a1 p360 q360
            obtain rfl : (⟨go19, 0, none⟩ : Addr) = ad360 := (by injection e360)
            (first | simp only [add_plain] at hx360_0 | simp only [add_at] at hx360_0 | simp only [Addr.add, Nat.zero_add] at hx360_0 | skip)
            replace p360 := eq_true p360
            replace q360 := eq_true q360
            go_wp2_with (first | ((with_reducible refine gate_dst (N := 77) rfl ?_); refine Kd.R_lit (Kd.int .i64) _ 3 ?hg (N := 77) ?hd (xs := ([a1] : List Int)) (inner := [.int .i64 a1]) (ok := fun _ => True) (okp := fun _ => True) ?hr ?hp (fun _ hk => hk) trivial (Below.refl _ _) (Nat.le_refl _) (by simp) ?_; (case hd => rfl); (case hg => rfl); (case hr => first | (go_simp; done) | (go_simp; rfl)); (case hp => exact (Reps.one (show Kd.M (Kd.int .i64) _ _ _ a1 [.int .i64 a1] from rfl) (Reps.none _ _))); intro v362 w59 ho60 hb hg_ hnew_; clear hg_ hnew_; (first | rw [← Ny361.out] at ho60 | (simp only [Int.reduceToNat] at ho60; rw [← Ny361.out] at ho60)); have n0_ := Aside0.mk (Kd.R_elder' (by (with_reducible repeat (first | apply Kd.R_alloc | apply Kd.R_drewN | apply Kd.R_drew)); exact HO_8.out) (Kd.R_base ho60) hb); have n1_ := Aside0.mk (Kd.Q_elder' (by (with_reducible repeat (first | apply Kd.Q_alloc | apply Kd.Q_drewN | apply Kd.Q_drew)); exact HO_9.out) (Kd.R_base ho60) hb); have n2_ := Aside0.mk (Kd.R_lower (Kd.R_new' (Kd.R_new' ho60 (Kd.R_lt (by (with_reducible repeat (first | apply Kd.R_alloc | apply Kd.R_drewN | apply Kd.R_drew)); exact HO_8.out))) (Kd.Q_lt (by (with_reducible repeat (first | apply Kd.Q_alloc | apply Kd.Q_drewN | apply Kd.Q_drew)); exact HO_9.out))) (below_size blw)); have n3_ := Aside0.mk (blk_below (g := gb332) (o := .cells #[.slice A0_0 l0_0.length c0_0, .slice A0_1 l0_1.length c0_1] 30 (0, 0)) bkw hb); have n4_ := Aside0.mk (below_step blw hb); clear HO_8; clear HO_9; clear BK332; clear HB; have HO_8 := n0_; have HO_9 := n1_; have HO363 := n2_; have BK332 := n3_; have HB := n4_; clear n0_ n1_ n2_ n3_ n4_; clear hb ho60))
            go_loopg [12, 13] k2 (fun kq v12 v13 w' => ∃ (x12_3 : List Int) (x13_3 : Int), v13 = .int .i64 x13_3 ∧ Aside0 (impl_FewestFaces.l2 kq a2 x8_2 x12_3 x13_3 l0_0 l0_1 = some (r1, r2)) ∧ Aside0 (kq ≤ k2) ∧ Aside0 (Kd.R (Kd.int .i64) 3 w' w.heap.size (fun k_ => some k_ ≠ (v12 : Value).ownBlock) (.slice (some ⟨go19, 0, none⟩) x8_2.length co19) x8_2) ∧ Aside0 (Kd.R (Kd.int .i64) 3 w' w.heap.size (fun k_ => some k_ ≠ ((.slice (some ⟨go19, 0, none⟩) x8_2.length co19) : Value).ownBlock) v12 x12_3) ∧ Aside0 (w'.heap[gb332]? = some (.cells #[(.slice A0_0 l0_0.length c0_0), (.slice A0_1 l0_1.length c0_1)] 30 (0, 0))) ∧ Aside0 (Below w.heap.size w w'))
            case atStart => exact ⟨(y361), (a1), (by first | rfl | (simp; done) | (simp [*]; done)), H', ⟨Nat.le_refl _⟩, ⟨by (try simp only [hl8_2]); (with_reducible repeat (first | apply Kd.R_alloc | apply Kd.R_drewN | apply Kd.R_drew)); exact Kd.R_mono HO_8.out (fun _ hk => hk.2)⟩, ⟨by (try simp only [hl8_2]); (with_reducible repeat (first | apply Kd.R_alloc | apply Kd.R_drewN | apply Kd.R_drew)); exact Kd.R_mono HO363.out (fun _ hk => hk.1.2)⟩, ⟨by (try simp only [hl8_2]); (with_reducible repeat (first | refine blk_drewN ?_ _ | refine blk_drew ?_ | refine blk_alloc ?_ _)); exact BK332.out⟩, ⟨blw⟩⟩
            case round =>
             clear H'
             try clear c1
             try clear p1
             try clear q1
             try clear hx1
             try clear c2
             try clear p2
             try clear c3
             try clear p3
             try clear q3
             try clear hx3
             try clear qi3
             try clear c4
             try clear p4
             try clear q4
             try clear hx4
             try clear hf4
             try clear c5
             try clear q5
             try clear p6
             try clear c7
             try clear c15
             try clear c17
             try clear c17b0
             try clear c18
             try clear c18b0
             try clear p19
             try clear q19
             try clear hx19
             try clear hf19
             try clear c29
             try clear c29b0
             try clear c29b1
             try clear c30
             try clear c30b0
             try clear c30b1
             try clear p34
             try clear q34
             try clear hx34
             try clear qi34
             try clear p35
             try clear q35
             try clear hx35
             try clear qi35
             try clear c36
             try clear c36b0
             try clear p36
             try clear q36
             try clear hx36
             try clear c37
             try clear c37b0
             try clear c38
             try clear c38b0
             try clear c39
             try clear c39b0
             try clear c40
             try clear c40b0
             try clear c41
             try clear c41b0
             try clear c42
             try clear c42b0
             try clear c42b1
             try clear c43
             try clear c43b0
             try clear c44
             try clear c44b0
             try clear p45
             try clear q45
             try clear hx45
             try clear hf45
             try clear c46
             try clear c51
             try clear c51b0
             try clear c51b1
             try clear c53
             try clear q53
             try clear c54
             try clear c54b0
             try clear c55
             try clear c55b0
             try clear c56
             try clear c56b0
             try clear c59
             try clear hcz11_0
             try clear hcz11_1
             try clear hcz13_0
             try clear hcz13_1
             try clear hcz22_0
             try clear hcz22_1
             try clear hcz9_0
             try clear hcz9_1
             try clear hfz11_0
             try clear hfz11_1
             try clear hfz13_0
             try clear hfz13_1
             try clear hfz22_0
             try clear hfz22_1
             try clear hfz9_0
             try clear hfz9_1
             try clear hx19_0
             try clear hx345_0
             try clear hx349_0
             try clear hx350_0
             try clear hx351_0
             try clear hx352_0
             try clear hx360_0
             try clear hx45_0
             try clear p1
             try clear p19
             try clear p2
             try clear p3
             try clear p34
             try clear p345
             try clear p349
             try clear p350
             try clear p351
             try clear p352
             try clear p360
             try clear p45
             try clear q1
             try clear q19
             try clear q3
             try clear q34
             try clear q345
             try clear q349
             try clear q350
             try clear q351
             try clear q352
             try clear q360
             try clear q45
             try clear q53
             obtain ⟨x12_3, x13_3, rfl, HA, HK3, HO_8, HO_12, BK332, HB⟩ := hrel
             cases gk with
             | zero => exact absurd HA.out (by simp [impl_FewestFaces.l2])
             | succ k3 =>
              have H := HA.out
              clear HA
              simp only [impl_FewestFaces.l2] at H
              by_cases c61 : x13_3 = a2
              ·rw [if_pos c61] at H
               have c61b0 : (x13_3 == a2) = true := beq_iff_eq.mpr c61
               have c61b1 : (x13_3 != a2) = false := bne_eq_false_iff_eq.mpr c61
               clear c61
               simp only [Option.some.injEq, Prod.mk.injEq] at H
               obtain ⟨rfl, rfl⟩ := H
               go_wp2
               go_ret2
               exact ⟨_, by first | rfl | (simp [errW_none, errW_some] <;> rfl) | (simp [*, errW_none, errW_some] <;> rfl), by (with_reducible repeat (first | apply Kd.R_alloc | apply Kd.R_drewN | apply Kd.R_drew)); exact Kd.R_mono HO_12.out (fun _ hk => trivial), blw⟩
              ·rw [if_neg c61] at H
               have c61b0 : (x13_3 == a2) = false := beq_eq_false_iff_ne.mpr c61
               have c61b1 : (x13_3 != a2) = true := bne_iff_ne.mpr c61
               replace H := Option.bind_eq_some_iff.mp H
               obtain ⟨t364, A620, H⟩ := H
               replace H : (impl_FewestFaces.l3 k3 a2 x8_2 x12_3 x13_3 t364 (t364.length : Int) 0 l0_0 l0_1) = some (r1, r2) := H
               have A62 := Aside0.mk A620
               clear A620
               have H' := Aside0.mk H
               clear H
               have hcz63_0 : wr.cell? ⟨gb332, 0, none⟩ = some (.slice A0_0 l0_0.length c0_0) := (blk_cell BK332.out 0).trans rfl
               have hcz63_1 : wr.cell? ⟨gb332, 1, none⟩ = some (.slice A0_1 l0_1.length c0_1) := (blk_cell BK332.out 1).trans rfl
               have hfz63_0 := blk_frozen BK332.out 0
               have hfz63_1 := blk_frozen BK332.out 1
               go_wp2_with (first | ((with_reducible refine gate_callee (f := 55) rfl ?_); refine goesL_ (some 84) rfl rfl Try.func55 (by kernel_rfl) rfl #[.agg #[.slice A0_0 l0_0.length c0_0, .slice A0_1 l0_1.length c0_1], .int .i64 x13_3] rfl (by (try simp only [List.map_toArray, List.map_cons, List.map_nil]); first | done | rfl | (simp only [List.length_drop, List.length_take]; rfl)) ?_; (with_reducible refine (impl_Ground_beside.calls k3 _ _ l0_0 _ _ l0_1 x13_3 t364 _ ?side1 ?side2 ?side3 ?side4 A62.out).mono ?_); (case side1 => repeat (first | exact (Kd.C_below HR0_0.out HB.out) | (with_reducible refine Kd.C_alloc ?_ _) | (with_reducible refine Kd.C_drewN ?_ _) | (with_reducible refine Kd.C_drew ?_))); (case side2 => exact HC0_0.out); (case side3 => repeat (first | exact (Kd.C_below HR0_1.out HB.out) | (with_reducible refine Kd.C_alloc ?_ _) | (with_reducible refine Kd.C_drewN ?_ _) | (with_reducible refine Kd.C_drew ?_))); (case side4 => exact HC0_1.out); rintro e w64 ⟨v365, rfl, ho0, hb⟩; refine ⟨_, rfl, ?_⟩; have n0_ := Aside0.mk (Kd.R_elder' (by (with_reducible repeat (first | apply Kd.R_alloc | apply Kd.R_drewN | apply Kd.R_drew)); exact HO_8.out) (Kd.R_base ho0) hb); have n1_ := Aside0.mk (Kd.R_elder' (by (with_reducible repeat (first | apply Kd.R_alloc | apply Kd.R_drewN | apply Kd.R_drew)); exact HO_12.out) (Kd.R_base ho0) hb); have n2_ := Aside0.mk (Kd.R_lower (Kd.R_new' (Kd.R_new' ho0 (Kd.R_lt (by (with_reducible repeat (first | apply Kd.R_alloc | apply Kd.R_drewN | apply Kd.R_drew)); exact HO_8.out))) (Kd.R_lt (by (with_reducible repeat (first | apply Kd.R_alloc | apply Kd.R_drewN | apply Kd.R_drew)); exact HO_12.out))) (below_size blw)); have n3_ := Aside0.mk (blk_below (g := gb332) (o := .cells #[.slice A0_0 l0_0.length c0_0, .slice A0_1 l0_1.length c0_1] 30 (0, 0)) bkw hb); have n4_ := Aside0.mk (below_step blw hb); clear HO_8; clear HO_12; clear BK332; clear HB; have HO_8 := n0_; have HO_12 := n1_; have HO366 := n2_; have BK332 := n3_; have HB := n4_; clear n0_ n1_ n2_ n3_ n4_; (try clear hb); (try clear hb2); (try clear hk); (try clear hi); (try clear ho0); obtain ⟨Ao65, co65, eo65⟩ := Kd.R_slice HO366.out; subst eo65))
               go_loopg [13, 86] k3 (fun kq v13 v86 w' => ∃ (x13_4 : Int) (x86_4 : Int), v13 = .int .i64 x13_4 ∧ v86 = .int .i64 x86_4 ∧ Aside0 (impl_FewestFaces.l3 kq a2 x8_2 x12_3 x13_4 t364 (t364.length : Int) x86_4 l0_0 l0_1 = some (r1, r2)) ∧ Aside0 (kq ≤ k3) ∧ Aside0 (Kd.R (Kd.int .i64) 3 w' w.heap.size (fun k_ => some k_ ≠ (u12 : Value).ownBlock ∧ some k_ ≠ ((.slice Ao65 t364.length co65) : Value).ownBlock) (.slice (some ⟨go19, 0, none⟩) x8_2.length co19) x8_2) ∧ Aside0 (Kd.R (Kd.int .i64) 3 w' w.heap.size (fun k_ => some k_ ≠ ((.slice (some ⟨go19, 0, none⟩) x8_2.length co19) : Value).ownBlock ∧ some k_ ≠ ((.slice Ao65 t364.length co65) : Value).ownBlock) u12 x12_3) ∧ Aside0 (Kd.R (Kd.int .i64) 3 w' w.heap.size (fun k_ => some k_ ≠ ((.slice (some ⟨go19, 0, none⟩) x8_2.length co19) : Value).ownBlock ∧ some k_ ≠ (u12 : Value).ownBlock) (.slice Ao65 t364.length co65) t364) ∧ Aside0 (w'.heap[gb332]? = some (.cells #[(.slice A0_0 l0_0.length c0_0), (.slice A0_1 l0_1.length c0_1)] 30 (0, 0))) ∧ Aside0 (Below w.heap.size w w'))
               case atStart => exact ⟨(x13_3), (0), (by first | rfl | (simp; done) | (simp [*]; done)), (by first | rfl | (simp; done) | (simp [*]; done)), H', ⟨Nat.le_refl _⟩, ⟨by (try simp only [hl8_2]); (with_reducible repeat (first | apply Kd.R_alloc | apply Kd.R_drewN | apply Kd.R_drew)); exact HO_8.out⟩, ⟨by (try simp only [hl8_2]); (with_reducible repeat (first | apply Kd.R_alloc | apply Kd.R_drewN | apply Kd.R_drew)); exact HO_12.out⟩, ⟨by (try simp only [hl8_2]); (with_reducible repeat (first | apply Kd.R_alloc | apply Kd.R_drewN | apply Kd.R_drew)); exact Kd.R_mono HO366.out (fun _ hk => ⟨hk.1.2, hk.2⟩)⟩, ⟨by (try simp only [hl8_2]); (with_reducible repeat (first | refine blk_drewN ?_ _ | refine blk_drew ?_ | refine blk_alloc ?_ _)); exact BK332.out⟩, ⟨blw⟩⟩
               case round =>
                clear H'
                try clear c1
                try clear p1
                try clear q1
                try clear hx1
                try clear c2
                try clear p2
                try clear c3
                try clear p3
                try clear q3
                try clear hx3
                try clear qi3
                try clear c4
                try clear p4
                try clear q4
                try clear hx4
                try clear hf4
                try clear c5
                try clear q5
                try clear c6
                try clear p6
                try clear c7
                try clear c15
                try clear c17
                try clear c17b0
                try clear c18
                try clear c18b0
                try clear p19
                try clear q19
                try clear hx19
                try clear hf19
                try clear c29
                try clear c29b0
                try clear c29b1
                try clear c30
                try clear c30b0
                try clear c30b1
                try clear p34
                try clear q34
                try clear hx34
                try clear qi34
                try clear p35
                try clear q35
                try clear hx35
                try clear qi35
                try clear c36
                try clear c36b0
                try clear p36
                try clear q36
                try clear hx36
                try clear c37
                try clear c37b0
                try clear c38
                try clear c38b0
                try clear c39
                try clear c39b0
                try clear c40
                try clear c40b0
                try clear c41
                try clear c41b0
                try clear c42
                try clear c42b0
                try clear c42b1
                try clear c43
                try clear c43b0
                try clear c44
                try clear c44b0
                try clear p45
                try clear q45
                try clear hx45
                try clear hf45
                try clear c46
                try clear c51
                try clear c51b0
                try clear c51b1
                try clear c53
                try clear q53
                try clear c54
                try clear c54b0
                try clear c55
                try clear c55b0
                try clear c56
                try clear c56b0
                try clear c59
                try clear c61
                try clear c61b0
                try clear c61b1
                try clear p64
                try clear hcz11_0
                try clear hcz11_1
                try clear hcz13_0
                try clear hcz13_1
                try clear hcz22_0
                try clear hcz22_1
                try clear hcz63_0
                try clear hcz63_1
                try clear hcz9_0
                try clear hcz9_1
                try clear hfz11_0
                try clear hfz11_1
                try clear hfz13_0
                try clear hfz13_1
                try clear hfz22_0
                try clear hfz22_1
                try clear hfz63_0
                try clear hfz63_1
                try clear hfz9_0
                try clear hfz9_1
                try clear hx19_0
                try clear hx345_0
                try clear hx349_0
                try clear hx350_0
                try clear hx351_0
                try clear hx352_0
                try clear hx360_0
                try clear hx45_0
                try clear p1
                try clear p19
                try clear p2
                try clear p3
                try clear p34
                try clear p345
                try clear p349
                try clear p35
                try clear p350
                try clear p351
                try clear p352
                try clear p36
                try clear p360
                try clear p4
                try clear p45
                try clear p6
                try clear q1
                try clear q19
                try clear q3
                try clear q34
                try clear q345
                try clear q349
                try clear q35
                try clear q350
                try clear q351
                try clear q352
                try clear q36
                try clear q360
                try clear q4
                try clear q45
                try clear q5
                try clear q53
                obtain ⟨x13_4, x86_4, rfl, rfl, HA, HK4, HO_8, HO_12, HO_84, BK332, HB⟩ := hrel
                cases gk with
                | zero => exact absurd HA.out (by simp [impl_FewestFaces.l3])
                | succ k4 =>
                 have H := HA.out
                 clear HA
                 simp only [impl_FewestFaces.l3] at H
                 by_cases c66 : x86_4 < (t364.length : Int)
                 ·rw [if_pos c66] at H
                  have c66b0 : decide (x86_4 < (t364.length : Int)) = true := decide_eq_true c66
                  clear c66
                  by_cases c67 : 0 ≤ x86_4
                  ·rw [if_pos c67] at H
                   have c67b0 : decide (0 ≤ x86_4) = true := decide_eq_true c67
                   clear c67
                   by_cases c68 : x86_4 < (t364.length : Int)
                   ·rw [if_pos c68] at H
                    have c68b0 : decide (x86_4 < (t364.length : Int)) = true := decide_eq_true c68
                    clear c68
                    by_cases c69 : 0 ≤ (rd t364 x86_4)
                    ·rw [if_pos c69] at H
                     have c69b0 : decide (0 ≤ (rd t364 x86_4)) = true := decide_eq_true c69
                     clear c69
                     by_cases c70 : (rd t364 x86_4) < (x8_2.length : Int)
                     ·rw [if_pos c70] at H
                      have c70b0 : decide ((rd t364 x86_4) < (x8_2.length : Int)) = true := decide_eq_true c70
                      clear c70
                      by_cases c71 : 0 ≤ x13_4
                      ·rw [if_pos c71] at H
                       have c71b0 : decide (0 ≤ x13_4) = true := decide_eq_true c71
                       clear c71
                       by_cases c72 : x13_4 < (x8_2.length : Int)
                       ·rw [if_pos c72] at H
                        have c72b0 : decide (x13_4 < (x8_2.length : Int)) = true := decide_eq_true c72
                        clear c72
                        by_cases c73 : (rd x8_2 (rd t364 x86_4)) = (wrap64 ((rd x8_2 x13_4) - 1))
                        ·rw [if_pos c73] at H
                         have c73b0 : ((rd x8_2 (rd t364 x86_4)) == (wrap64 ((rd x8_2 x13_4) - 1))) = true := beq_iff_eq.mpr c73
                         have c73b1 : ((rd x8_2 (rd t364 x86_4)) != (wrap64 ((rd x8_2 x13_4) - 1))) = false := bne_eq_false_iff_eq.mpr c73
                         clear c73
                         by_cases c74 : x12_3.length < 17592186044416
                         ·rw [if_pos c74] at H
                          have LMc74 := Aside0.mk c74
                          clear c74
                          obtain ⟨y370, hy370⟩ : ∃ y_ : List Int, y_ = (x12_3 ++ [rd t364 x86_4]) := ⟨_, rfl⟩
                          replace H : (impl_FewestFaces.l2 k4 a2 x8_2 y370 (rd t364 x86_4) l0_0 l0_1) = some (r1, r2) := by first | (rw [hy370]; with_reducible exact H) | (have H2_ := (Option.bind_some _ _).symm.trans H; rw [hy370]; with_reducible exact H2_) | (have H2_ := (Option.bind_some _ _).symm.trans H; with_reducible exact H2_) | with_reducible exact H | (rw [hy370]; exact H) | exact H
                          have Ny370 := Aside0.mk hy370
                          clear hy370
                          have H' := Aside0.mk H
                          clear H
                          have p367 : 0 ≤ (x86_4 : Int) := odt
                          have q367 : x86_4 < (t364.length : Int) := odt
                          obtain ⟨ad367, e367, hx367_0⟩ := Kd.at_int (Kd.R_reads' HO_84.out).2.2 x86_4 p367 q367
                          cases e367
                          replace p367 := eq_true p367
                          replace q367 := eq_true q367
                          try go_wp2
                          have n0_ := Aside0.mk (Kd.R_drew HO_8.out)
                          have n1_ := Aside0.mk (Kd.R_drew HO_12.out)
                          have n2_ := Aside0.mk (Kd.R_drew HO_84.out)
                          have n3_ := Aside0.mk (blk_drew BK332.out)
                          have n4_ := Aside0.mk (below_drew1 HB.out)
                          clear HO_8
                          clear HO_12
                          clear HO_84
                          clear BK332
                          clear HB
                          have HO_8 := n0_
                          have HO_12 := n1_
                          have HO_84 := n2_
                          have BK332 := n3_
                          have HB := n4_
                          clear n0_ n1_ n2_ n3_ n4_
                          have p368 : 0 ≤ ((rd t364 x86_4) : Int) := odt
                          have q368 : (rd t364 x86_4) < (x8_2.length : Int) := odt
                          obtain ⟨ad368, e368, hx368_0⟩ := Kd.at_int (Kd.R_reads' HO_8.out).2.2 (rd t364 x86_4) p368 q368
                          obtain rfl : (⟨go19, 0, none⟩ : Addr) = ad368 := (by injection e368)
                          (first | simp only [add_plain] at hx368_0 | simp only [add_at] at hx368_0 | simp only [Addr.add, Nat.zero_add] at hx368_0 | skip)
                          replace p368 := eq_true p368
                          replace q368 := eq_true q368
                          have p369 : 0 ≤ (x13_4 : Int) := odt
                          have q369 : x13_4 < (x8_2.length : Int) := odt
                          obtain ⟨ad369, e369, hx369_0⟩ := Kd.at_int (Kd.R_reads' HO_8.out).2.2 x13_4 p369 q369
                          obtain rfl : (⟨go19, 0, none⟩ : Addr) = ad369 := (by injection e369)
                          (first | simp only [add_plain] at hx369_0 | simp only [add_at] at hx369_0 | simp only [Addr.add, Nat.zero_add] at hx369_0 | skip)
                          replace p369 := eq_true p369
                          replace q369 := eq_true q369
                          refine start_ (n := 10) (S := fun w' => w'.cell? ⟨go19, ((rd t364 x86_4)).toNat, none⟩ = some (.int .i64 (rd x8_2 (rd t364 x86_4))) ∧ w'.cell? ⟨go19, (x13_4).toNat, none⟩ = some (.int .i64 (rd x8_2 x13_4))) (ds := []) #[false, false, false, false, false, false, false, false, false, false] (by kernel_rfl) rfl rfl ⟨hx368_0, hx369_0⟩ (fun hHeld => ?_); refine with_tabW impl_FewestFaces.tab23 impl_FewestFaces.bits23 (fun HT_ HW_ => ?_)
                          generalize wr.drew = w75 at HO_8 HO_12 HO_84 BK332 HB hx368_0 hx369_0 hHeld ⊢
                          refine pure_ (i := 0) (N := some 90) (v := ?_) (a' := ?_) #[true, false, false, false, false, false, false, false, false, false] rfl rfl (any_of HT_.out (by kernel_rfl)) (fun _ _ _ h => h) (Or.inl ⟨by rfl, ?_⟩) ?_ ?_
                          rotate_left
                          ·intro w'
                           go_simp
                           with_reducible rfl
                          rotate_left
                          ·simp only [Act.put, sp1, sp2, sp3, i64_w, i32_w]
                           rfl
                          refine pure_ (i := 1) (N := some 91) (v := ?_) (a' := ?_) #[true, true, false, false, false, false, false, false, false, false] rfl rfl (any_of HT_.out (by kernel_rfl)) (fun _ _ _ h => h) (Or.inl ⟨by rfl, ?_⟩) ?_ ?_
                          rotate_left
                          ·intro w'
                           go_simp
                           with_reducible rfl
                          rotate_left
                          ·simp only [Act.put, sp1, sp2, sp3, i64_w, i32_w]
                           rfl
                          refine pure_ (i := 2) (N := some 92) (v := ?_) (a' := ?_) #[true, true, true, false, false, false, false, false, false, false] rfl rfl (any_of HT_.out (by kernel_rfl)) (fun _ _ _ h => h) (Or.inl ⟨by rfl, ?_⟩) ?_ ?_
                          rotate_left
                          ·intro w'
                           go_simp
                           with_reducible rfl
                          rotate_left
                          ·simp only [Act.put, sp1, sp2, sp3, i64_w, i32_w]
                           rfl
                          refine pure_ (i := 4) (N := some 94) (v := ?_) (a' := ?_) #[true, true, true, false, true, false, false, false, false, false] rfl rfl (any_of HT_.out (by kernel_rfl)) (fun _ _ _ h => h) (Or.inl ⟨by rfl, ?_⟩) ?_ ?_
                          rotate_left
                          ·intro w'
                           go_simp
                           with_reducible rfl
                          rotate_left
                          ·simp only [Act.put, sp1, sp2, sp3, i64_w, i32_w]
                           rfl
                          refine pure_ (i := 5) (N := some 95) (v := ?_) (a' := ?_) #[true, true, true, false, true, true, false, false, false, false] rfl rfl (any_of HT_.out (by kernel_rfl)) (fun _ _ _ h => h) (Or.inl ⟨by rfl, ?_⟩) ?_ ?_
                          rotate_left
                          ·intro w'
                           go_simp
                           with_reducible rfl
                          rotate_left
                          ·simp only [Act.put, sp1, sp2, sp3, i64_w, i32_w]
                           rfl
                          refine pure_ (i := 6) (N := some 96) (v := ?_) (a' := ?_) #[true, true, true, false, true, true, true, false, false, false] rfl rfl (any_of HT_.out (by kernel_rfl)) (fun _ _ _ h => h) (Or.inl ⟨by rfl, ?_⟩) ?_ ?_
                          rotate_left
                          ·intro w'
                           go_simp
                           with_reducible rfl
                          rotate_left
                          ·simp only [Act.put, sp1, sp2, sp3, i64_w, i32_w]
                           rfl
                          refine take_ (i := 3) (N := some 93) (v := ?_) (a' := ?_) #[true, true, true, true, true, true, true, false, false, false] rfl rfl (take_ofW HT_.out HW_.out (by kernel_rfl)) (fun _ _ _ h => h) (Or.inl ⟨by rfl, ?_⟩) hHeld ?_ ?_
                          rotate_left
                          ·rintro w' ⟨s0, s1⟩
                           go_simp
                           with_reducible rfl
                          rotate_left
                          ·simp only [Act.put, sp1, sp2, sp3, i64_w, i32_w]
                           rfl
                          refine take_ (i := 7) (N := some 97) (v := ?_) (a' := ?_) #[true, true, true, true, true, true, true, true, false, false] rfl rfl (take_ofW HT_.out HW_.out (by kernel_rfl)) (fun _ _ _ h => h) (Or.inl ⟨by rfl, ?_⟩) hHeld ?_ ?_
                          rotate_left
                          ·rintro w' ⟨s0, s1⟩
                           go_simp
                           with_reducible rfl
                          rotate_left
                          ·simp only [Act.put, sp1, sp2, sp3, i64_w, i32_w]
                           rfl
                          refine pure_ (i := 8) (N := some 98) (v := ?_) (a' := ?_) #[true, true, true, true, true, true, true, true, true, false] rfl rfl (any_of HT_.out (by kernel_rfl)) (fun _ _ _ h => h) (Or.inl ⟨by rfl, ?_⟩) ?_ ?_
                          rotate_left
                          ·intro w'
                           go_simp
                           with_reducible rfl
                          rotate_left
                          ·simp only [Act.put, sp1, sp2, sp3, i64_w, i32_w]
                           rfl
                          refine pure_ (i := 9) (N := some 99) (v := ?_) (a' := ?_) #[true, true, true, true, true, true, true, true, true, true] rfl rfl (any_of HT_.out (by kernel_rfl)) (fun _ _ _ h => h) (Or.inl ⟨by rfl, ?_⟩) ?_ ?_
                          rotate_left
                          ·intro w'
                           go_simp
                           with_reducible rfl
                          rotate_left
                          ·simp only [Act.put, sp1, sp2, sp3, i64_w, i32_w]
                           rfl
                          refine done_ (done_of HT_.out (by kernel_rfl)) ?_
                          try go_wp2_with (first | ((with_reducible refine gate_builtin (b := .append) (xs := #[.tmp 102, .tmp 104]) rfl ?_); at_builtin; refine Kd.R_append (Kd.int .i64) (w0 := w) w.heap.size rfl (.tmp 102) (.tmp 104) 36 3 (.int .i64 0) 8 rfl Try.underlying36 info3 rfl (by decide) (by omega) u12 x12_3 (rd t364 x86_4) [.int .i64 (rd t364 x86_4)] (fun k_ => some k_ ≠ (.slice (some ⟨go19, 0, none⟩) x8_2.length co19 : Value).ownBlock ∧ some k_ ≠ (.slice (some ad367) t364.length co65 : Value).ownBlock) (fun _ => False) rfl rfl ?aP (fun _ hk => hk.elim) ?aF ?aO ?aB ?aS ?aL ?_; (case aP => exact rfl); (case aB => exact blw); (case aF => exact (fun k_ hk => ⟨Kd.fresh' (Kd.R_lt (by (with_reducible repeat (first | apply Kd.R_alloc | apply Kd.R_drewN | apply Kd.R_drew)); exact HO_8.out)) k_ hk, Kd.fresh' (Kd.R_lt (by (with_reducible repeat (first | apply Kd.R_alloc | apply Kd.R_drewN | apply Kd.R_drew)); exact HO_84.out)) k_ hk⟩)); (case aO => exact (by (with_reducible repeat (first | apply Kd.R_alloc | apply Kd.R_drewN | apply Kd.R_drew)); exact HO_12.out)); (case aS => exact (below_size blw)); (case aL => have := LMc74.out; omega); intro v371 w76 ho hb hg hat; rw [← Ny370.out] at ho; have n0_ := Aside0.mk (Kd.R_after (ok := (fun k_ => some k_ ≠ (.slice (some ad367) t364.length co65 : Value).ownBlock)) (by (with_reducible repeat (first | apply Kd.R_alloc | apply Kd.R_drewN | apply Kd.R_drew)); exact Kd.R_mono HO_8.out (fun _ hk => ⟨hk.2, hk.1⟩)) hg hat); have n1_ := Aside0.mk (Kd.R_after (ok := (fun k_ => some k_ ≠ (.slice (some ⟨go19, 0, none⟩) x8_2.length co19 : Value).ownBlock)) (by (with_reducible repeat (first | apply Kd.R_alloc | apply Kd.R_drewN | apply Kd.R_drew)); exact HO_84.out) hg hat); have n2_ := Aside0.mk (blk_grown (g := gb332) (o := .cells #[.slice A0_0 l0_0.length c0_0, .slice A0_1 l0_1.length c0_1] 30 (0, 0)) bkw hg (Kd.R_ne HO_12.out BK332.out (by decide))); have n3_ := Aside0.mk (hb); have n4_ := Aside0.mk (ho); clear HO_8; clear HO_84; clear BK332; clear HB; clear HO_12; have HO_8 := n0_; have HO_84 := n1_; have BK332 := n2_; have HB := n3_; have HO372 := n4_; clear n0_ n1_ n2_ n3_ n4_; clear ho hb hg hat))
                          go_roundg k4
                          case measure => have := HJ3.out; have := HK2.out; have := HK3.out; have := HK4.out; omega
                          case rel => exact ⟨(y370), (rd t364 x86_4), (by first | rfl | (simp; done) | (simp [*]; done)), H', ⟨by have := HJ3.out; have := HK2.out; have := HK3.out; have := HK4.out; omega⟩, ⟨by (try simp only [hl8_2]); (with_reducible repeat (first | apply Kd.R_alloc | apply Kd.R_drewN | apply Kd.R_drew)); exact Kd.R_mono HO_8.out (fun _ hk => hk.2)⟩, ⟨by (try simp only [hl8_2]); (with_reducible repeat (first | apply Kd.R_alloc | apply Kd.R_drewN | apply Kd.R_drew)); exact Kd.R_mono HO372.out (fun _ hk => hk.1)⟩, ⟨by (try simp only [hl8_2]); (with_reducible repeat (first | refine blk_drewN ?_ _ | refine blk_drew ?_ | refine blk_alloc ?_ _)); exact BK332.out⟩, ⟨blw⟩⟩
                         ·rw [if_neg c74] at H
                          exact absurd H (by simp)
                        ·rw [if_neg c73] at H
                         have c73b0 : ((rd x8_2 (rd t364 x86_4)) == (wrap64 ((rd x8_2 x13_4) - 1))) = false := beq_eq_false_iff_ne.mpr c73
                         have c73b1 : ((rd x8_2 (rd t364 x86_4)) != (wrap64 ((rd x8_2 x13_4) - 1))) = true := bne_iff_ne.mpr c73
                         have H' := Aside0.mk H
                         clear H
                         have p367 : 0 ≤ (x86_4 : Int) := odt
                         have q367 : x86_4 < (t364.length : Int) := odt
                         obtain ⟨ad367, e367, hx367_0⟩ := Kd.at_int (Kd.R_reads' HO_84.out).2.2 x86_4 p367 q367
                         cases e367
                         replace p367 := eq_true p367
                         replace q367 := eq_true q367
                         try go_wp2
                         have n0_ := Aside0.mk (Kd.R_drew HO_8.out)
                         have n1_ := Aside0.mk (Kd.R_drew HO_12.out)
                         have n2_ := Aside0.mk (Kd.R_drew HO_84.out)
                         have n3_ := Aside0.mk (blk_drew BK332.out)
                         have n4_ := Aside0.mk (below_drew1 HB.out)
                         clear HO_8
                         clear HO_12
                         clear HO_84
                         clear BK332
                         clear HB
                         have HO_8 := n0_
                         have HO_12 := n1_
                         have HO_84 := n2_
                         have BK332 := n3_
                         have HB := n4_
                         clear n0_ n1_ n2_ n3_ n4_
                         have p368 : 0 ≤ ((rd t364 x86_4) : Int) := odt
                         have q368 : (rd t364 x86_4) < (x8_2.length : Int) := odt
                         obtain ⟨ad368, e368, hx368_0⟩ := Kd.at_int (Kd.R_reads' HO_8.out).2.2 (rd t364 x86_4) p368 q368
                         obtain rfl : (⟨go19, 0, none⟩ : Addr) = ad368 := (by injection e368)
                         (first | simp only [add_plain] at hx368_0 | simp only [add_at] at hx368_0 | simp only [Addr.add, Nat.zero_add] at hx368_0 | skip)
                         replace p368 := eq_true p368
                         replace q368 := eq_true q368
                         have p369 : 0 ≤ (x13_4 : Int) := odt
                         have q369 : x13_4 < (x8_2.length : Int) := odt
                         obtain ⟨ad369, e369, hx369_0⟩ := Kd.at_int (Kd.R_reads' HO_8.out).2.2 x13_4 p369 q369
                         obtain rfl : (⟨go19, 0, none⟩ : Addr) = ad369 := (by injection e369)
                         (first | simp only [add_plain] at hx369_0 | simp only [add_at] at hx369_0 | simp only [Addr.add, Nat.zero_add] at hx369_0 | skip)
                         replace p369 := eq_true p369
                         replace q369 := eq_true q369
                         refine start_ (n := 10) (S := fun w' => w'.cell? ⟨go19, ((rd t364 x86_4)).toNat, none⟩ = some (.int .i64 (rd x8_2 (rd t364 x86_4))) ∧ w'.cell? ⟨go19, (x13_4).toNat, none⟩ = some (.int .i64 (rd x8_2 x13_4))) (ds := []) #[false, false, false, false, false, false, false, false, false, false] (by kernel_rfl) rfl rfl ⟨hx368_0, hx369_0⟩ (fun hHeld => ?_); refine with_tabW impl_FewestFaces.tab23 impl_FewestFaces.bits23 (fun HT_ HW_ => ?_)
                         generalize wr.drew = w77 at HO_8 HO_12 HO_84 BK332 HB hx368_0 hx369_0 hHeld ⊢
                         refine pure_ (i := 0) (N := some 90) (v := ?_) (a' := ?_) #[true, false, false, false, false, false, false, false, false, false] rfl rfl (any_of HT_.out (by kernel_rfl)) (fun _ _ _ h => h) (Or.inl ⟨by rfl, ?_⟩) ?_ ?_
                         rotate_left
                         ·intro w'
                          go_simp
                          with_reducible rfl
                         rotate_left
                         ·simp only [Act.put, sp1, sp2, sp3, i64_w, i32_w]
                          rfl
                         refine pure_ (i := 1) (N := some 91) (v := ?_) (a' := ?_) #[true, true, false, false, false, false, false, false, false, false] rfl rfl (any_of HT_.out (by kernel_rfl)) (fun _ _ _ h => h) (Or.inl ⟨by rfl, ?_⟩) ?_ ?_
                         rotate_left
                         ·intro w'
                          go_simp
                          with_reducible rfl
                         rotate_left
                         ·simp only [Act.put, sp1, sp2, sp3, i64_w, i32_w]
                          rfl
                         refine pure_ (i := 2) (N := some 92) (v := ?_) (a' := ?_) #[true, true, true, false, false, false, false, false, false, false] rfl rfl (any_of HT_.out (by kernel_rfl)) (fun _ _ _ h => h) (Or.inl ⟨by rfl, ?_⟩) ?_ ?_
                         rotate_left
                         ·intro w'
                          go_simp
                          with_reducible rfl
                         rotate_left
                         ·simp only [Act.put, sp1, sp2, sp3, i64_w, i32_w]
                          rfl
                         refine pure_ (i := 4) (N := some 94) (v := ?_) (a' := ?_) #[true, true, true, false, true, false, false, false, false, false] rfl rfl (any_of HT_.out (by kernel_rfl)) (fun _ _ _ h => h) (Or.inl ⟨by rfl, ?_⟩) ?_ ?_
                         rotate_left
                         ·intro w'
                          go_simp
                          with_reducible rfl
                         rotate_left
                         ·simp only [Act.put, sp1, sp2, sp3, i64_w, i32_w]
                          rfl
                         refine pure_ (i := 5) (N := some 95) (v := ?_) (a' := ?_) #[true, true, true, false, true, true, false, false, false, false] rfl rfl (any_of HT_.out (by kernel_rfl)) (fun _ _ _ h => h) (Or.inl ⟨by rfl, ?_⟩) ?_ ?_
                         rotate_left
                         ·intro w'
                          go_simp
                          with_reducible rfl
                         rotate_left
                         ·simp only [Act.put, sp1, sp2, sp3, i64_w, i32_w]
                          rfl
                         refine pure_ (i := 6) (N := some 96) (v := ?_) (a' := ?_) #[true, true, true, false, true, true, true, false, false, false] rfl rfl (any_of HT_.out (by kernel_rfl)) (fun _ _ _ h => h) (Or.inl ⟨by rfl, ?_⟩) ?_ ?_
                         rotate_left
                         ·intro w'
                          go_simp
                          with_reducible rfl
                         rotate_left
                         ·simp only [Act.put, sp1, sp2, sp3, i64_w, i32_w]
                          rfl
                         refine take_ (i := 3) (N := some 93) (v := ?_) (a' := ?_) #[true, true, true, true, true, true, true, false, false, false] rfl rfl (take_ofW HT_.out HW_.out (by kernel_rfl)) (fun _ _ _ h => h) (Or.inl ⟨by rfl, ?_⟩) hHeld ?_ ?_
                         rotate_left
                         ·rintro w' ⟨s0, s1⟩
                          go_simp
                          with_reducible rfl
                         rotate_left
                         ·simp only [Act.put, sp1, sp2, sp3, i64_w, i32_w]
                          rfl
                         refine take_ (i := 7) (N := some 97) (v := ?_) (a' := ?_) #[true, true, true, true, true, true, true, true, false, false] rfl rfl (take_ofW HT_.out HW_.out (by kernel_rfl)) (fun _ _ _ h => h) (Or.inl ⟨by rfl, ?_⟩) hHeld ?_ ?_
                         rotate_left
                         ·rintro w' ⟨s0, s1⟩
                          go_simp
                          with_reducible rfl
                         rotate_left
                         ·simp only [Act.put, sp1, sp2, sp3, i64_w, i32_w]
                          rfl
                         refine pure_ (i := 8) (N := some 98) (v := ?_) (a' := ?_) #[true, true, true, true, true, true, true, true, true, false] rfl rfl (any_of HT_.out (by kernel_rfl)) (fun _ _ _ h => h) (Or.inl ⟨by rfl, ?_⟩) ?_ ?_
                         rotate_left
                         ·intro w'
                          go_simp
                          with_reducible rfl
                         rotate_left
                         ·simp only [Act.put, sp1, sp2, sp3, i64_w, i32_w]
                          rfl
                         refine pure_ (i := 9) (N := some 99) (v := ?_) (a' := ?_) #[true, true, true, true, true, true, true, true, true, true] rfl rfl (any_of HT_.out (by kernel_rfl)) (fun _ _ _ h => h) (Or.inl ⟨by rfl, ?_⟩) ?_ ?_
                         rotate_left
                         ·intro w'
                          go_simp
                          with_reducible rfl
                         rotate_left
                         ·simp only [Act.put, sp1, sp2, sp3, i64_w, i32_w]
                          rfl
                         refine done_ (done_of HT_.out (by kernel_rfl)) ?_
                         try go_wp2
                         go_roundg k4
                         case measure => have := HJ3.out; have := HK2.out; have := HK3.out; have := HK4.out; omega
                         case rel => exact ⟨(x13_4), (wrap64 (x86_4 + 1)), (by first | rfl | (simp; done) | (simp [*]; done)), (by first | rfl | (simp; done) | (simp [*]; done)), H', ⟨by have := HJ3.out; have := HK2.out; have := HK3.out; have := HK4.out; omega⟩, ⟨by (try simp only [hl8_2]); (with_reducible repeat (first | apply Kd.R_alloc | apply Kd.R_drewN | apply Kd.R_drew)); exact HO_8.out⟩, ⟨by (try simp only [hl8_2]); (with_reducible repeat (first | apply Kd.R_alloc | apply Kd.R_drewN | apply Kd.R_drew)); exact HO_12.out⟩, ⟨by (try simp only [hl8_2]); (with_reducible repeat (first | apply Kd.R_alloc | apply Kd.R_drewN | apply Kd.R_drew)); exact HO_84.out⟩, ⟨by (try simp only [hl8_2]); (with_reducible repeat (first | refine blk_drewN ?_ _ | refine blk_drew ?_ | refine blk_alloc ?_ _)); exact BK332.out⟩, ⟨blw⟩⟩
                       ·rw [if_neg c72] at H
                        exact absurd H (by simp)
                      ·rw [if_neg c71] at H
                       exact absurd H (by simp)
                     ·rw [if_neg c70] at H
                      exact absurd H (by simp)
                    ·rw [if_neg c69] at H
                     exact absurd H (by simp)
                   ·rw [if_neg c68] at H
                    exact absurd H (by simp)
                  ·rw [if_neg c67] at H
                   exact absurd H (by simp)
                 ·rw [if_neg c66] at H
                  have c66b0 : decide (x86_4 < (t364.length : Int)) = false := decide_eq_false c66
                  clear c66
                  by_cases c78 : x12_3.length < 17592186044416
                  ·rw [if_pos c78] at H
                   have LMc78 := Aside0.mk c78
                   clear c78
                   obtain ⟨y373, hy373⟩ : ∃ y_ : List Int, y_ = (x12_3 ++ [x13_4]) := ⟨_, rfl⟩
                   replace H : (impl_FewestFaces.l2 k4 a2 x8_2 y373 x13_4 l0_0 l0_1) = some (r1, r2) := by first | (rw [hy373]; with_reducible exact H) | (have H2_ := (Option.bind_some _ _).symm.trans H; rw [hy373]; with_reducible exact H2_) | (have H2_ := (Option.bind_some _ _).symm.trans H; with_reducible exact H2_) | with_reducible exact H | (rw [hy373]; exact H) | exact H
                   have Ny373 := Aside0.mk hy373
                   clear hy373
                   have H' := Aside0.mk H
                   clear H
                   go_wp2_with (first | ((with_reducible refine gate_builtin (b := .append) (xs := #[.tmp 102, .tmp 104]) rfl ?_); at_builtin; refine Kd.R_append (Kd.int .i64) (w0 := w) w.heap.size rfl (.tmp 102) (.tmp 104) 36 3 (.int .i64 0) 8 rfl Try.underlying36 info3 rfl (by decide) (by omega) u12 x12_3 x13_4 [.int .i64 x13_4] (fun k_ => some k_ ≠ (.slice (some ⟨go19, 0, none⟩) x8_2.length co19 : Value).ownBlock ∧ some k_ ≠ (.slice Ao65 t364.length co65 : Value).ownBlock) (fun _ => False) rfl rfl ?aP (fun _ hk => hk.elim) ?aF ?aO ?aB ?aS ?aL ?_; (case aP => exact rfl); (case aB => exact blw); (case aF => exact (fun k_ hk => ⟨Kd.fresh' (Kd.R_lt (by (with_reducible repeat (first | apply Kd.R_alloc | apply Kd.R_drewN | apply Kd.R_drew)); exact HO_8.out)) k_ hk, Kd.fresh' (Kd.R_lt (by (with_reducible repeat (first | apply Kd.R_alloc | apply Kd.R_drewN | apply Kd.R_drew)); exact HO_84.out)) k_ hk⟩)); (case aO => exact (by (with_reducible repeat (first | apply Kd.R_alloc | apply Kd.R_drewN | apply Kd.R_drew)); exact HO_12.out)); (case aS => exact (below_size blw)); (case aL => have := LMc78.out; omega); intro v374 w79 ho hb hg hat; rw [← Ny373.out] at ho; have n0_ := Aside0.mk (Kd.R_after (ok := (fun k_ => some k_ ≠ (.slice Ao65 t364.length co65 : Value).ownBlock)) (by (with_reducible repeat (first | apply Kd.R_alloc | apply Kd.R_drewN | apply Kd.R_drew)); exact Kd.R_mono HO_8.out (fun _ hk => ⟨hk.2, hk.1⟩)) hg hat); have n1_ := Aside0.mk (Kd.R_after (ok := (fun k_ => some k_ ≠ (.slice (some ⟨go19, 0, none⟩) x8_2.length co19 : Value).ownBlock)) (by (with_reducible repeat (first | apply Kd.R_alloc | apply Kd.R_drewN | apply Kd.R_drew)); exact HO_84.out) hg hat); have n2_ := Aside0.mk (blk_grown (g := gb332) (o := .cells #[.slice A0_0 l0_0.length c0_0, .slice A0_1 l0_1.length c0_1] 30 (0, 0)) bkw hg (Kd.R_ne HO_12.out BK332.out (by decide))); have n3_ := Aside0.mk (hb); have n4_ := Aside0.mk (ho); clear HO_8; clear HO_84; clear BK332; clear HB; clear HO_12; have HO_8 := n0_; have HO_84 := n1_; have BK332 := n2_; have HB := n3_; have HO375 := n4_; clear n0_ n1_ n2_ n3_ n4_; clear ho hb hg hat))
                   go_roundg k4
                   case measure => have := HJ3.out; have := HK2.out; have := HK3.out; have := HK4.out; omega
                   case rel => exact ⟨(y373), (x13_4), (by first | rfl | (simp; done) | (simp [*]; done)), H', ⟨by have := HJ3.out; have := HK2.out; have := HK3.out; have := HK4.out; omega⟩, ⟨by (try simp only [hl8_2]); (with_reducible repeat (first | apply Kd.R_alloc | apply Kd.R_drewN | apply Kd.R_drew)); exact Kd.R_mono HO_8.out (fun _ hk => hk.2)⟩, ⟨by (try simp only [hl8_2]); (with_reducible repeat (first | apply Kd.R_alloc | apply Kd.R_drewN | apply Kd.R_drew)); exact Kd.R_mono HO375.out (fun _ hk => hk.1)⟩, ⟨by (try simp only [hl8_2]); (with_reducible repeat (first | refine blk_drewN ?_ _ | refine blk_drew ?_ | refine blk_alloc ?_ _)); exact BK332.out⟩, ⟨blw⟩⟩
                  ·rw [if_neg c78] at H
                   exact absurd H (by simp)
          ·rw [if_neg c55] at H
           exact absurd H (by simp)
         ·rw [if_neg c54] at H
          exact absurd H (by simp)
     ·rw [if_neg c18] at H
      exact absurd H (by simp)
    ·rw [if_neg c17] at H
     exact absurd H (by simp)

end Go.Proofs.Ytnfcpbajngccoaa.PFnExactFewestFaces
