/- The machine's side of a law, function by function: a Lean function with the Go function's answers and the proof that the Go code comes to them. No condition. Written by this session's program over the kit's print, this session's own contracts set in. -/
import Derived.Test.YtiaajmnmbjheoaaPFnExactSweepPairsx0
import Derived.Test.YtiaajmnmbjheoaaPFnExactSweepPairsx5
import Derived.Test.YtiaajmnmbjheoaaPFnExactSweepPairsx6
namespace Go.Proofs.Ytiaajmnmbjheoaa.PFnExactSweepPairs
open Go.RowKit Go.Proofs.YtiaajmnmbjheoaaW.PrintWords Go.Proofs.YtiaajmnmbjheoaaW.PrintLast Go.Proofs.YtiaajmnmbjheoaaW.PrintMore
attribute [local go_sem] max2_int min2_int max_two min_two max_three min_three max_four min_four   -- for this text's walks alone
set_option linter.unusedVariables false
set_option linter.unusedSimpArgs false

/-! ### impl_SweepPairs: function 35 -/
mutual
def impl_SweepPairs.l0 : Nat → List (S100) → List Int → Int → Int → Option ((List (S90)) × Int × Bool)
  | 0, _, _, _, _ => none
  | k + 1, x0, x5, x23, x24 => if x24 < x23 then (if x5.length < 17592186044416 then (impl_SweepPairs.l0 k x0 (x5 ++ [x24]) x23 (wrap64 (x24 + 1))) else (none)) else ((slices_SortStableFunc_int_int.f x5 x0).bind fun t206 => (impl_SweepPairs.l1 k x0 t206 (([] : List (S90))) 0 t206 (t206.length : Int) 0))
def impl_SweepPairs.l1 : Nat → List (S100) → List Int → List (S90) → Int → List Int → Int → Int → Option ((List (S90)) × Int × Bool)
  | 0, _, _, _, _, _, _, _ => none
  | k + 1, x0, x5, x8, x9, x37, x38, x39 => if x39 < x38 then (if 0 ≤ x39 then (if x39 < (x37.length : Int) then (if x39 ≤ (x5.length : Int) then ((some (x5.take (x39 : Int).toNat : List Int)).bind fun y216 => (impl_SweepPairs.l2 k x0 x5 x8 x9 (rd x37 x39) x37 x38 x39 y216 (y216.length : Int) 0)) else (none)) else (none)) else (none)) else ((impl_Pair.f x8).bind fun t212 => (some (t212, x9, true)))
def impl_SweepPairs.l2 : Nat → List (S100) → List Int → List (S90) → Int → Int → List Int → Int → Int → List Int → Int → Int → Option ((List (S90)) × Int × Bool)
  | 0, _, _, _, _, _, _, _, _, _, _, _ => none
  | k + 1, x0, x5, x8, x9, x11, x37, x38, x39, x46, x47, x48 => if x48 < x47 then (if 0 ≤ x48 then (if x48 < (x46.length : Int) then (if 0 ≤ (rd x46 x48) then (if (rd x46 x48) < (x0.length : Int) then ((impl_Shape_bounds.f ((rd_T100 x0 (rd x46 x48)).f0) ((rd_T100 x0 (rd x46 x48)).f1) ((rd_T100 x0 (rd x46 x48)).f2) ((rd_T100 x0 (rd x46 x48)).f3) ((rd_T100 x0 (rd x46 x48)).f4)).bind fun bt222 => (if 0 ≤ x11 then (if x11 < (x0.length : Int) then ((impl_Shape_bounds.f ((rd_T100 x0 x11).f0) ((rd_T100 x0 x11).f1) ((rd_T100 x0 x11).f2) ((rd_T100 x0 x11).f3) ((rd_T100 x0 x11).f4)).bind fun bt227 => (if bt222.2.2.1 < bt227.1 then (impl_SweepPairs.l2 k x0 x5 x8 x9 x11 x37 x38 x39 x46 x47 (wrap64 (x48 + 1))) else ((impl_touch.f k ((rd_T100 x0 x11).f0) ((rd_T100 x0 x11).f1) ((rd_T100 x0 x11).f2) ((rd_T100 x0 x11).f3) ((rd_T100 x0 x11).f4) ((rd_T100 x0 (rd x46 x48)).f0) ((rd_T100 x0 (rd x46 x48)).f1) ((rd_T100 x0 (rd x46 x48)).f2) ((rd_T100 x0 (rd x46 x48)).f3) ((rd_T100 x0 (rd x46 x48)).f4)).bind fun t233 => (if t233 = true then (if x8.length < 8796093022208 then (impl_SweepPairs.l2 k x0 x5 (x8 ++ [(⟨mn x11 (rd x46 x48), mx x11 (rd x46 x48)⟩ : S90)]) (wrap64 (x9 + 1)) x11 x37 x38 x39 x46 x47 (wrap64 (x48 + 1))) else (none)) else (impl_SweepPairs.l2 k x0 x5 x8 (wrap64 (x9 + 1)) x11 x37 x38 x39 x46 x47 (wrap64 (x48 + 1))))))) else (none)) else (none))) else (none)) else (none)) else (none)) else (none)) else (impl_SweepPairs.l1 k x0 x5 x8 x9 x37 x38 (wrap64 (x39 + 1)))
end
def impl_SweepPairs.f (k : Nat) (l0 : List (S100)) : Option ((List (S90)) × Int × Bool) := (impl_areShapes.f l0).bind fun t198 => (if t198 = true then (impl_SweepPairs.l0 k l0 (([] : List Int)) (l0.length : Int) 0) else (some (([] : List (S90)), 0, false)))
theorem impl_SweepPairs.mono_l : ∀ k, (∀ y0 y1 y2 y3, LeO (impl_SweepPairs.l0 k y0 y1 y2 y3) (impl_SweepPairs.l0 (k + 1) y0 y1 y2 y3)) ∧ (∀ y0 y1 y2 y3 y4 y5 y6, LeO (impl_SweepPairs.l1 k y0 y1 y2 y3 y4 y5 y6) (impl_SweepPairs.l1 (k + 1) y0 y1 y2 y3 y4 y5 y6)) ∧ (∀ y0 y1 y2 y3 y4 y5 y6 y7 y8 y9 y10, LeO (impl_SweepPairs.l2 k y0 y1 y2 y3 y4 y5 y6 y7 y8 y9 y10) (impl_SweepPairs.l2 (k + 1) y0 y1 y2 y3 y4 y5 y6 y7 y8 y9 y10))
  | 0 => ⟨fun _ _ _ _ r h => by simp [impl_SweepPairs.l0] at h, fun _ _ _ _ _ _ _ r h => by simp [impl_SweepPairs.l1] at h, fun _ _ _ _ _ _ _ _ _ _ _ r h => by simp [impl_SweepPairs.l2] at h⟩
  | k + 1 => by
    obtain ⟨ih0, ih1, ih2⟩ := impl_SweepPairs.mono_l k
    refine ⟨?_, ?_, ?_⟩
    · intro y0 y1 y2 y3
      unfold impl_SweepPairs.l0
      repeat' first
      | (with_reducible exact ih0 _ _ _ _)
      | (with_reducible exact ih1 _ _ _ _ _ _ _)
      | (with_reducible exact ih2 _ _ _ _ _ _ _ _ _ _ _)
      | (with_reducible exact impl_touch.mono _ _ _ _ _ _ _ _ _ _ _)
      | (with_reducible exact LeO.refl _)
      | (with_reducible exact LeO.none _)
      | (with_reducible refine LeO.ite ?_ ?_)
      | (with_reducible refine LeO.bind ?_ (fun _ => ?_))
      | exact ih0 _ _ _ _
      | exact ih1 _ _ _ _ _ _ _
      | exact ih2 _ _ _ _ _ _ _ _ _ _ _
      | exact impl_touch.mono _ _ _ _ _ _ _ _ _ _ _
      | exact LeO.none _
      | refine LeO.ite ?_ ?_
      | refine LeO.bind ?_ (fun _ => ?_)
    · intro y0 y1 y2 y3 y4 y5 y6
      unfold impl_SweepPairs.l1
      repeat' first
      | (with_reducible exact ih0 _ _ _ _)
      | (with_reducible exact ih1 _ _ _ _ _ _ _)
      | (with_reducible exact ih2 _ _ _ _ _ _ _ _ _ _ _)
      | (with_reducible exact impl_touch.mono _ _ _ _ _ _ _ _ _ _ _)
      | (with_reducible exact LeO.refl _)
      | (with_reducible exact LeO.none _)
      | (with_reducible refine LeO.ite ?_ ?_)
      | (with_reducible refine LeO.bind ?_ (fun _ => ?_))
      | exact ih0 _ _ _ _
      | exact ih1 _ _ _ _ _ _ _
      | exact ih2 _ _ _ _ _ _ _ _ _ _ _
      | exact impl_touch.mono _ _ _ _ _ _ _ _ _ _ _
      | exact LeO.none _
      | refine LeO.ite ?_ ?_
      | refine LeO.bind ?_ (fun _ => ?_)
    · intro y0 y1 y2 y3 y4 y5 y6 y7 y8 y9 y10
      unfold impl_SweepPairs.l2
      repeat' first
      | (with_reducible exact ih0 _ _ _ _)
      | (with_reducible exact ih1 _ _ _ _ _ _ _)
      | (with_reducible exact ih2 _ _ _ _ _ _ _ _ _ _ _)
      | (with_reducible exact impl_touch.mono _ _ _ _ _ _ _ _ _ _ _)
      | (with_reducible exact LeO.refl _)
      | (with_reducible exact LeO.none _)
      | (with_reducible refine LeO.ite ?_ ?_)
      | (with_reducible refine LeO.bind ?_ (fun _ => ?_))
      | exact ih0 _ _ _ _
      | exact ih1 _ _ _ _ _ _ _
      | exact ih2 _ _ _ _ _ _ _ _ _ _ _
      | exact impl_touch.mono _ _ _ _ _ _ _ _ _ _ _
      | exact LeO.none _
      | refine LeO.ite ?_ ?_
      | refine LeO.bind ?_ (fun _ => ?_)
theorem impl_SweepPairs.mono : ∀ a0 k, LeO (impl_SweepPairs.f k a0) (impl_SweepPairs.f (k + 1) a0) := by
  intro a0 k
  obtain ⟨ih0, ih1, ih2⟩ := impl_SweepPairs.mono_l k
  unfold impl_SweepPairs.f
  repeat' first
      | (with_reducible exact ih0 _ _ _ _)
      | (with_reducible exact ih1 _ _ _ _ _ _ _)
      | (with_reducible exact ih2 _ _ _ _ _ _ _ _ _ _ _)
      | (with_reducible exact impl_touch.mono _ _ _ _ _ _ _ _ _ _ _)
      | (with_reducible exact LeO.refl _)
      | (with_reducible exact LeO.none _)
      | (with_reducible refine LeO.ite ?_ ?_)
      | (with_reducible refine LeO.bind ?_ (fun _ => ?_))
      | exact ih0 _ _ _ _
      | exact ih1 _ _ _ _ _ _ _
      | exact ih2 _ _ _ _ _ _ _ _ _ _ _
      | exact impl_touch.mono _ _ _ _ _ _ _ _ _ _ _
      | exact LeO.none _
      | refine LeO.ite ?_ ?_
      | refine LeO.bind ?_ (fun _ => ?_)
def impl_SweepPairs.T21 : Bool × List (List Nat × List Nat) := (true, [([], []), ([], []), ([0, 1], [0, 1]), ([2], [2]), ([], []), ([], []), ([4, 5], [4, 5]), ([6], [6]), ([3, 7], [3, 7])])
def impl_SweepPairs.B21 : List Nat := [0, 0, 3, 7, 0, 0, 48, 112, 255]
theorem impl_SweepPairs.tab21 : rtab .any (opsOf Try.f35 21) = impl_SweepPairs.T21 := by kernel_rfl
theorem impl_SweepPairs.bits21 : waitsOk impl_SweepPairs.T21.2 impl_SweepPairs.B21 = true := by kernel_rfl
set_option maxHeartbeats 8000000 in
set_option maxRecDepth 100000 in
theorem impl_SweepPairs.calls (k : Nat) (A0 : Option Addr) (c0 : Nat) (l0 : List (S100)) (r1 : List (S90)) (r2 : Int) (r3 : Bool) (w : World) (hr0 : Kd.C k100 w A0 l0.length l0) (hc0 : l0.length ≤ c0) (h : impl_SweepPairs.f k l0 = some (r1, r2, r3)) :
    Calls Try.prog 35 #[.slice A0 l0.length c0] w fun e w' => ∃ v0_ : Value, e = .returned (.tuple #[v0_, .int .i64 r2, .bool r3]) ∧ Kd.R k90 90 w' w.heap.size (fun _ => True) v0_ r1 ∧ Below w.heap.size w w' := by
  have hu100 := Try.underlying100
  have hu90 := Try.underlying90
  have HR0 := Aside0.mk hr0
  have HC0 := Aside0.mk hc0
  clear hr0 hc0
  have HB := Aside0.mk (Below.refl w.heap.size w)
  have H : ((impl_areShapes.f l0).bind fun t198 => (if t198 = true then (impl_SweepPairs.l0 k l0 (([] : List Int)) (l0.length : Int) 0) else (some (([] : List (S90)), 0, false)))) = some (r1, r2, r3) := h
  clear h
  replace H := Option.bind_eq_some_iff.mp H
  obtain ⟨t198, A20, H⟩ := H
  replace H : (if t198 = true then (impl_SweepPairs.l0 k l0 (([] : List Int)) (l0.length : Int) 0) else (some (([] : List (S90)), 0, false))) = some (r1, r2, r3) := H
  have A2 := Aside0.mk A20
  clear A20
  by_cases c3 : t198 = true
  · subst c3
    have H1 : (impl_SweepPairs.l0 k l0 (([] : List Int)) (l0.length : Int) 0) = some (r1, r2, r3) := by rw [if_pos rfl] at H; exact H
    clear H
    have H := H1
    clear H1
    obtain ⟨y199, hy199⟩ : ∃ y_ : List Int, y_ = (([] : List Int)) := ⟨_, rfl⟩
    replace H : (impl_SweepPairs.l0 k l0 y199 (l0.length : Int) 0) = some (r1, r2, r3) := by first | (rw [hy199]; with_reducible exact H) | (have H2_ := (Option.bind_some _ _).symm.trans H; rw [hy199]; with_reducible exact H2_) | (have H2_ := (Option.bind_some _ _).symm.trans H; with_reducible exact H2_) | with_reducible exact H | (rw [hy199]; exact H) | exact H
    have Ny199 := Aside0.mk hy199
    clear hy199
    have H' := Aside0.mk H
    clear H
    have e79_ := Go.Proofs.enters_of Try.func79 (by kernel_rfl) rfl
    go_enter Try.func35, Try.ntmps35
    go_wp2_with (first | ((with_reducible refine gate_dst (N := 1) rfl ?_); refine box_event ?hg (N := 1) ?hd (cs := #[(.slice A0 l0.length c0 : Value)]) (t := 55) ?hr ?_; (case hd => rfl); (case hg => rfl); (case hr => first | (go_simp; done) | (go_simp; rfl)); intro gb197 hg w4 hbox hb; have n0_ := Aside0.mk (below_step (by repeat (first | (with_reducible first | exact HB.out | apply below_alloc | apply pw_below_drewN | apply below_drew1) | exact HB.out)) hb); have n1_ := Aside0.mk (hbox); have n2_ := Aside0.mk ((by rw [hg]; exact (below_size (by repeat (first | (with_reducible first | exact HB.out | apply below_alloc | apply pw_below_drewN | apply below_drew1) | exact HB.out))) : w.heap.size ≤ gb197)); have n3_ := Aside0.mk ((by rw [hg]; exact (below_size (by repeat (first | (with_reducible first | exact HB.out | apply below_alloc | apply pw_below_drewN | apply below_drew1) | exact HB.out))) : w.heap.size ≤ gb197)); clear HB; have HB := n0_; have BK197 := n1_; have GW197 := n2_; have GE197 := n3_; clear n0_ n1_ n2_ n3_; clear hb hbox hg; have hcz5_0 : w4.cell? ⟨gb197, 0, none⟩ = some (.slice A0 l0.length c0 : Value) := (blk_cell BK197.out 0).trans rfl; have hfz5_0 := blk_frozen BK197.out 0) | ((with_reducible refine gate_callee (f := 67) rfl ?_); refine goesL_ (some 19) rfl rfl Try.func67 (by kernel_rfl) rfl #[.slice A0 l0.length c0] rfl (by (try simp only [List.map_toArray, List.map_cons, List.map_nil]); first | done | rfl | (simp only [List.length_drop, List.length_take]; rfl)) ?_; (with_reducible refine (impl_areShapes.calls _ _ l0 true _ ?side1 ?side2 A2.out).mono ?_); (case side1 => repeat (first | exact (Kd.C_below HR0.out HB.out) | (with_reducible refine Kd.C_alloc ?_ _) | (with_reducible refine Kd.C_drewN ?_ _) | (with_reducible refine Kd.C_drew ?_))); (case side2 => exact HC0.out); rintro e w6 ⟨rfl, hb⟩; refine ⟨_, rfl, ?_⟩; have n0_ := Aside0.mk (blk_below (g := gb197) (o := .cells #[(.slice A0 l0.length c0 : Value)] 55 (0, 0)) (by (with_reducible repeat (first | refine blk_drewN ?_ _ | refine blk_drew ?_ | refine blk_alloc ?_ _)); exact BK197.out) hb); have n1_ := Aside0.mk (below_step (by repeat (first | (with_reducible first | exact HB.out | apply below_alloc | apply pw_below_drewN | apply below_drew1 | refine below_set ?_ GE197.out) | exact HB.out)) hb); clear BK197; clear HB; have BK197 := n0_; have HB := n1_; clear n0_ n1_; (try clear hb); (try clear hb2); (try clear hk); (try clear hi)) | ((with_reducible refine gate_dst (N := 21) rfl ?_); refine Kd.R_lit (Kd.int .i64) _ 3 ?hg (N := 21) ?hd (xs := ([] : List Int)) (inner := []) (ok := fun _ => True) (okp := fun _ => True) ?hr ?hp (fun _ hk => hk) trivial (Below.refl _ _) (Nat.le_refl _) (by simp) ?_; (case hd => rfl); (case hg => rfl); (case hr => first | (go_simp; done) | (go_simp; rfl)); (case hp => exact (Reps.none _ _)); intro v200 w7 ho8 hb hg_ hnew_; clear hg_ hnew_; (first | rw [← Ny199.out] at ho8 | (simp only [Int.reduceToNat] at ho8; rw [← Ny199.out] at ho8)); have n0_ := Aside0.mk (Kd.R_lower (Kd.R_newB ho8 (g := gb197) (o := .cells #[(.slice A0 l0.length c0 : Value)] 55 (0, 0)) (by (with_reducible repeat (first | refine blk_drewN ?_ _ | refine blk_drew ?_ | refine blk_alloc ?_ _)); exact BK197.out)) (below_size (by repeat (first | (with_reducible first | exact HB.out | apply below_alloc | apply pw_below_drewN | apply below_drew1 | refine below_set ?_ GE197.out) | exact HB.out)))); have n1_ := Aside0.mk (blk_below (g := gb197) (o := .cells #[(.slice A0 l0.length c0 : Value)] 55 (0, 0)) (by (with_reducible repeat (first | refine blk_drewN ?_ _ | refine blk_drew ?_ | refine blk_alloc ?_ _)); exact BK197.out) hb); have n2_ := Aside0.mk (below_step (by repeat (first | (with_reducible first | exact HB.out | apply below_alloc | apply pw_below_drewN | apply below_drew1 | refine below_set ?_ GE197.out) | exact HB.out)) hb); clear BK197; clear HB; have HO201 := n0_; have BK197 := n1_; have HB := n2_; clear n0_ n1_ n2_; clear hb ho8; have hcz9_0 : w7.cell? ⟨gb197, 0, none⟩ = some (.slice A0 l0.length c0 : Value) := (blk_cell BK197.out 0).trans rfl; have hfz9_0 := blk_frozen BK197.out 0))
    go_loopg [5, 24] k (fun kq v5 v24 w' => ∃ (x5_1 : List Int) (x24_1 : Int), v24 = .int .i64 x24_1 ∧ Aside0 (impl_SweepPairs.l0 kq l0 x5_1 (l0.length : Int) x24_1 = some (r1, r2, r3)) ∧ Aside0 (kq ≤ k) ∧ Aside0 (Kd.R (Kd.int .i64) 3 w' w.heap.size (fun k_ => k_ ≠ gb197) v5 x5_1) ∧ Aside0 (w'.heap[gb197]? = some (.cells #[(.slice A0 l0.length c0 : Value)] 55 (0, 0))) ∧ Aside0 (Below w.heap.size w w'))
    case atStart => exact ⟨(y199), (0), (by first | rfl | (simp; done) | (simp [*]; done)), H', ⟨Nat.le_refl _⟩, ⟨by (with_reducible repeat (first | apply Kd.R_alloc | apply Kd.R_drewN | apply Kd.R_drew)); exact Kd.R_mono HO201.out (fun _ hk => hk.2)⟩, ⟨by (with_reducible repeat (first | refine blk_drewN ?_ _ | refine blk_drew ?_ | refine blk_alloc ?_ _)); exact BK197.out⟩, ⟨by repeat (first | (with_reducible first | exact HB.out | apply below_alloc | apply pw_below_drewN | apply below_drew1 | refine below_set ?_ GE197.out) | exact HB.out)⟩⟩
    case round =>
      clear H'
      try clear p2
      try clear c3
      try clear c6
      try clear hcz5_0
      try clear hcz9_0
      try clear hfz5_0
      try clear hfz9_0
      obtain ⟨x5_1, x24_1, rfl, HA, HK1, HO_5, BK197, HB⟩ := hrel
      cases gk with
      | zero => exact absurd HA.out (by simp [impl_SweepPairs.l0])
      | succ k1 =>
        have H := HA.out
        clear HA
        simp only [impl_SweepPairs.l0] at H
        by_cases c10 : x24_1 < (l0.length : Int)
        · rw [if_pos c10] at H
          have c10b0 : decide (x24_1 < (l0.length : Int)) = true := decide_eq_true c10
          clear c10
          by_cases c11 : x5_1.length < 17592186044416
          · rw [if_pos c11] at H
            have LMc11 := Aside0.mk c11
            clear c11
            obtain ⟨y202, hy202⟩ : ∃ y_ : List Int, y_ = (x5_1 ++ [x24_1]) := ⟨_, rfl⟩
            replace H : (impl_SweepPairs.l0 k1 l0 y202 (l0.length : Int) (wrap64 (x24_1 + 1))) = some (r1, r2, r3) := by first | (rw [hy202]; with_reducible exact H) | (have H2_ := (Option.bind_some _ _).symm.trans H; rw [hy202]; with_reducible exact H2_) | (have H2_ := (Option.bind_some _ _).symm.trans H; with_reducible exact H2_) | with_reducible exact H | (rw [hy202]; exact H) | exact H
            have Ny202 := Aside0.mk hy202
            clear hy202
            have H' := Aside0.mk H
            clear H
            go_wp2_with (first | ((with_reducible refine gate_builtin (b := .append) (xs := #[.tmp 27, .tmp 29]) rfl ?_); at_builtin; refine Kd.R_append (Kd.int .i64) (w0 := w) w.heap.size rfl (.tmp 27) (.tmp 29) 74 3 (.int .i64 0) 8 rfl Try.underlying74 info3 rfl (by decide) (by omega) u5 x5_1 x24_1 [.int .i64 x24_1] (fun k_ => k_ ≠ gb197) (fun _ => False) rfl rfl ?aP (fun _ hk => hk.elim) ?aF ?aO ?aB ?aS ?aL ?_; (case aP => exact rfl); (case aB => exact (by repeat (first | (with_reducible first | exact HB.out | apply below_alloc | apply pw_below_drewN | apply below_drew1 | refine below_set ?_ GE197.out) | exact HB.out))); (case aF => exact (fun k_ hk => Kd.freshB (g := gb197) (o := .cells #[(.slice A0 l0.length c0 : Value)] 55 (0, 0)) (by (with_reducible repeat (first | refine blk_drewN ?_ _ | refine blk_drew ?_ | refine blk_alloc ?_ _)); exact BK197.out) k_ hk)); (case aO => exact (by (with_reducible repeat (first | apply Kd.R_alloc | apply Kd.R_drewN | apply Kd.R_drew)); exact HO_5.out)); (case aS => exact (below_size (by repeat (first | (with_reducible first | exact HB.out | apply below_alloc | apply pw_below_drewN | apply below_drew1 | refine below_set ?_ GE197.out) | exact HB.out)))); (case aL => have := LMc11.out; omega); intro v203 w12 ho hb hg hat; rw [← Ny202.out] at ho; have n0_ := Aside0.mk (blk_grown (g := gb197) (o := .cells #[(.slice A0 l0.length c0 : Value)] 55 (0, 0)) (by (with_reducible repeat (first | refine blk_drewN ?_ _ | refine blk_drew ?_ | refine blk_alloc ?_ _)); exact BK197.out) hg (Kd.R_away HO_5.out (fun _ hk => hk))); have n1_ := Aside0.mk (hb); have n2_ := Aside0.mk (ho); clear BK197; clear HB; clear HO_5; have BK197 := n0_; have HB := n1_; have HO204 := n2_; clear n0_ n1_ n2_; clear ho hb hg hat))
            go_roundg k1
            case measure => have := HK1.out; omega
            case rel => exact ⟨(y202), (wrap64 (x24_1 + 1)), (by first | rfl | (simp; done) | (simp [*]; done)), H', ⟨by have := HK1.out; omega⟩, ⟨by (with_reducible repeat (first | apply Kd.R_alloc | apply Kd.R_drewN | apply Kd.R_drew)); exact HO204.out⟩, ⟨by (with_reducible repeat (first | refine blk_drewN ?_ _ | refine blk_drew ?_ | refine blk_alloc ?_ _)); exact BK197.out⟩, ⟨by repeat (first | (with_reducible first | exact HB.out | apply below_alloc | apply pw_below_drewN | apply below_drew1 | refine below_set ?_ GE197.out) | exact HB.out)⟩⟩
          · rw [if_neg c11] at H
            exact absurd H (by simp)
        · rw [if_neg c10] at H
          have c10b0 : decide (x24_1 < (l0.length : Int)) = false := decide_eq_false c10
          clear c10
          replace H := Option.bind_eq_some_iff.mp H
          obtain ⟨t206, A130, H⟩ := H
          replace H : (impl_SweepPairs.l1 k1 l0 t206 (([] : List (S90))) 0 t206 (t206.length : Int) 0) = some (r1, r2, r3) := H
          have A13 := Aside0.mk A130
          clear A130
          obtain ⟨y209, hy209⟩ : ∃ y_ : List (S90), y_ = (([] : List (S90))) := ⟨_, rfl⟩
          replace H : (impl_SweepPairs.l1 k1 l0 t206 y209 0 t206 (t206.length : Int) 0) = some (r1, r2, r3) := by first | (rw [hy209]; with_reducible exact H) | (have H2_ := (Option.bind_some _ _).symm.trans H; rw [hy209]; with_reducible exact H2_) | (have H2_ := (Option.bind_some _ _).symm.trans H; with_reducible exact H2_) | with_reducible exact H | (rw [hy209]; exact H) | exact H
          have Ny209 := Aside0.mk hy209
          clear hy209
          have H' := Aside0.mk H
          clear H
          go_wp2_with (first | ((with_reducible refine gate_dst (N := 7) rfl ?_); refine box_event ?hg (N := 7) ?hd (cs := #[.nilFunc]) (t := 125) ?hr ?_; (case hd => rfl); (case hg => rfl); (case hr => first | (go_simp; done) | (go_simp; rfl)); intro gb205 hg w14 hbox hb; have n0_ := Aside0.mk (Kd.R_below (Kd.R_elderB (by (with_reducible repeat (first | apply Kd.R_alloc | apply Kd.R_drewN | apply Kd.R_drew)); exact HO_5.out) gb205 (Nat.le_of_eq hg.symm)) hb); have n1_ := Aside0.mk (blk_below (g := gb197) (o := .cells #[(.slice A0 l0.length c0 : Value)] 55 (0, 0)) (by (with_reducible repeat (first | refine blk_drewN ?_ _ | refine blk_drew ?_ | refine blk_alloc ?_ _)); exact BK197.out) hb); have n2_ := Aside0.mk (below_step (by repeat (first | (with_reducible first | exact HB.out | apply below_alloc | apply pw_below_drewN | apply below_drew1 | refine below_set ?_ GE197.out) | exact HB.out)) hb); have n3_ := Aside0.mk (hbox); have n4_ := Aside0.mk ((by rw [hg]; exact (below_size (by repeat (first | (with_reducible first | exact HB.out | apply below_alloc | apply pw_below_drewN | apply below_drew1 | refine below_set ?_ GE197.out) | exact HB.out))) : w.heap.size ≤ gb205)); have n5_ := Aside0.mk ((by rw [hg]; exact (below_size (by repeat (first | (with_reducible first | exact HB.out | apply below_alloc | apply pw_below_drewN | apply below_drew1 | refine below_set ?_ GE197.out) | exact HB.out))) : w.heap.size ≤ gb205)); have n6_ := Aside0.mk ((by rw [hg]; exact Nat.ne_of_lt (blk_lt (g := gb197) (o := .cells #[(.slice A0 l0.length c0 : Value)] 55 (0, 0)) (by (with_reducible repeat (first | refine blk_drewN ?_ _ | refine blk_drew ?_ | refine blk_alloc ?_ _)); exact BK197.out)) : gb197 ≠ gb205)); have n7_ := Aside0.mk ((by rw [hg]; exact Nat.ne_of_gt (blk_lt (g := gb197) (o := .cells #[(.slice A0 l0.length c0 : Value)] 55 (0, 0)) (by (with_reducible repeat (first | refine blk_drewN ?_ _ | refine blk_drew ?_ | refine blk_alloc ?_ _)); exact BK197.out)) : gb205 ≠ gb197)); clear HO_5; clear BK197; clear HB; have HO_5 := n0_; have BK197 := n1_; have HB := n2_; have BK205 := n3_; have GW205 := n4_; have GE205 := n5_; have NB197_205 := n6_; have NB205_197 := n7_; clear n0_ n1_ n2_ n3_ n4_ n5_ n6_ n7_; clear hb hbox hg; have hnb15 := NB205_197.out; have hnc15 := NB197_205.out; have hcz16_0 : w14.cell? ⟨gb205, 0, none⟩ = some .nilFunc := (blk_cell BK205.out 0).trans rfl; have hfz16_0 := blk_frozen BK205.out 0; obtain ⟨Ao17, co17, eo17⟩ := Kd.R_slice HO_5.out; rw [slices_SortStableFunc_int_int.len A13.out] at eo17; subst eo17) | ((with_reducible refine gate_callee (f := 80) rfl ?_); refine goesL_ (some 35) rfl rfl Try.func80 (by kernel_rfl) rfl #[.slice Ao17 t206.length co17, .func (.func 81) #[] #[.pointer (some ⟨gb205, 0, none⟩)]] rfl (by (try simp only [List.map_toArray, List.map_cons, List.map_nil]); first | done | rfl | (simp only [List.length_drop, List.length_take]; rfl)) ?_; refine (slices_SortStableFunc_int_int.real (.slice Ao17 t206.length co17) x5_1 t206 A0 c0 l0 gb197 gb205 w _ (by repeat (first | (with_reducible first | exact HB.out | apply below_alloc | apply pw_below_drewN | apply below_drew1 | refine below_set ?_ GE197.out | refine below_set ?_ GE205.out) | exact HB.out)) HR0.out (by (with_reducible repeat (first | refine blk_drewN ?_ _ | refine blk_drew ?_ | refine blk_alloc ?_ _)); refine blk_far ?_ NB197_205.out _; (with_reducible repeat (first | refine blk_drewN ?_ _ | refine blk_drew ?_ | refine blk_alloc ?_ _)); exact BK197.out) (by (with_reducible repeat (first | refine blk_drewN ?_ _ | refine blk_drew ?_ | refine blk_alloc ?_ _)); refine blk_put (cs := #[.nilFunc]) ?_ 0 _ rfl; (with_reducible repeat (first | refine blk_drewN ?_ _ | refine blk_drew ?_ | refine blk_alloc ?_ _)); exact BK205.out) (ok := (fun k_ => k_ ≠ gb197 ∧ k_ ≠ gb205)) (by (with_reducible repeat (first | apply Kd.R_alloc | apply Kd.R_drewN | apply Kd.R_drew)); exact (Kd.R_mono (Kd.R_far (p := ⟨gb205, 0, none⟩) (Kd.R_mono HO_5.out (fun k_ hk => (⟨hk, hk.2⟩ : _ ∧ k_ ≠ gb205))) (fun _ hk => hk.2) (.func (.func 79) #[] #[.pointer (some ⟨gb197, 0, none⟩)] : Value)) (fun _ h_ => h_.1))) A13.out).mono ?_; rintro e w18 ⟨rfl, ho0, hb1, hb2, hb⟩; refine ⟨_, rfl, ?_⟩; clear HO_5; clear BK197; clear BK205; clear HB; have HO_5 := Aside0.mk ho0; have HO208 := Aside0.mk (Kd.R_mono ho0 (fun k_ hk => (⟨⟨trivial, hk.1⟩, hk.2⟩ : (True ∧ k_ ≠ gb197) ∧ k_ ≠ gb205))); have BK197 := Aside0.mk hb1; have BK205 := Aside0.mk hb2; have HB := Aside0.mk hb; clear ho0 hb1 hb2 hb) | ((with_reducible refine gate_dst (N := 36) rfl ?_); refine Kd.R_lit k90 _ 90 ?hg (N := 36) ?hd (xs := ([] : List (S90))) (inner := []) (ok := fun _ => True) (okp := fun _ => True) ?hr ?hp (fun _ hk => hk) trivial (Below.refl _ _) (Nat.le_refl _) (by simp) ?_; (case hd => rfl); (case hg => rfl); (case hr => first | (go_simp; done) | (go_simp; rfl)); (case hp => exact (Reps.none _ _)); intro v210 w19 ho20 hb hg_ hnew_; clear hg_ hnew_; (first | rw [← Ny209.out] at ho20 | (simp only [Int.reduceToNat] at ho20; rw [← Ny209.out] at ho20)); have n0_ := Aside0.mk (Kd.R_below (by (with_reducible repeat (first | apply Kd.R_alloc | apply Kd.R_drewN | apply Kd.R_drew)); exact HO_5.out) hb); have n1_ := Aside0.mk (Kd.R_below (by (with_reducible repeat (first | apply Kd.R_alloc | apply Kd.R_drewN | apply Kd.R_drew)); exact HO208.out) hb); have n2_ := Aside0.mk (Kd.R_lower ho20 (below_size (by repeat (first | (with_reducible first | exact HB.out | apply below_alloc | apply pw_below_drewN | apply below_drew1 | refine below_set ?_ GE197.out | refine below_set ?_ GE205.out) | exact HB.out)))); have n3_ := Aside0.mk (blk_below (g := gb197) (o := .cells #[(.slice A0 l0.length c0 : Value)] 55 (0, 0)) (by (with_reducible repeat (first | refine blk_drewN ?_ _ | refine blk_drew ?_ | refine blk_alloc ?_ _)); exact BK197.out) hb); have n4_ := Aside0.mk (blk_below (g := gb205) (o := .cells #[(.func (.func 79) #[] #[.pointer (some ⟨gb197, 0, none⟩)] : Value)] 125 (0, 0)) (by (with_reducible repeat (first | refine blk_drewN ?_ _ | refine blk_drew ?_ | refine blk_alloc ?_ _)); exact BK205.out) hb); have n5_ := Aside0.mk (below_step (by repeat (first | (with_reducible first | exact HB.out | apply below_alloc | apply pw_below_drewN | apply below_drew1 | refine below_set ?_ GE197.out | refine below_set ?_ GE205.out) | exact HB.out)) hb); clear HO_5; clear HO208; clear BK197; clear BK205; clear HB; have HO_5 := n0_; have HO208 := n1_; have HO211 := n2_; have BK197 := n3_; have BK205 := n4_; have HB := n5_; clear n0_ n1_ n2_ n3_ n4_ n5_; clear hb ho20))
          go_loopg [8, 9, 39] k1 (fun kq v8 v9 v39 w' => ∃ (x8_2 : List (S90)) (x9_2 : Int) (x39_2 : Int), v9 = .int .i64 x9_2 ∧ v39 = .int .i64 x39_2 ∧ Aside0 (impl_SweepPairs.l1 kq l0 t206 x8_2 x9_2 t206 (t206.length : Int) x39_2 = some (r1, r2, r3)) ∧ Aside0 (kq ≤ k1) ∧ Aside0 (Kd.R (Kd.int .i64) 3 w' w.heap.size (fun k_ => k_ ≠ gb197 ∧ k_ ≠ gb205) (.slice Ao17 t206.length co17) t206) ∧ Aside0 (Kd.R k90 90 w' w.heap.size (fun _ => True) v8 x8_2) ∧ Aside0 (Kd.R (Kd.int .i64) 3 w' w.heap.size (fun k_ => k_ ≠ gb197 ∧ k_ ≠ gb205) (.slice Ao17 t206.length co17) t206) ∧ Aside0 (w'.heap[gb197]? = some (.cells #[(.slice A0 l0.length c0 : Value)] 55 (0, 0))) ∧ Aside0 (w'.heap[gb205]? = some (.cells #[(.func (.func 79) #[] #[.pointer (some ⟨gb197, 0, none⟩)] : Value)] 125 (0, 0))) ∧ Aside0 (Below w.heap.size w w'))
          case atStart => exact ⟨(y209), (0), (0), (by first | rfl | (simp; done) | (simp [*]; done)), (by first | rfl | (simp; done) | (simp [*]; done)), H', ⟨Nat.le_refl _⟩, ⟨by (with_reducible repeat (first | apply Kd.R_alloc | apply Kd.R_drewN | apply Kd.R_drew)); exact Kd.R_mono HO208.out (fun _ hk => ⟨hk.1.2, hk.2⟩)⟩, ⟨by (with_reducible repeat (first | apply Kd.R_alloc | apply Kd.R_drewN | apply Kd.R_drew)); exact HO211.out⟩, ⟨by (with_reducible repeat (first | apply Kd.R_alloc | apply Kd.R_drewN | apply Kd.R_drew)); exact Kd.R_mono HO208.out (fun _ hk => ⟨hk.1.2, hk.2⟩)⟩, ⟨by (with_reducible repeat (first | refine blk_drewN ?_ _ | refine blk_drew ?_ | refine blk_alloc ?_ _)); exact BK197.out⟩, ⟨by (with_reducible repeat (first | refine blk_drewN ?_ _ | refine blk_drew ?_ | refine blk_alloc ?_ _)); exact BK205.out⟩, ⟨by repeat (first | (with_reducible first | exact HB.out | apply below_alloc | apply pw_below_drewN | apply below_drew1 | refine below_set ?_ GE197.out | refine below_set ?_ GE205.out) | exact HB.out)⟩⟩
          case round =>
            clear H'
            try clear c1
            try clear p2
            try clear c3
            try clear c6
            try clear p6
            try clear c8
            try clear c10
            try clear c10b0
            try clear c11
            try clear c15
            try clear hcz16_0
            try clear hcz5_0
            try clear hcz9_0
            try clear hfz16_0
            try clear hfz5_0
            try clear hfz9_0
            try clear p2
            obtain ⟨x8_2, x9_2, x39_2, rfl, rfl, HA, HK2, HO_5, HO_8, HO_37, BK197, BK205, HB⟩ := hrel
            cases gk with
            | zero => exact absurd HA.out (by simp [impl_SweepPairs.l1])
            | succ k2 =>
              have H := HA.out
              clear HA
              simp only [impl_SweepPairs.l1] at H
              by_cases c22 : x39_2 < (t206.length : Int)
              · rw [if_pos c22] at H
                have c22b0 : decide (x39_2 < (t206.length : Int)) = true := decide_eq_true c22
                clear c22
                by_cases c23 : 0 ≤ x39_2
                · rw [if_pos c23] at H
                  have c23b0 : decide (0 ≤ x39_2) = true := decide_eq_true c23
                  clear c23
                  by_cases c24 : x39_2 < (t206.length : Int)
                  · rw [if_pos c24] at H
                    have c24b0 : decide (x39_2 < (t206.length : Int)) = true := decide_eq_true c24
                    clear c24
                    have c25b0 := eq_true (of_decide_eq_true (by first | (with_reducible assumption) | assumption) : 0 ≤ x39_2)
                    by_cases c26 : x39_2 ≤ (t206.length : Int)
                    · rw [if_pos c26] at H
                      have c26b0 := eq_true c26
                      have c26b1 : decide (x39_2 ≤ (t206.length : Int)) = true := decide_eq_true c26
                      clear c26
                      obtain ⟨y216, hy216⟩ : ∃ y_ : List Int, y_ = (t206.take (x39_2 : Int).toNat) := ⟨_, rfl⟩
                      replace H : (impl_SweepPairs.l2 k2 l0 t206 x8_2 x9_2 (rd t206 x39_2) t206 (t206.length : Int) x39_2 y216 (y216.length : Int) 0) = some (r1, r2, r3) := by first | (rw [hy216]; with_reducible exact H) | (have H2_ := (Option.bind_some _ _).symm.trans H; rw [hy216]; with_reducible exact H2_) | (have H2_ := (Option.bind_some _ _).symm.trans H; with_reducible exact H2_) | with_reducible exact H | (rw [hy216]; exact H) | exact H
                      have Ny216 := Aside0.mk hy216
                      clear hy216
                      have H' := Aside0.mk H
                      clear H
                      have p215 : 0 ≤ (x39_2 : Int) := of_decide_eq_true (by first | (with_reducible assumption) | assumption)
                      have q215 : x39_2 < (t206.length : Int) := of_decide_eq_true (by first | (with_reducible assumption) | assumption)
                      obtain ⟨ad215, e215, hx215_0⟩ := Kd.at_int (Kd.R_reads' HO_37.out).2.2 x39_2 p215 q215
                      cases e215
                      replace p215 := eq_true p215
                      replace q215 := eq_true q215
                      have q27 : (x39_2 : Int) ≤ ((t206.length : Int) : Int) := of_decide_eq_true (by first | (with_reducible assumption) | assumption)
                      obtain ⟨i027, hi027, _, hsz27, _⟩ := info_parts info3
                      have hroom27 : t206.length ≤ co17 := (Kd.R_reads' HO_5.out).2.1
                      have hC27 : Kd.C (Kd.int .i64) _ (some ad215) t206.length t206 := (Kd.R_reads' HO_5.out).2.2
                      have hcut27 := cut_to (P := Try.prog) 74 3 .i64 Try.underlying74 hi027 (some ad215) t206.length co17 x39_2 (of_decide_eq_true (by first | (with_reducible assumption) | assumption)) q27 hroom27
                      have hr27 := Kd.C_take (m := (x39_2 : Int).toNat) hC27 (by omega)
                      have hy27 : y216.length = (x39_2 : Int).toNat := (by rw [Ny216.out, List.length_take]; omega)
                      rw [← Ny216.out] at hr27
                      rw [← hy27] at hcut27
                      have HR219 := Aside0.mk hr27
                      have HC219 := Aside0.mk (show y216.length ≤ co17 from by omega)
                      clear hr27 hC27 hroom27 hi027 hsz27
                      have KY27 := Aside0.mk hy27
                      clear hy27
                      have KL27 := Aside0.mk (show (x39_2 : Int).toNat ≤ t206.length from by omega)
                      replace q27 := eq_true q27
                      go_wp2
                      go_loopg [8, 9, 48] k2 (fun kq v8 v9 v48 w' => ∃ (x8_3 : List (S90)) (x9_3 : Int) (x48_3 : Int), v9 = .int .i64 x9_3 ∧ v48 = .int .i64 x48_3 ∧ Aside0 (impl_SweepPairs.l2 kq l0 t206 x8_3 x9_3 (rd t206 x39_2) t206 (t206.length : Int) x39_2 y216 (y216.length : Int) x48_3 = some (r1, r2, r3)) ∧ Aside0 (kq ≤ k2) ∧ Aside0 (Kd.R (Kd.int .i64) 3 w' w.heap.size (fun k_ => k_ ≠ gb197 ∧ k_ ≠ gb205) (.slice (some ad215) t206.length co17) t206) ∧ Aside0 (Kd.R k90 90 w' w.heap.size (fun _ => True) v8 x8_3) ∧ Aside0 (Kd.R (Kd.int .i64) 3 w' w.heap.size (fun k_ => k_ ≠ gb197 ∧ k_ ≠ gb205) (.slice (some ad215) t206.length co17) t206) ∧ Aside0 (w'.heap[gb197]? = some (.cells #[(.slice A0 l0.length c0 : Value)] 55 (0, 0))) ∧ Aside0 (w'.heap[gb205]? = some (.cells #[(.func (.func 79) #[] #[.pointer (some ⟨gb197, 0, none⟩)] : Value)] 125 (0, 0))) ∧ Aside0 (Kd.C (Kd.int .i64) w' (some ad215) y216.length y216) ∧ Aside0 (Below w.heap.size w w'))
                      case atStart => exact ⟨(x8_2), (x9_2), (0), (by first | rfl | (simp; done) | (simp [*]; done)), (by first | rfl | (simp; done) | (simp [*]; done)), H', ⟨Nat.le_refl _⟩, ⟨by (with_reducible repeat (first | apply Kd.R_alloc | apply Kd.R_drewN | apply Kd.R_drew)); exact HO_5.out⟩, ⟨by (with_reducible repeat (first | apply Kd.R_alloc | apply Kd.R_drewN | apply Kd.R_drew)); exact HO_8.out⟩, ⟨by (with_reducible repeat (first | apply Kd.R_alloc | apply Kd.R_drewN | apply Kd.R_drew)); exact HO_37.out⟩, ⟨by (with_reducible repeat (first | refine blk_drewN ?_ _ | refine blk_drew ?_ | refine blk_alloc ?_ _)); exact BK197.out⟩, ⟨by (with_reducible repeat (first | refine blk_drewN ?_ _ | refine blk_drew ?_ | refine blk_alloc ?_ _)); exact BK205.out⟩, ⟨by repeat (first | (with_reducible exact HR219.out) | (with_reducible refine Kd.C_alloc ?_ _) | (with_reducible refine Kd.C_drewN ?_ _) | (with_reducible refine Kd.C_drew ?_) | exact HR219.out)⟩, ⟨by repeat (first | (with_reducible first | exact HB.out | apply below_alloc | apply pw_below_drewN | apply below_drew1 | refine below_set ?_ GE197.out | refine below_set ?_ GE205.out) | exact HB.out)⟩⟩
                      case round =>
                        clear H'
                        try clear c1
                        try clear c2
                        try clear p2
                        try clear q2
                        try clear hx2
                        try clear c3
                        try clear c6
                        try clear p6
                        try clear c8
                        try clear c10
                        try clear c10b0
                        try clear c11
                        try clear c15
                        try clear p21
                        try clear q21
                        try clear hx21
                        try clear c22
                        try clear c22b0
                        try clear c23
                        try clear c23b0
                        try clear c24
                        try clear c24b0
                        try clear c25
                        try clear c25b0
                        try clear c26
                        try clear c26b0
                        try clear c26b1
                        try clear q27
                        try clear hcz16_0
                        try clear hcz5_0
                        try clear hcz9_0
                        try clear hfz16_0
                        try clear hfz5_0
                        try clear hfz9_0
                        try clear hx215_0
                        try clear p2
                        try clear p215
                        try clear p6
                        try clear q215
                        try clear q27
                        obtain ⟨x8_3, x9_3, x48_3, rfl, rfl, HA, HK3, HO_5, HO_8, HO_37, BK197, BK205, HR219, HB⟩ := hrel
                        cases gk with
                        | zero => exact absurd HA.out (by simp [impl_SweepPairs.l2])
                        | succ k3 =>
                          have H := HA.out
                          clear HA
                          simp only [impl_SweepPairs.l2] at H
                          by_cases c28 : x48_3 < (y216.length : Int)
                          · rw [if_pos c28] at H
                            have c28b0 : decide (x48_3 < (y216.length : Int)) = true := decide_eq_true c28
                            clear c28
                            by_cases c29 : 0 ≤ x48_3
                            · rw [if_pos c29] at H
                              have c29b0 : decide (0 ≤ x48_3) = true := decide_eq_true c29
                              clear c29
                              by_cases c30 : x48_3 < (y216.length : Int)
                              · rw [if_pos c30] at H
                                have c30b0 : decide (x48_3 < (y216.length : Int)) = true := decide_eq_true c30
                                clear c30
                                by_cases c31 : 0 ≤ (rd y216 x48_3)
                                · rw [if_pos c31] at H
                                  have c31b0 : decide (0 ≤ (rd y216 x48_3)) = true := decide_eq_true c31
                                  clear c31
                                  by_cases c32 : (rd y216 x48_3) < (l0.length : Int)
                                  · rw [if_pos c32] at H
                                    have c32b0 : decide ((rd y216 x48_3) < (l0.length : Int)) = true := decide_eq_true c32
                                    clear c32
                                    replace H := Option.bind_eq_some_iff.mp H
                                    obtain ⟨⟨t222, t223, t224, t225⟩, A330, H⟩ := H
                                    replace H : (if 0 ≤ (rd t206 x39_2) then (if (rd t206 x39_2) < (l0.length : Int) then ((impl_Shape_bounds.f ((rd_T100 l0 (rd t206 x39_2)).f0) ((rd_T100 l0 (rd t206 x39_2)).f1) ((rd_T100 l0 (rd t206 x39_2)).f2) ((rd_T100 l0 (rd t206 x39_2)).f3) ((rd_T100 l0 (rd t206 x39_2)).f4)).bind fun bt227 => (if t224 < bt227.1 then (impl_SweepPairs.l2 k3 l0 t206 x8_3 x9_3 (rd t206 x39_2) t206 (t206.length : Int) x39_2 y216 (y216.length : Int) (wrap64 (x48_3 + 1))) else ((impl_touch.f k3 ((rd_T100 l0 (rd t206 x39_2)).f0) ((rd_T100 l0 (rd t206 x39_2)).f1) ((rd_T100 l0 (rd t206 x39_2)).f2) ((rd_T100 l0 (rd t206 x39_2)).f3) ((rd_T100 l0 (rd t206 x39_2)).f4) ((rd_T100 l0 (rd y216 x48_3)).f0) ((rd_T100 l0 (rd y216 x48_3)).f1) ((rd_T100 l0 (rd y216 x48_3)).f2) ((rd_T100 l0 (rd y216 x48_3)).f3) ((rd_T100 l0 (rd y216 x48_3)).f4)).bind fun t233 => (if t233 = true then (if x8_3.length < 8796093022208 then (impl_SweepPairs.l2 k3 l0 t206 (x8_3 ++ [(⟨mn (rd t206 x39_2) (rd y216 x48_3), mx (rd t206 x39_2) (rd y216 x48_3)⟩ : S90)]) (wrap64 (x9_3 + 1)) (rd t206 x39_2) t206 (t206.length : Int) x39_2 y216 (y216.length : Int) (wrap64 (x48_3 + 1))) else (none)) else (impl_SweepPairs.l2 k3 l0 t206 x8_3 (wrap64 (x9_3 + 1)) (rd t206 x39_2) t206 (t206.length : Int) x39_2 y216 (y216.length : Int) (wrap64 (x48_3 + 1))))))) else (none)) else (none)) = some (r1, r2, r3) := H
                                    have A33 := Aside0.mk A330
                                    clear A330
                                    by_cases c34 : 0 ≤ (rd t206 x39_2)
                                    · rw [if_pos c34] at H
                                      have c34b0 : decide (0 ≤ (rd t206 x39_2)) = true := decide_eq_true c34
                                      clear c34
                                      by_cases c35 : (rd t206 x39_2) < (l0.length : Int)
                                      · rw [if_pos c35] at H
                                        have c35b0 : decide ((rd t206 x39_2) < (l0.length : Int)) = true := decide_eq_true c35
                                        clear c35
                                        replace H := Option.bind_eq_some_iff.mp H
                                        obtain ⟨⟨t227, t228, t229, t230⟩, A360, H⟩ := H
                                        replace H : (if t224 < t227 then (impl_SweepPairs.l2 k3 l0 t206 x8_3 x9_3 (rd t206 x39_2) t206 (t206.length : Int) x39_2 y216 (y216.length : Int) (wrap64 (x48_3 + 1))) else ((impl_touch.f k3 ((rd_T100 l0 (rd t206 x39_2)).f0) ((rd_T100 l0 (rd t206 x39_2)).f1) ((rd_T100 l0 (rd t206 x39_2)).f2) ((rd_T100 l0 (rd t206 x39_2)).f3) ((rd_T100 l0 (rd t206 x39_2)).f4) ((rd_T100 l0 (rd y216 x48_3)).f0) ((rd_T100 l0 (rd y216 x48_3)).f1) ((rd_T100 l0 (rd y216 x48_3)).f2) ((rd_T100 l0 (rd y216 x48_3)).f3) ((rd_T100 l0 (rd y216 x48_3)).f4)).bind fun t233 => (if t233 = true then (if x8_3.length < 8796093022208 then (impl_SweepPairs.l2 k3 l0 t206 (x8_3 ++ [(⟨mn (rd t206 x39_2) (rd y216 x48_3), mx (rd t206 x39_2) (rd y216 x48_3)⟩ : S90)]) (wrap64 (x9_3 + 1)) (rd t206 x39_2) t206 (t206.length : Int) x39_2 y216 (y216.length : Int) (wrap64 (x48_3 + 1))) else (none)) else (impl_SweepPairs.l2 k3 l0 t206 x8_3 (wrap64 (x9_3 + 1)) (rd t206 x39_2) t206 (t206.length : Int) x39_2 y216 (y216.length : Int) (wrap64 (x48_3 + 1)))))) = some (r1, r2, r3) := H
                                        have A36 := Aside0.mk A360
                                        clear A360
                                        by_cases c37 : t224 < t227
                                        · rw [if_pos c37] at H
                                          have c37b0 : decide (t224 < t227) = true := decide_eq_true c37
                                          clear c37
                                          have H' := Aside0.mk H
                                          clear H
                                          have p220 : 0 ≤ (x48_3 : Int) := of_decide_eq_true (by first | (with_reducible assumption) | assumption)
                                          have q220 : x48_3 < (y216.length : Int) := of_decide_eq_true (by first | (with_reducible assumption) | assumption)
                                          obtain ⟨ad220, e220, hx220_0⟩ := Kd.at_int HR219.out x48_3 p220 q220
                                          obtain rfl : ad215 = ad220 := (by injection e220)
                                          replace p220 := eq_true p220
                                          replace q220 := eq_true q220
                                          have hnb38 := NB197_205.out
                                          have hnc38 := NB205_197.out
                                          have hcz39_0 : wr.cell? ⟨gb197, 0, none⟩ = some (.slice A0 l0.length c0 : Value) := (blk_cell BK197.out 0).trans rfl
                                          have hfz39_0 := blk_frozen BK197.out 0
                                          have p221 : 0 ≤ ((rd y216 x48_3) : Int) := of_decide_eq_true (by first | (with_reducible assumption) | assumption)
                                          have q221 : (rd y216 x48_3) < (l0.length : Int) := of_decide_eq_true (by first | (with_reducible assumption) | assumption)
                                          obtain ⟨ad221, e221, hx221_0, hx221_1, hx221_2, hx221_3, hx221_4⟩ := at_T100 HR0.out (rd y216 x48_3) p221 q221
                                          cases e221
                                          replace hx221_0 := (HB.out.cell (World.block_lt_of_cell? w _ hx221_0)).trans hx221_0
                                          replace hx221_1 := (HB.out.cell (World.block_lt_of_cell? w _ hx221_1)).trans hx221_1
                                          replace hx221_2 := (HB.out.cell (World.block_lt_of_cell? w _ hx221_2)).trans hx221_2
                                          replace hx221_3 := (HB.out.cell (World.block_lt_of_cell? w _ hx221_3)).trans hx221_3
                                          replace hx221_4 := (HB.out.cell (World.block_lt_of_cell? w _ hx221_4)).trans hx221_4
                                          replace p221 := eq_true p221
                                          replace q221 := eq_true q221
                                          go_wp2_with (first | ((with_reducible refine gate_callee (f := 69) rfl ?_); refine goesL_ (some 57) rfl rfl Try.func69 (by kernel_rfl) rfl #[.agg #[.int .i64 ((rd_T100 l0 (rd y216 x48_3)).f0), .int .i64 ((rd_T100 l0 (rd y216 x48_3)).f1), .int .i64 ((rd_T100 l0 (rd y216 x48_3)).f2), .int .i64 ((rd_T100 l0 (rd y216 x48_3)).f3), .int .i64 ((rd_T100 l0 (rd y216 x48_3)).f4)]] rfl (by (try simp only [List.map_toArray, List.map_cons, List.map_nil]); first | done | rfl | (simp only [List.length_drop, List.length_take]; rfl)) ?_; (with_reducible refine (impl_Shape_bounds.calls ((rd_T100 l0 (rd y216 x48_3)).f0) ((rd_T100 l0 (rd y216 x48_3)).f1) ((rd_T100 l0 (rd y216 x48_3)).f2) ((rd_T100 l0 (rd y216 x48_3)).f3) ((rd_T100 l0 (rd y216 x48_3)).f4) t222 t223 t224 t225 _ A33.out).mono ?_); rintro e w40 ⟨rfl, hb⟩; refine ⟨_, rfl, ?_⟩; have n0_ := Aside0.mk (Kd.R_below (by (with_reducible repeat (first | apply Kd.R_alloc | apply Kd.R_drewN | apply Kd.R_drew)); exact HO_5.out) hb); have n1_ := Aside0.mk (Kd.R_below (by (with_reducible repeat (first | apply Kd.R_alloc | apply Kd.R_drewN | apply Kd.R_drew)); exact HO_8.out) hb); have n2_ := Aside0.mk (Kd.R_below (by (with_reducible repeat (first | apply Kd.R_alloc | apply Kd.R_drewN | apply Kd.R_drew)); exact HO_37.out) hb); have n3_ := Aside0.mk (blk_below (g := gb197) (o := .cells #[(.slice (some ad221) l0.length c0 : Value)] 55 (0, 0)) (by (with_reducible repeat (first | refine blk_drewN ?_ _ | refine blk_drew ?_ | refine blk_alloc ?_ _)); exact BK197.out) hb); have n4_ := Aside0.mk (blk_below (g := gb205) (o := .cells #[(.func (.func 79) #[] #[.pointer (some ⟨gb197, 0, none⟩)] : Value)] 125 (0, 0)) (by (with_reducible repeat (first | refine blk_drewN ?_ _ | refine blk_drew ?_ | refine blk_alloc ?_ _)); exact BK205.out) hb); have n5_ := Aside0.mk (Kd.C_below (by repeat (first | (with_reducible exact HR219.out) | (with_reducible refine Kd.C_alloc ?_ _) | (with_reducible refine Kd.C_drewN ?_ _) | (with_reducible refine Kd.C_drew ?_) | exact HR219.out)) hb); have n6_ := Aside0.mk (below_step (by repeat (first | (with_reducible first | exact HB.out | apply below_alloc | apply pw_below_drewN | apply below_drew1 | refine below_set ?_ GE197.out | refine below_set ?_ GE205.out) | exact HB.out)) hb); clear HO_5; clear HO_8; clear HO_37; clear BK197; clear BK205; clear HR219; clear HB; have HO_5 := n0_; have HO_8 := n1_; have HO_37 := n2_; have BK197 := n3_; have BK205 := n4_; have HR219 := n5_; have HB := n6_; clear n0_ n1_ n2_ n3_ n4_ n5_ n6_; (try clear hb); (try clear hb2); (try clear hk); (try clear hi); have hcz41_0 : w40.cell? ⟨gb205, 0, none⟩ = some (.func (.func 79) #[] #[.pointer (some ⟨gb197, 0, none⟩)] : Value) := (blk_cell BK205.out 0).trans rfl; have hfz41_0 := blk_frozen BK205.out 0; have p226 : 0 ≤ ((rd t206 x39_2) : Int) := of_decide_eq_true (by first | (with_reducible assumption) | assumption); have q226 : (rd t206 x39_2) < (l0.length : Int) := of_decide_eq_true (by first | (with_reducible assumption) | assumption); obtain ⟨ad226, e226, hx226_0, hx226_1, hx226_2, hx226_3, hx226_4⟩ := at_T100 HR0.out (rd t206 x39_2) p226 q226; obtain rfl : ad221 = ad226 := (by injection e226); replace hx226_0 := (HB.out.cell (World.block_lt_of_cell? w _ hx226_0)).trans hx226_0; replace hx226_1 := (HB.out.cell (World.block_lt_of_cell? w _ hx226_1)).trans hx226_1; replace hx226_2 := (HB.out.cell (World.block_lt_of_cell? w _ hx226_2)).trans hx226_2; replace hx226_3 := (HB.out.cell (World.block_lt_of_cell? w _ hx226_3)).trans hx226_3; replace hx226_4 := (HB.out.cell (World.block_lt_of_cell? w _ hx226_4)).trans hx226_4; replace p226 := eq_true p226; replace q226 := eq_true q226))
                                          refine (slices_SortStableFunc_int_int.least _ _ l0 gb197 (rd t206 x39_2) t227 t228 t229 t230 _ (by repeat (first | exact (Kd.C_below HR0.out HB.out) | (with_reducible refine Kd.C_alloc ?_ _) | (with_reducible refine Kd.C_drewN ?_ _) | (with_reducible refine Kd.C_drew ?_))) (by (with_reducible repeat (first | refine blk_drewN ?_ _ | refine blk_drew ?_ | refine blk_alloc ?_ _)); exact BK197.out) (of_decide_eq_true (by first | (with_reducible assumption) | assumption)) (of_decide_eq_true (by first | (with_reducible assumption) | assumption)) A36.out).mono ?_
                                          rintro e w42 ⟨rfl, hb⟩
                                          (have n0_ := Aside0.mk (Kd.R_below (by (with_reducible repeat (first | apply Kd.R_alloc | apply Kd.R_drewN | apply Kd.R_drew)); exact HO_5.out) hb); have n1_ := Aside0.mk (Kd.R_below (by (with_reducible repeat (first | apply Kd.R_alloc | apply Kd.R_drewN | apply Kd.R_drew)); exact HO_8.out) hb); have n2_ := Aside0.mk (Kd.R_below (by (with_reducible repeat (first | apply Kd.R_alloc | apply Kd.R_drewN | apply Kd.R_drew)); exact HO_37.out) hb); have n3_ := Aside0.mk (blk_below (g := gb197) (o := .cells #[(.slice (some ad221) l0.length c0 : Value)] 55 (0, 0)) (by (with_reducible repeat (first | refine blk_drewN ?_ _ | refine blk_drew ?_ | refine blk_alloc ?_ _)); exact BK197.out) hb); have n4_ := Aside0.mk (blk_below (g := gb205) (o := .cells #[(.func (.func 79) #[] #[.pointer (some ⟨gb197, 0, none⟩)] : Value)] 125 (0, 0)) (by (with_reducible repeat (first | refine blk_drewN ?_ _ | refine blk_drew ?_ | refine blk_alloc ?_ _)); exact BK205.out) hb); have n5_ := Aside0.mk (Kd.C_below (by repeat (first | (with_reducible exact HR219.out) | (with_reducible refine Kd.C_alloc ?_ _) | (with_reducible refine Kd.C_drewN ?_ _) | (with_reducible refine Kd.C_drew ?_) | exact HR219.out)) hb); have n6_ := Aside0.mk (below_step (by repeat (first | (with_reducible first | exact HB.out | apply below_alloc | apply pw_below_drewN | apply below_drew1 | refine below_set ?_ GE197.out | refine below_set ?_ GE205.out) | exact HB.out)) hb); clear HO_5; clear HO_8; clear HO_37; clear BK197; clear BK205; clear HR219; clear HB; have HO_5 := n0_; have HO_8 := n1_; have HO_37 := n2_; have BK197 := n3_; have BK205 := n4_; have HR219 := n5_; have HB := n6_; clear n0_ n1_ n2_ n3_ n4_ n5_ n6_; (try clear hb); (try clear hb2); (try clear hk); (try clear hi))
                                          try go_wp2
                                          go_roundg k3
                                          case measure => have := HK1.out; have := HK2.out; have := HK3.out; omega
                                          case rel => exact ⟨(x8_3), (x9_3), (wrap64 (x48_3 + 1)), (by first | rfl | (simp; done) | (simp [*]; done)), (by first | rfl | (simp; done) | (simp [*]; done)), H', ⟨by have := HK1.out; have := HK2.out; have := HK3.out; omega⟩, ⟨by (with_reducible repeat (first | apply Kd.R_alloc | apply Kd.R_drewN | apply Kd.R_drew)); exact HO_5.out⟩, ⟨by (with_reducible repeat (first | apply Kd.R_alloc | apply Kd.R_drewN | apply Kd.R_drew)); exact HO_8.out⟩, ⟨by (with_reducible repeat (first | apply Kd.R_alloc | apply Kd.R_drewN | apply Kd.R_drew)); exact HO_37.out⟩, ⟨by (with_reducible repeat (first | refine blk_drewN ?_ _ | refine blk_drew ?_ | refine blk_alloc ?_ _)); exact BK197.out⟩, ⟨by (with_reducible repeat (first | refine blk_drewN ?_ _ | refine blk_drew ?_ | refine blk_alloc ?_ _)); exact BK205.out⟩, ⟨by repeat (first | (with_reducible exact HR219.out) | (with_reducible refine Kd.C_alloc ?_ _) | (with_reducible refine Kd.C_drewN ?_ _) | (with_reducible refine Kd.C_drew ?_) | exact HR219.out)⟩, ⟨by repeat (first | (with_reducible first | exact HB.out | apply below_alloc | apply pw_below_drewN | apply below_drew1 | refine below_set ?_ GE197.out | refine below_set ?_ GE205.out) | exact HB.out)⟩⟩
                                        · rw [if_neg c37] at H
                                          have c37b0 : decide (t224 < t227) = false := decide_eq_false c37
                                          clear c37
                                          replace H := Option.bind_eq_some_iff.mp H
                                          obtain ⟨t233, A430, H⟩ := H
                                          replace H : (if t233 = true then (if x8_3.length < 8796093022208 then (impl_SweepPairs.l2 k3 l0 t206 (x8_3 ++ [(⟨mn (rd t206 x39_2) (rd y216 x48_3), mx (rd t206 x39_2) (rd y216 x48_3)⟩ : S90)]) (wrap64 (x9_3 + 1)) (rd t206 x39_2) t206 (t206.length : Int) x39_2 y216 (y216.length : Int) (wrap64 (x48_3 + 1))) else (none)) else (impl_SweepPairs.l2 k3 l0 t206 x8_3 (wrap64 (x9_3 + 1)) (rd t206 x39_2) t206 (t206.length : Int) x39_2 y216 (y216.length : Int) (wrap64 (x48_3 + 1)))) = some (r1, r2, r3) := H
                                          have A43 := Aside0.mk A430
                                          clear A430
                                          by_cases c44 : t233 = true
                                          · subst c44
                                            have H1 : (if x8_3.length < 8796093022208 then (impl_SweepPairs.l2 k3 l0 t206 (x8_3 ++ [(⟨mn (rd t206 x39_2) (rd y216 x48_3), mx (rd t206 x39_2) (rd y216 x48_3)⟩ : S90)]) (wrap64 (x9_3 + 1)) (rd t206 x39_2) t206 (t206.length : Int) x39_2 y216 (y216.length : Int) (wrap64 (x48_3 + 1))) else (none)) = some (r1, r2, r3) := by rw [if_pos rfl] at H; exact H
                                            clear H
                                            have H := H1
                                            clear H1
                                            obtain ⟨ji45, hji45⟩ : ∃ j_ : Int, (mn (rd t206 x39_2) (rd y216 x48_3)) = j_ := ⟨_, rfl⟩
                                            replace H : (if x8_3.length < 8796093022208 then (impl_SweepPairs.l2 k3 l0 t206 (x8_3 ++ [(⟨ji45, mx (rd t206 x39_2) (rd y216 x48_3)⟩ : S90)]) (wrap64 (x9_3 + 1)) (rd t206 x39_2) t206 (t206.length : Int) x39_2 y216 (y216.length : Int) (wrap64 (x48_3 + 1))) else (none)) = some (r1, r2, r3) := by first | (rw [hji45] at H; exact H) | (simp only [hji45] at H ⊢; exact H)
                                            (try rw [hji45] at A33)
                                            (try rw [hji45] at A36)
                                            (try rw [hji45] at A43)
                                            have hji45_ : (if (rd y216 x48_3) < (rd t206 x39_2) then (rd y216 x48_3) else (rd t206 x39_2)) = ji45 := hji45
                                            obtain ⟨ji46, hji46⟩ : ∃ j_ : Int, (mx (rd t206 x39_2) (rd y216 x48_3)) = j_ := ⟨_, rfl⟩
                                            replace H : (if x8_3.length < 8796093022208 then (impl_SweepPairs.l2 k3 l0 t206 (x8_3 ++ [(⟨ji45, ji46⟩ : S90)]) (wrap64 (x9_3 + 1)) (rd t206 x39_2) t206 (t206.length : Int) x39_2 y216 (y216.length : Int) (wrap64 (x48_3 + 1))) else (none)) = some (r1, r2, r3) := by first | (rw [hji46] at H; exact H) | (simp only [hji46] at H ⊢; exact H)
                                            (try rw [hji46] at A33)
                                            (try rw [hji46] at A36)
                                            (try rw [hji46] at A43)
                                            have hji46_ : (if (rd t206 x39_2) < (rd y216 x48_3) then (rd y216 x48_3) else (rd t206 x39_2)) = ji46 := hji46
                                            by_cases c47 : x8_3.length < 8796093022208
                                            · rw [if_pos c47] at H
                                              have LMc47 := Aside0.mk c47
                                              clear c47
                                              obtain ⟨y234, hy234⟩ : ∃ y_ : List (S90), y_ = (x8_3 ++ [(⟨ji45, ji46⟩ : S90)]) := ⟨_, rfl⟩
                                              replace H : (impl_SweepPairs.l2 k3 l0 t206 y234 (wrap64 (x9_3 + 1)) (rd t206 x39_2) t206 (t206.length : Int) x39_2 y216 (y216.length : Int) (wrap64 (x48_3 + 1))) = some (r1, r2, r3) := by first | (rw [hy234]; with_reducible exact H) | (have H2_ := (Option.bind_some _ _).symm.trans H; rw [hy234]; with_reducible exact H2_) | (have H2_ := (Option.bind_some _ _).symm.trans H; with_reducible exact H2_) | with_reducible exact H | (rw [hy234]; exact H) | exact H
                                              have Ny234 := Aside0.mk hy234
                                              clear hy234
                                              have H' := Aside0.mk H
                                              clear H
                                              have p220 : 0 ≤ (x48_3 : Int) := of_decide_eq_true (by first | (with_reducible assumption) | assumption)
                                              have q220 : x48_3 < (y216.length : Int) := of_decide_eq_true (by first | (with_reducible assumption) | assumption)
                                              obtain ⟨ad220, e220, hx220_0⟩ := Kd.at_int HR219.out x48_3 p220 q220
                                              obtain rfl : ad215 = ad220 := (by injection e220)
                                              replace p220 := eq_true p220
                                              replace q220 := eq_true q220
                                              have hnb48 := NB197_205.out
                                              have hnc48 := NB205_197.out
                                              have hcz49_0 : wr.cell? ⟨gb197, 0, none⟩ = some (.slice A0 l0.length c0 : Value) := (blk_cell BK197.out 0).trans rfl
                                              have hfz49_0 := blk_frozen BK197.out 0
                                              have p221 : 0 ≤ ((rd y216 x48_3) : Int) := of_decide_eq_true (by first | (with_reducible assumption) | assumption)
                                              have q221 : (rd y216 x48_3) < (l0.length : Int) := of_decide_eq_true (by first | (with_reducible assumption) | assumption)
                                              obtain ⟨ad221, e221, hx221_0, hx221_1, hx221_2, hx221_3, hx221_4⟩ := at_T100 HR0.out (rd y216 x48_3) p221 q221
                                              cases e221
                                              replace hx221_0 := (HB.out.cell (World.block_lt_of_cell? w _ hx221_0)).trans hx221_0
                                              replace hx221_1 := (HB.out.cell (World.block_lt_of_cell? w _ hx221_1)).trans hx221_1
                                              replace hx221_2 := (HB.out.cell (World.block_lt_of_cell? w _ hx221_2)).trans hx221_2
                                              replace hx221_3 := (HB.out.cell (World.block_lt_of_cell? w _ hx221_3)).trans hx221_3
                                              replace hx221_4 := (HB.out.cell (World.block_lt_of_cell? w _ hx221_4)).trans hx221_4
                                              replace p221 := eq_true p221
                                              replace q221 := eq_true q221
                                              try go_wp2_with (first | ((with_reducible refine gate_callee (f := 69) rfl ?_); refine goesL_ (some 57) rfl rfl Try.func69 (by kernel_rfl) rfl #[.agg #[.int .i64 ((rd_T100 l0 (rd y216 x48_3)).f0), .int .i64 ((rd_T100 l0 (rd y216 x48_3)).f1), .int .i64 ((rd_T100 l0 (rd y216 x48_3)).f2), .int .i64 ((rd_T100 l0 (rd y216 x48_3)).f3), .int .i64 ((rd_T100 l0 (rd y216 x48_3)).f4)]] rfl (by (try simp only [List.map_toArray, List.map_cons, List.map_nil]); first | done | rfl | (simp only [List.length_drop, List.length_take]; rfl)) ?_; (with_reducible refine (impl_Shape_bounds.calls ((rd_T100 l0 (rd y216 x48_3)).f0) ((rd_T100 l0 (rd y216 x48_3)).f1) ((rd_T100 l0 (rd y216 x48_3)).f2) ((rd_T100 l0 (rd y216 x48_3)).f3) ((rd_T100 l0 (rd y216 x48_3)).f4) t222 t223 t224 t225 _ A33.out).mono ?_); rintro e w50 ⟨rfl, hb⟩; refine ⟨_, rfl, ?_⟩; have n0_ := Aside0.mk (Kd.R_below (by (with_reducible repeat (first | apply Kd.R_alloc | apply Kd.R_drewN | apply Kd.R_drew)); exact HO_5.out) hb); have n1_ := Aside0.mk (Kd.R_below (by (with_reducible repeat (first | apply Kd.R_alloc | apply Kd.R_drewN | apply Kd.R_drew)); exact HO_8.out) hb); have n2_ := Aside0.mk (Kd.R_below (by (with_reducible repeat (first | apply Kd.R_alloc | apply Kd.R_drewN | apply Kd.R_drew)); exact HO_37.out) hb); have n3_ := Aside0.mk (blk_below (g := gb197) (o := .cells #[(.slice (some ad221) l0.length c0 : Value)] 55 (0, 0)) (by (with_reducible repeat (first | refine blk_drewN ?_ _ | refine blk_drew ?_ | refine blk_alloc ?_ _)); exact BK197.out) hb); have n4_ := Aside0.mk (blk_below (g := gb205) (o := .cells #[(.func (.func 79) #[] #[.pointer (some ⟨gb197, 0, none⟩)] : Value)] 125 (0, 0)) (by (with_reducible repeat (first | refine blk_drewN ?_ _ | refine blk_drew ?_ | refine blk_alloc ?_ _)); exact BK205.out) hb); have n5_ := Aside0.mk (Kd.C_below (by repeat (first | (with_reducible exact HR219.out) | (with_reducible refine Kd.C_alloc ?_ _) | (with_reducible refine Kd.C_drewN ?_ _) | (with_reducible refine Kd.C_drew ?_) | exact HR219.out)) hb); have n6_ := Aside0.mk (below_step (by repeat (first | (with_reducible first | exact HB.out | apply below_alloc | apply pw_below_drewN | apply below_drew1 | refine below_set ?_ GE197.out | refine below_set ?_ GE205.out) | exact HB.out)) hb); clear HO_5; clear HO_8; clear HO_37; clear BK197; clear BK205; clear HR219; clear HB; have HO_5 := n0_; have HO_8 := n1_; have HO_37 := n2_; have BK197 := n3_; have BK205 := n4_; have HR219 := n5_; have HB := n6_; clear n0_ n1_ n2_ n3_ n4_ n5_ n6_; (try clear hb); (try clear hb2); (try clear hk); (try clear hi); have hcz51_0 : w50.cell? ⟨gb205, 0, none⟩ = some (.func (.func 79) #[] #[.pointer (some ⟨gb197, 0, none⟩)] : Value) := (blk_cell BK205.out 0).trans rfl; have hfz51_0 := blk_frozen BK205.out 0; have p226 : 0 ≤ ((rd t206 x39_2) : Int) := of_decide_eq_true (by first | (with_reducible assumption) | assumption); have q226 : (rd t206 x39_2) < (l0.length : Int) := of_decide_eq_true (by first | (with_reducible assumption) | assumption); obtain ⟨ad226, e226, hx226_0, hx226_1, hx226_2, hx226_3, hx226_4⟩ := at_T100 HR0.out (rd t206 x39_2) p226 q226; obtain rfl : ad221 = ad226 := (by injection e226); replace hx226_0 := (HB.out.cell (World.block_lt_of_cell? w _ hx226_0)).trans hx226_0; replace hx226_1 := (HB.out.cell (World.block_lt_of_cell? w _ hx226_1)).trans hx226_1; replace hx226_2 := (HB.out.cell (World.block_lt_of_cell? w _ hx226_2)).trans hx226_2; replace hx226_3 := (HB.out.cell (World.block_lt_of_cell? w _ hx226_3)).trans hx226_3; replace hx226_4 := (HB.out.cell (World.block_lt_of_cell? w _ hx226_4)).trans hx226_4; replace p226 := eq_true p226; replace q226 := eq_true q226))
                                              refine (slices_SortStableFunc_int_int.least _ _ l0 gb197 (rd t206 x39_2) t227 t228 t229 t230 _ (by repeat (first | exact (Kd.C_below HR0.out HB.out) | (with_reducible refine Kd.C_alloc ?_ _) | (with_reducible refine Kd.C_drewN ?_ _) | (with_reducible refine Kd.C_drew ?_))) (by (with_reducible repeat (first | refine blk_drewN ?_ _ | refine blk_drew ?_ | refine blk_alloc ?_ _)); exact BK197.out) (of_decide_eq_true (by first | (with_reducible assumption) | assumption)) (of_decide_eq_true (by first | (with_reducible assumption) | assumption)) A36.out).mono ?_
                                              rintro e w52 ⟨rfl, hb⟩
                                              (have n0_ := Aside0.mk (Kd.R_below (by (with_reducible repeat (first | apply Kd.R_alloc | apply Kd.R_drewN | apply Kd.R_drew)); exact HO_5.out) hb); have n1_ := Aside0.mk (Kd.R_below (by (with_reducible repeat (first | apply Kd.R_alloc | apply Kd.R_drewN | apply Kd.R_drew)); exact HO_8.out) hb); have n2_ := Aside0.mk (Kd.R_below (by (with_reducible repeat (first | apply Kd.R_alloc | apply Kd.R_drewN | apply Kd.R_drew)); exact HO_37.out) hb); have n3_ := Aside0.mk (blk_below (g := gb197) (o := .cells #[(.slice (some ad221) l0.length c0 : Value)] 55 (0, 0)) (by (with_reducible repeat (first | refine blk_drewN ?_ _ | refine blk_drew ?_ | refine blk_alloc ?_ _)); exact BK197.out) hb); have n4_ := Aside0.mk (blk_below (g := gb205) (o := .cells #[(.func (.func 79) #[] #[.pointer (some ⟨gb197, 0, none⟩)] : Value)] 125 (0, 0)) (by (with_reducible repeat (first | refine blk_drewN ?_ _ | refine blk_drew ?_ | refine blk_alloc ?_ _)); exact BK205.out) hb); have n5_ := Aside0.mk (Kd.C_below (by repeat (first | (with_reducible exact HR219.out) | (with_reducible refine Kd.C_alloc ?_ _) | (with_reducible refine Kd.C_drewN ?_ _) | (with_reducible refine Kd.C_drew ?_) | exact HR219.out)) hb); have n6_ := Aside0.mk (below_step (by repeat (first | (with_reducible first | exact HB.out | apply below_alloc | apply pw_below_drewN | apply below_drew1 | refine below_set ?_ GE197.out | refine below_set ?_ GE205.out) | exact HB.out)) hb); clear HO_5; clear HO_8; clear HO_37; clear BK197; clear BK205; clear HR219; clear HB; have HO_5 := n0_; have HO_8 := n1_; have HO_37 := n2_; have BK197 := n3_; have BK205 := n4_; have HR219 := n5_; have HB := n6_; clear n0_ n1_ n2_ n3_ n4_ n5_ n6_; (try clear hb); (try clear hb2); (try clear hk); (try clear hi))
                                              try go_wp2
                                              have n0_ := Aside0.mk (Kd.R_drew HO_5.out)
                                              have n1_ := Aside0.mk (Kd.R_drew HO_8.out)
                                              have n2_ := Aside0.mk (Kd.R_drew HO_37.out)
                                              have n3_ := Aside0.mk (blk_drew BK197.out)
                                              have n4_ := Aside0.mk (blk_drew BK205.out)
                                              have n5_ := Aside0.mk (Kd.C_drew HR219.out)
                                              have n6_ := Aside0.mk (below_drew1 HB.out)
                                              clear HO_5
                                              clear HO_8
                                              clear HO_37
                                              clear BK197
                                              clear BK205
                                              clear HR219
                                              clear HB
                                              have HO_5 := n0_
                                              have HO_8 := n1_
                                              have HO_37 := n2_
                                              have BK197 := n3_
                                              have BK205 := n4_
                                              have HR219 := n5_
                                              have HB := n6_
                                              clear n0_ n1_ n2_ n3_ n4_ n5_ n6_
                                              have p231 : 0 ≤ ((rd t206 x39_2) : Int) := of_decide_eq_true (by first | (with_reducible assumption) | assumption)
                                              have q231 : (rd t206 x39_2) < (l0.length : Int) := of_decide_eq_true (by first | (with_reducible assumption) | assumption)
                                              obtain ⟨ad231, e231, hx231_0, hx231_1, hx231_2, hx231_3, hx231_4⟩ := at_T100 HR0.out (rd t206 x39_2) p231 q231
                                              have hw231_4 := hx231_4
                                              have hw231_3 := hx231_3
                                              have hw231_2 := hx231_2
                                              have hw231_1 := hx231_1
                                              have hw231_0 := hx231_0
                                              obtain rfl : ad221 = ad231 := (by injection e231)
                                              replace hx231_0 := (HB.out.cell (World.block_lt_of_cell? w _ hx231_0)).trans hx231_0
                                              replace hx231_1 := (HB.out.cell (World.block_lt_of_cell? w _ hx231_1)).trans hx231_1
                                              replace hx231_2 := (HB.out.cell (World.block_lt_of_cell? w _ hx231_2)).trans hx231_2
                                              replace hx231_3 := (HB.out.cell (World.block_lt_of_cell? w _ hx231_3)).trans hx231_3
                                              replace hx231_4 := (HB.out.cell (World.block_lt_of_cell? w _ hx231_4)).trans hx231_4
                                              replace p231 := eq_true p231
                                              replace q231 := eq_true q231
                                              have p232 : 0 ≤ ((rd y216 x48_3) : Int) := of_decide_eq_true (by first | (with_reducible assumption) | assumption)
                                              have q232 : (rd y216 x48_3) < (l0.length : Int) := of_decide_eq_true (by first | (with_reducible assumption) | assumption)
                                              obtain ⟨ad232, e232, hx232_0, hx232_1, hx232_2, hx232_3, hx232_4⟩ := at_T100 HR0.out (rd y216 x48_3) p232 q232
                                              have hw232_4 := hx232_4
                                              have hw232_3 := hx232_3
                                              have hw232_2 := hx232_2
                                              have hw232_1 := hx232_1
                                              have hw232_0 := hx232_0
                                              obtain rfl : ad221 = ad232 := (by injection e232)
                                              replace hx232_0 := (HB.out.cell (World.block_lt_of_cell? w _ hx232_0)).trans hx232_0
                                              replace hx232_1 := (HB.out.cell (World.block_lt_of_cell? w _ hx232_1)).trans hx232_1
                                              replace hx232_2 := (HB.out.cell (World.block_lt_of_cell? w _ hx232_2)).trans hx232_2
                                              replace hx232_3 := (HB.out.cell (World.block_lt_of_cell? w _ hx232_3)).trans hx232_3
                                              replace hx232_4 := (HB.out.cell (World.block_lt_of_cell? w _ hx232_4)).trans hx232_4
                                              replace p232 := eq_true p232
                                              replace q232 := eq_true q232
                                              refine start_ (n := 9) (S := fun w' => w'.cell? ⟨gb197, 0, none⟩ = some (.slice (some ad221) l0.length c0 : Value) ∧ w'.cell? (ad221.add (((rd t206 x39_2)).toNat * 5)) = some (.int .i64 ((rd_T100 l0 (rd t206 x39_2)).f0)) ∧ w'.cell? ⟨(ad221.add (((rd t206 x39_2)).toNat * 5)).block, (ad221.add (((rd t206 x39_2)).toNat * 5)).off + 1, none⟩ = some (.int .i64 ((rd_T100 l0 (rd t206 x39_2)).f1)) ∧ w'.cell? ⟨(ad221.add (((rd t206 x39_2)).toNat * 5)).block, (ad221.add (((rd t206 x39_2)).toNat * 5)).off + 2, none⟩ = some (.int .i64 ((rd_T100 l0 (rd t206 x39_2)).f2)) ∧ w'.cell? ⟨(ad221.add (((rd t206 x39_2)).toNat * 5)).block, (ad221.add (((rd t206 x39_2)).toNat * 5)).off + 3, none⟩ = some (.int .i64 ((rd_T100 l0 (rd t206 x39_2)).f3)) ∧ w'.cell? ⟨(ad221.add (((rd t206 x39_2)).toNat * 5)).block, (ad221.add (((rd t206 x39_2)).toNat * 5)).off + 4, none⟩ = some (.int .i64 ((rd_T100 l0 (rd t206 x39_2)).f4)) ∧ w'.cell? (ad221.add (((rd y216 x48_3)).toNat * 5)) = some (.int .i64 ((rd_T100 l0 (rd y216 x48_3)).f0)) ∧ w'.cell? ⟨(ad221.add (((rd y216 x48_3)).toNat * 5)).block, (ad221.add (((rd y216 x48_3)).toNat * 5)).off + 1, none⟩ = some (.int .i64 ((rd_T100 l0 (rd y216 x48_3)).f1)) ∧ w'.cell? ⟨(ad221.add (((rd y216 x48_3)).toNat * 5)).block, (ad221.add (((rd y216 x48_3)).toNat * 5)).off + 2, none⟩ = some (.int .i64 ((rd_T100 l0 (rd y216 x48_3)).f2)) ∧ w'.cell? ⟨(ad221.add (((rd y216 x48_3)).toNat * 5)).block, (ad221.add (((rd y216 x48_3)).toNat * 5)).off + 3, none⟩ = some (.int .i64 ((rd_T100 l0 (rd y216 x48_3)).f3)) ∧ w'.cell? ⟨(ad221.add (((rd y216 x48_3)).toNat * 5)).block, (ad221.add (((rd y216 x48_3)).toNat * 5)).off + 4, none⟩ = some (.int .i64 ((rd_T100 l0 (rd y216 x48_3)).f4))) (ds := []) #[false, false, false, false, false, false, false, false, false] (by kernel_rfl) rfl rfl ⟨(blk_cell BK197.out 0).trans rfl, ((HB.out.cell (World.block_lt_of_cell? w _ hw231_0)).trans hw231_0), ((HB.out.cell (World.block_lt_of_cell? w _ hw231_1)).trans hw231_1), ((HB.out.cell (World.block_lt_of_cell? w _ hw231_2)).trans hw231_2), ((HB.out.cell (World.block_lt_of_cell? w _ hw231_3)).trans hw231_3), ((HB.out.cell (World.block_lt_of_cell? w _ hw231_4)).trans hw231_4), ((HB.out.cell (World.block_lt_of_cell? w _ hw232_0)).trans hw232_0), ((HB.out.cell (World.block_lt_of_cell? w _ hw232_1)).trans hw232_1), ((HB.out.cell (World.block_lt_of_cell? w _ hw232_2)).trans hw232_2), ((HB.out.cell (World.block_lt_of_cell? w _ hw232_3)).trans hw232_3), ((HB.out.cell (World.block_lt_of_cell? w _ hw232_4)).trans hw232_4)⟩ (fun hHeld => ?_); refine with_tabW impl_SweepPairs.tab21 impl_SweepPairs.bits21 (fun HT_ HW_ => ?_)
                                              generalize w52.drew = w53 at HO_5 HO_8 HO_37 BK197 BK205 HR219 HB hx231_0 hx231_1 hx231_2 hx231_3 hx231_4 hx232_0 hx232_1 hx232_2 hx232_3 hx232_4 hHeld ⊢
                                              refine take_ (i := 0) (N := some 69) (v := ?_) (a' := ?_) #[true, false, false, false, false, false, false, false, false] rfl rfl (take_ofW HT_.out HW_.out (by kernel_rfl)) (fun _ _ _ h => h) (Or.inl ⟨by rfl, ?_⟩) hHeld ?_ ?_
                                              rotate_left
                                              · rintro w' ⟨sb, s0, s1, s2, s3, s4, s5, s6, s7, s8, s9⟩
                                                go_simp
                                                with_reducible rfl
                                              rotate_left
                                              · simp only [Act.put, List.setIfInBounds_toArray, List.set_cons_zero, List.set_cons_succ, i64_w, i32_w]
                                                rfl
                                              refine pure_ (i := 1) (N := some 70) (v := ?_) (a' := ?_) #[true, true, false, false, false, false, false, false, false] rfl rfl (any_of HT_.out (by kernel_rfl)) (fun _ _ _ h => h) (Or.inl ⟨by rfl, ?_⟩) ?_ ?_
                                              rotate_left
                                              · intro w'
                                                go_simp
                                                with_reducible rfl
                                              rotate_left
                                              · simp only [Act.put, List.setIfInBounds_toArray, List.set_cons_zero, List.set_cons_succ, i64_w, i32_w]
                                                rfl
                                              refine pure_ (i := 2) (N := some 71) (v := ?_) (a' := ?_) #[true, true, true, false, false, false, false, false, false] rfl rfl (any_of HT_.out (by kernel_rfl)) (fun _ _ _ h => h) (Or.inl ⟨by rfl, ?_⟩) ?_ ?_
                                              rotate_left
                                              · intro w'
                                                go_simp
                                                with_reducible rfl
                                              rotate_left
                                              · simp only [Act.put, List.setIfInBounds_toArray, List.set_cons_zero, List.set_cons_succ, i64_w, i32_w]
                                                rfl
                                              refine take_ (i := 4) (N := some 73) (v := ?_) (a' := ?_) #[true, true, true, false, true, false, false, false, false] rfl rfl (take_ofW HT_.out HW_.out (by kernel_rfl)) (fun _ _ _ h => h) (Or.inl ⟨by rfl, ?_⟩) hHeld ?_ ?_
                                              rotate_left
                                              · rintro w' ⟨sb, s0, s1, s2, s3, s4, s5, s6, s7, s8, s9⟩
                                                go_simp
                                                with_reducible rfl
                                              rotate_left
                                              · simp only [Act.put, List.setIfInBounds_toArray, List.set_cons_zero, List.set_cons_succ, i64_w, i32_w]
                                                rfl
                                              refine pure_ (i := 5) (N := some 74) (v := ?_) (a' := ?_) #[true, true, true, false, true, true, false, false, false] rfl rfl (any_of HT_.out (by kernel_rfl)) (fun _ _ _ h => h) (Or.inl ⟨by rfl, ?_⟩) ?_ ?_
                                              rotate_left
                                              · intro w'
                                                go_simp
                                                with_reducible rfl
                                              rotate_left
                                              · simp only [Act.put, List.setIfInBounds_toArray, List.set_cons_zero, List.set_cons_succ, i64_w, i32_w]
                                                rfl
                                              refine pure_ (i := 6) (N := some 75) (v := ?_) (a' := ?_) #[true, true, true, false, true, true, true, false, false] rfl rfl (any_of HT_.out (by kernel_rfl)) (fun _ _ _ h => h) (Or.inl ⟨by rfl, ?_⟩) ?_ ?_
                                              rotate_left
                                              · intro w'
                                                go_simp
                                                with_reducible rfl
                                              rotate_left
                                              · simp only [Act.put, List.setIfInBounds_toArray, List.set_cons_zero, List.set_cons_succ, i64_w, i32_w]
                                                rfl
                                              refine take_ (i := 3) (N := some 72) (v := ?_) (a' := ?_) #[true, true, true, true, true, true, true, false, false] rfl rfl (take_ofW HT_.out HW_.out (by kernel_rfl)) (fun _ _ _ h => h) (Or.inl ⟨by rfl, ?_⟩) hHeld ?_ ?_
                                              rotate_left
                                              · rintro w' ⟨sb, s0, s1, s2, s3, s4, s5, s6, s7, s8, s9⟩
                                                go_simp
                                                with_reducible rfl
                                              rotate_left
                                              · simp only [Act.put, List.setIfInBounds_toArray, List.set_cons_zero, List.set_cons_succ, i64_w, i32_w]
                                                rfl
                                              refine take_ (i := 7) (N := some 76) (v := ?_) (a' := ?_) #[true, true, true, true, true, true, true, true, false] rfl rfl (take_ofW HT_.out HW_.out (by kernel_rfl)) (fun _ _ _ h => h) (Or.inl ⟨by rfl, ?_⟩) hHeld ?_ ?_
                                              rotate_left
                                              · rintro w' ⟨sb, s0, s1, s2, s3, s4, s5, s6, s7, s8, s9⟩
                                                go_simp
                                                with_reducible rfl
                                              rotate_left
                                              · simp only [Act.put, List.setIfInBounds_toArray, List.set_cons_zero, List.set_cons_succ, i64_w, i32_w]
                                                rfl
                                              refine one_ (i := 8) (N := some 77) #[true, true, true, true, true, true, true, true, true] rfl rfl (one_of HT_.out (by kernel_rfl)) (by decide) (fun K hK => ?_)
                                              refine goes_ Try.func82 (by kernel_rfl) rfl #[.agg #[.int .i64 ((rd_T100 l0 (rd t206 x39_2)).f0), .int .i64 ((rd_T100 l0 (rd t206 x39_2)).f1), .int .i64 ((rd_T100 l0 (rd t206 x39_2)).f2), .int .i64 ((rd_T100 l0 (rd t206 x39_2)).f3), .int .i64 ((rd_T100 l0 (rd t206 x39_2)).f4)], .agg #[.int .i64 ((rd_T100 l0 (rd y216 x48_3)).f0), .int .i64 ((rd_T100 l0 (rd y216 x48_3)).f1), .int .i64 ((rd_T100 l0 (rd y216 x48_3)).f2), .int .i64 ((rd_T100 l0 (rd y216 x48_3)).f3), .int .i64 ((rd_T100 l0 (rd y216 x48_3)).f4)]] (by rfl) rfl rfl (by (try simp only [List.map_toArray, List.map_cons, List.map_nil]); first | done | rfl | (simp only [List.length_drop, List.length_take]; rfl)) ?_
                                              with_reducible refine (impl_touch.calls k3 ((rd_T100 l0 (rd t206 x39_2)).f0) ((rd_T100 l0 (rd t206 x39_2)).f1) ((rd_T100 l0 (rd t206 x39_2)).f2) ((rd_T100 l0 (rd t206 x39_2)).f3) ((rd_T100 l0 (rd t206 x39_2)).f4) ((rd_T100 l0 (rd y216 x48_3)).f0) ((rd_T100 l0 (rd y216 x48_3)).f1) ((rd_T100 l0 (rd y216 x48_3)).f2) ((rd_T100 l0 (rd y216 x48_3)).f3) ((rd_T100 l0 (rd y216 x48_3)).f4) true _ A43.out).mono ?_
                                              rintro e w54 ⟨rfl, hb⟩
                                              refine ⟨_, rfl, ?_⟩
                                              have n0_ := Aside0.mk (Kd.R_below (by (with_reducible repeat (first | apply Kd.R_alloc | apply Kd.R_drewN | apply Kd.R_drew)); exact HO_5.out) hb)
                                              have n1_ := Aside0.mk (Kd.R_below (by (with_reducible repeat (first | apply Kd.R_alloc | apply Kd.R_drewN | apply Kd.R_drew)); exact HO_8.out) hb)
                                              have n2_ := Aside0.mk (Kd.R_below (by (with_reducible repeat (first | apply Kd.R_alloc | apply Kd.R_drewN | apply Kd.R_drew)); exact HO_37.out) hb)
                                              have n3_ := Aside0.mk (blk_below (g := gb197) (o := .cells #[(.slice (some ad221) l0.length c0 : Value)] 55 (0, 0)) (by (with_reducible repeat (first | refine blk_drewN ?_ _ | refine blk_drew ?_ | refine blk_alloc ?_ _)); exact BK197.out) hb)
                                              have n4_ := Aside0.mk (blk_below (g := gb205) (o := .cells #[(.func (.func 79) #[] #[.pointer (some ⟨gb197, 0, none⟩)] : Value)] 125 (0, 0)) (by (with_reducible repeat (first | refine blk_drewN ?_ _ | refine blk_drew ?_ | refine blk_alloc ?_ _)); exact BK205.out) hb)
                                              have n5_ := Aside0.mk (Kd.C_below (by repeat (first | (with_reducible exact HR219.out) | (with_reducible refine Kd.C_alloc ?_ _) | (with_reducible refine Kd.C_drewN ?_ _) | (with_reducible refine Kd.C_drew ?_) | exact HR219.out)) hb)
                                              have n6_ := Aside0.mk (below_step (by repeat (first | (with_reducible first | exact HB.out | apply below_alloc | apply pw_below_drewN | apply below_drew1 | refine below_set ?_ GE197.out | refine below_set ?_ GE205.out) | exact HB.out)) hb)
                                              clear HO_5
                                              clear HO_8
                                              clear HO_37
                                              clear BK197
                                              clear BK205
                                              clear HR219
                                              clear HB
                                              have HO_5 := n0_
                                              have HO_8 := n1_
                                              have HO_37 := n2_
                                              have BK197 := n3_
                                              have BK205 := n4_
                                              have HR219 := n5_
                                              have HB := n6_
                                              clear n0_ n1_ n2_ n3_ n4_ n5_ n6_
                                              (try clear hb)
                                              (try clear hb2)
                                              (try clear hk)
                                              (try clear hi)
                                              refine hK.out _ _ ⟨(blk_cell BK197.out 0).trans rfl, ((HB.out.cell (World.block_lt_of_cell? w _ hw231_0)).trans hw231_0), ((HB.out.cell (World.block_lt_of_cell? w _ hw231_1)).trans hw231_1), ((HB.out.cell (World.block_lt_of_cell? w _ hw231_2)).trans hw231_2), ((HB.out.cell (World.block_lt_of_cell? w _ hw231_3)).trans hw231_3), ((HB.out.cell (World.block_lt_of_cell? w _ hw231_4)).trans hw231_4), ((HB.out.cell (World.block_lt_of_cell? w _ hw232_0)).trans hw232_0), ((HB.out.cell (World.block_lt_of_cell? w _ hw232_1)).trans hw232_1), ((HB.out.cell (World.block_lt_of_cell? w _ hw232_2)).trans hw232_2), ((HB.out.cell (World.block_lt_of_cell? w _ hw232_3)).trans hw232_3), ((HB.out.cell (World.block_lt_of_cell? w _ hw232_4)).trans hw232_4)⟩ (fun hHeld => ?_)
                                              clear hK K
                                              refine norm_ (a' := ?_) ?_ ?_
                                              rotate_left
                                              · show Act.put _ (some 77) _ = _
                                                simp only [Act.put, List.setIfInBounds_toArray, List.set_cons_zero, List.set_cons_succ, i64_w, i32_w]
                                                rfl
                                              refine done_ (done_of HT_.out (by kernel_rfl)) ?_
                                              try go_wp2_with (first | ((with_reducible refine gate_builtin (b := .append) (xs := #[.tmp 78, .tmp 86]) rfl ?_); at_builtin; refine Kd.R_append k90 (w0 := w) w.heap.size rfl (.tmp 78) (.tmp 86) 43 90 (.agg #[(.int .i64 0), (.int .i64 0)]) 16 rfl Try.underlying43 info90 rfl (by decide) (by omega) u8 x8_3 (⟨ji45, ji46⟩ : S90) [.int .i64 ji45, .int .i64 ji46] (fun _ => True) (fun _ => False) rfl rfl ?aP (fun _ hk => hk.elim) ?aF ?aO ?aB ?aS ?aL ?_; (case aP => exact k90_mkM _ _ _ (⟨ji45, ji46⟩ : S90)); (case aB => exact (by repeat (first | (with_reducible first | exact HB.out | apply below_alloc | apply pw_below_drewN | apply below_drew1 | refine below_set ?_ GE197.out | refine below_set ?_ GE205.out) | exact HB.out))); (case aF => exact (fun _ _ => trivial)); (case aO => exact (by (with_reducible repeat (first | apply Kd.R_alloc | apply Kd.R_drewN | apply Kd.R_drew)); exact HO_8.out)); (case aS => exact (below_size (by repeat (first | (with_reducible first | exact HB.out | apply below_alloc | apply pw_below_drewN | apply below_drew1 | refine below_set ?_ GE197.out | refine below_set ?_ GE205.out) | exact HB.out)))); (case aL => have := LMc47.out; omega); intro v235 w55 ho hb hg hat; rw [← Ny234.out] at ho; have n0_ := Aside0.mk (Kd.R_over' (by (with_reducible repeat (first | apply Kd.R_alloc | apply Kd.R_drewN | apply Kd.R_drew)); exact HO_5.out) (Kd.R_typed (by (with_reducible repeat (first | apply Kd.R_alloc | apply Kd.R_drewN | apply Kd.R_drew)); exact HO_8.out)) (by decide) hg); have n1_ := Aside0.mk (Kd.R_over' (by (with_reducible repeat (first | apply Kd.R_alloc | apply Kd.R_drewN | apply Kd.R_drew)); exact HO_37.out) (Kd.R_typed (by (with_reducible repeat (first | apply Kd.R_alloc | apply Kd.R_drewN | apply Kd.R_drew)); exact HO_8.out)) (by decide) hg); have n2_ := Aside0.mk (blk_grown (g := gb197) (o := .cells #[(.slice (some ad221) l0.length c0 : Value)] 55 (0, 0)) (by (with_reducible repeat (first | refine blk_drewN ?_ _ | refine blk_drew ?_ | refine blk_alloc ?_ _)); exact BK197.out) hg (Kd.R_ne HO_8.out BK197.out (by decide))); have n3_ := Aside0.mk (blk_grown (g := gb205) (o := .cells #[(.func (.func 79) #[] #[.pointer (some ⟨gb197, 0, none⟩)] : Value)] 125 (0, 0)) (by (with_reducible repeat (first | refine blk_drewN ?_ _ | refine blk_drew ?_ | refine blk_alloc ?_ _)); exact BK205.out) hg (Kd.R_ne HO_8.out BK205.out (by decide))); have n4_ := Aside0.mk (hb); have n5_ := Aside0.mk ((show Kd.C (Kd.int .i64) w55 (some ad215) y216.length y216 from by rw [Ny216.out]; exact Kd.C_take (m := (x39_2 : Int).toNat) ((Kd.R_reads' (Kd.R_over' (by (with_reducible repeat (first | apply Kd.R_alloc | apply Kd.R_drewN | apply Kd.R_drew)); exact HO_5.out) (Kd.R_typed (by (with_reducible repeat (first | apply Kd.R_alloc | apply Kd.R_drewN | apply Kd.R_drew)); exact HO_8.out)) (by decide) hg)).2.2) KL27.out)); have n6_ := Aside0.mk (ho); clear HO_5; clear HO_37; clear BK197; clear BK205; clear HB; clear HR219; clear HO_8; have HO_5 := n0_; have HO_37 := n1_; have BK197 := n2_; have BK205 := n3_; have HB := n4_; have HR219 := n5_; have HO236 := n6_; clear n0_ n1_ n2_ n3_ n4_ n5_ n6_; clear ho hb hg hat))
                                              go_roundg k3
                                              case measure => have := HK1.out; have := HK2.out; have := HK3.out; omega
                                              case rel => exact ⟨(y234), (wrap64 (x9_3 + 1)), (wrap64 (x48_3 + 1)), (by first | rfl | (simp; done) | (simp [*]; done)), (by first | rfl | (simp; done) | (simp [*]; done)), H', ⟨by have := HK1.out; have := HK2.out; have := HK3.out; omega⟩, ⟨by (with_reducible repeat (first | apply Kd.R_alloc | apply Kd.R_drewN | apply Kd.R_drew)); exact HO_5.out⟩, ⟨by (with_reducible repeat (first | apply Kd.R_alloc | apply Kd.R_drewN | apply Kd.R_drew)); exact HO236.out⟩, ⟨by (with_reducible repeat (first | apply Kd.R_alloc | apply Kd.R_drewN | apply Kd.R_drew)); exact HO_37.out⟩, ⟨by (with_reducible repeat (first | refine blk_drewN ?_ _ | refine blk_drew ?_ | refine blk_alloc ?_ _)); exact BK197.out⟩, ⟨by (with_reducible repeat (first | refine blk_drewN ?_ _ | refine blk_drew ?_ | refine blk_alloc ?_ _)); exact BK205.out⟩, ⟨by repeat (first | (with_reducible exact HR219.out) | (with_reducible refine Kd.C_alloc ?_ _) | (with_reducible refine Kd.C_drewN ?_ _) | (with_reducible refine Kd.C_drew ?_) | exact HR219.out)⟩, ⟨by repeat (first | (with_reducible first | exact HB.out | apply below_alloc | apply pw_below_drewN | apply below_drew1 | refine below_set ?_ GE197.out | refine below_set ?_ GE205.out) | exact HB.out)⟩⟩
                                            · rw [if_neg c47] at H
                                              exact absurd H (by simp)
                                          · replace c44 := Bool.eq_false_iff.mpr c44
                                            subst c44
                                            have H1 : (impl_SweepPairs.l2 k3 l0 t206 x8_3 (wrap64 (x9_3 + 1)) (rd t206 x39_2) t206 (t206.length : Int) x39_2 y216 (y216.length : Int) (wrap64 (x48_3 + 1))) = some (r1, r2, r3) := by rw [if_neg (show ¬ (false = true) by decide)] at H; exact H
                                            clear H
                                            have H := H1
                                            clear H1
                                            have H' := Aside0.mk H
                                            clear H
                                            have p220 : 0 ≤ (x48_3 : Int) := of_decide_eq_true (by first | (with_reducible assumption) | assumption)
                                            have q220 : x48_3 < (y216.length : Int) := of_decide_eq_true (by first | (with_reducible assumption) | assumption)
                                            obtain ⟨ad220, e220, hx220_0⟩ := Kd.at_int HR219.out x48_3 p220 q220
                                            obtain rfl : ad215 = ad220 := (by injection e220)
                                            replace p220 := eq_true p220
                                            replace q220 := eq_true q220
                                            have hnb56 := NB197_205.out
                                            have hnc56 := NB205_197.out
                                            have hcz57_0 : wr.cell? ⟨gb197, 0, none⟩ = some (.slice A0 l0.length c0 : Value) := (blk_cell BK197.out 0).trans rfl
                                            have hfz57_0 := blk_frozen BK197.out 0
                                            have p221 : 0 ≤ ((rd y216 x48_3) : Int) := of_decide_eq_true (by first | (with_reducible assumption) | assumption)
                                            have q221 : (rd y216 x48_3) < (l0.length : Int) := of_decide_eq_true (by first | (with_reducible assumption) | assumption)
                                            obtain ⟨ad221, e221, hx221_0, hx221_1, hx221_2, hx221_3, hx221_4⟩ := at_T100 HR0.out (rd y216 x48_3) p221 q221
                                            cases e221
                                            replace hx221_0 := (HB.out.cell (World.block_lt_of_cell? w _ hx221_0)).trans hx221_0
                                            replace hx221_1 := (HB.out.cell (World.block_lt_of_cell? w _ hx221_1)).trans hx221_1
                                            replace hx221_2 := (HB.out.cell (World.block_lt_of_cell? w _ hx221_2)).trans hx221_2
                                            replace hx221_3 := (HB.out.cell (World.block_lt_of_cell? w _ hx221_3)).trans hx221_3
                                            replace hx221_4 := (HB.out.cell (World.block_lt_of_cell? w _ hx221_4)).trans hx221_4
                                            replace p221 := eq_true p221
                                            replace q221 := eq_true q221
                                            try go_wp2_with (first | ((with_reducible refine gate_callee (f := 69) rfl ?_); refine goesL_ (some 57) rfl rfl Try.func69 (by kernel_rfl) rfl #[.agg #[.int .i64 ((rd_T100 l0 (rd y216 x48_3)).f0), .int .i64 ((rd_T100 l0 (rd y216 x48_3)).f1), .int .i64 ((rd_T100 l0 (rd y216 x48_3)).f2), .int .i64 ((rd_T100 l0 (rd y216 x48_3)).f3), .int .i64 ((rd_T100 l0 (rd y216 x48_3)).f4)]] rfl (by (try simp only [List.map_toArray, List.map_cons, List.map_nil]); first | done | rfl | (simp only [List.length_drop, List.length_take]; rfl)) ?_; (with_reducible refine (impl_Shape_bounds.calls ((rd_T100 l0 (rd y216 x48_3)).f0) ((rd_T100 l0 (rd y216 x48_3)).f1) ((rd_T100 l0 (rd y216 x48_3)).f2) ((rd_T100 l0 (rd y216 x48_3)).f3) ((rd_T100 l0 (rd y216 x48_3)).f4) t222 t223 t224 t225 _ A33.out).mono ?_); rintro e w58 ⟨rfl, hb⟩; refine ⟨_, rfl, ?_⟩; have n0_ := Aside0.mk (Kd.R_below (by (with_reducible repeat (first | apply Kd.R_alloc | apply Kd.R_drewN | apply Kd.R_drew)); exact HO_5.out) hb); have n1_ := Aside0.mk (Kd.R_below (by (with_reducible repeat (first | apply Kd.R_alloc | apply Kd.R_drewN | apply Kd.R_drew)); exact HO_8.out) hb); have n2_ := Aside0.mk (Kd.R_below (by (with_reducible repeat (first | apply Kd.R_alloc | apply Kd.R_drewN | apply Kd.R_drew)); exact HO_37.out) hb); have n3_ := Aside0.mk (blk_below (g := gb197) (o := .cells #[(.slice (some ad221) l0.length c0 : Value)] 55 (0, 0)) (by (with_reducible repeat (first | refine blk_drewN ?_ _ | refine blk_drew ?_ | refine blk_alloc ?_ _)); exact BK197.out) hb); have n4_ := Aside0.mk (blk_below (g := gb205) (o := .cells #[(.func (.func 79) #[] #[.pointer (some ⟨gb197, 0, none⟩)] : Value)] 125 (0, 0)) (by (with_reducible repeat (first | refine blk_drewN ?_ _ | refine blk_drew ?_ | refine blk_alloc ?_ _)); exact BK205.out) hb); have n5_ := Aside0.mk (Kd.C_below (by repeat (first | (with_reducible exact HR219.out) | (with_reducible refine Kd.C_alloc ?_ _) | (with_reducible refine Kd.C_drewN ?_ _) | (with_reducible refine Kd.C_drew ?_) | exact HR219.out)) hb); have n6_ := Aside0.mk (below_step (by repeat (first | (with_reducible first | exact HB.out | apply below_alloc | apply pw_below_drewN | apply below_drew1 | refine below_set ?_ GE197.out | refine below_set ?_ GE205.out) | exact HB.out)) hb); clear HO_5; clear HO_8; clear HO_37; clear BK197; clear BK205; clear HR219; clear HB; have HO_5 := n0_; have HO_8 := n1_; have HO_37 := n2_; have BK197 := n3_; have BK205 := n4_; have HR219 := n5_; have HB := n6_; clear n0_ n1_ n2_ n3_ n4_ n5_ n6_; (try clear hb); (try clear hb2); (try clear hk); (try clear hi); have hcz59_0 : w58.cell? ⟨gb205, 0, none⟩ = some (.func (.func 79) #[] #[.pointer (some ⟨gb197, 0, none⟩)] : Value) := (blk_cell BK205.out 0).trans rfl; have hfz59_0 := blk_frozen BK205.out 0; have p226 : 0 ≤ ((rd t206 x39_2) : Int) := of_decide_eq_true (by first | (with_reducible assumption) | assumption); have q226 : (rd t206 x39_2) < (l0.length : Int) := of_decide_eq_true (by first | (with_reducible assumption) | assumption); obtain ⟨ad226, e226, hx226_0, hx226_1, hx226_2, hx226_3, hx226_4⟩ := at_T100 HR0.out (rd t206 x39_2) p226 q226; obtain rfl : ad221 = ad226 := (by injection e226); replace hx226_0 := (HB.out.cell (World.block_lt_of_cell? w _ hx226_0)).trans hx226_0; replace hx226_1 := (HB.out.cell (World.block_lt_of_cell? w _ hx226_1)).trans hx226_1; replace hx226_2 := (HB.out.cell (World.block_lt_of_cell? w _ hx226_2)).trans hx226_2; replace hx226_3 := (HB.out.cell (World.block_lt_of_cell? w _ hx226_3)).trans hx226_3; replace hx226_4 := (HB.out.cell (World.block_lt_of_cell? w _ hx226_4)).trans hx226_4; replace p226 := eq_true p226; replace q226 := eq_true q226))
                                            refine (slices_SortStableFunc_int_int.least _ _ l0 gb197 (rd t206 x39_2) t227 t228 t229 t230 _ (by repeat (first | exact (Kd.C_below HR0.out HB.out) | (with_reducible refine Kd.C_alloc ?_ _) | (with_reducible refine Kd.C_drewN ?_ _) | (with_reducible refine Kd.C_drew ?_))) (by (with_reducible repeat (first | refine blk_drewN ?_ _ | refine blk_drew ?_ | refine blk_alloc ?_ _)); exact BK197.out) (of_decide_eq_true (by first | (with_reducible assumption) | assumption)) (of_decide_eq_true (by first | (with_reducible assumption) | assumption)) A36.out).mono ?_
                                            rintro e w60 ⟨rfl, hb⟩
                                            (have n0_ := Aside0.mk (Kd.R_below (by (with_reducible repeat (first | apply Kd.R_alloc | apply Kd.R_drewN | apply Kd.R_drew)); exact HO_5.out) hb); have n1_ := Aside0.mk (Kd.R_below (by (with_reducible repeat (first | apply Kd.R_alloc | apply Kd.R_drewN | apply Kd.R_drew)); exact HO_8.out) hb); have n2_ := Aside0.mk (Kd.R_below (by (with_reducible repeat (first | apply Kd.R_alloc | apply Kd.R_drewN | apply Kd.R_drew)); exact HO_37.out) hb); have n3_ := Aside0.mk (blk_below (g := gb197) (o := .cells #[(.slice (some ad221) l0.length c0 : Value)] 55 (0, 0)) (by (with_reducible repeat (first | refine blk_drewN ?_ _ | refine blk_drew ?_ | refine blk_alloc ?_ _)); exact BK197.out) hb); have n4_ := Aside0.mk (blk_below (g := gb205) (o := .cells #[(.func (.func 79) #[] #[.pointer (some ⟨gb197, 0, none⟩)] : Value)] 125 (0, 0)) (by (with_reducible repeat (first | refine blk_drewN ?_ _ | refine blk_drew ?_ | refine blk_alloc ?_ _)); exact BK205.out) hb); have n5_ := Aside0.mk (Kd.C_below (by repeat (first | (with_reducible exact HR219.out) | (with_reducible refine Kd.C_alloc ?_ _) | (with_reducible refine Kd.C_drewN ?_ _) | (with_reducible refine Kd.C_drew ?_) | exact HR219.out)) hb); have n6_ := Aside0.mk (below_step (by repeat (first | (with_reducible first | exact HB.out | apply below_alloc | apply pw_below_drewN | apply below_drew1 | refine below_set ?_ GE197.out | refine below_set ?_ GE205.out) | exact HB.out)) hb); clear HO_5; clear HO_8; clear HO_37; clear BK197; clear BK205; clear HR219; clear HB; have HO_5 := n0_; have HO_8 := n1_; have HO_37 := n2_; have BK197 := n3_; have BK205 := n4_; have HR219 := n5_; have HB := n6_; clear n0_ n1_ n2_ n3_ n4_ n5_ n6_; (try clear hb); (try clear hb2); (try clear hk); (try clear hi))
                                            try go_wp2
                                            have n0_ := Aside0.mk (Kd.R_drew HO_5.out)
                                            have n1_ := Aside0.mk (Kd.R_drew HO_8.out)
                                            have n2_ := Aside0.mk (Kd.R_drew HO_37.out)
                                            have n3_ := Aside0.mk (blk_drew BK197.out)
                                            have n4_ := Aside0.mk (blk_drew BK205.out)
                                            have n5_ := Aside0.mk (Kd.C_drew HR219.out)
                                            have n6_ := Aside0.mk (below_drew1 HB.out)
                                            clear HO_5
                                            clear HO_8
                                            clear HO_37
                                            clear BK197
                                            clear BK205
                                            clear HR219
                                            clear HB
                                            have HO_5 := n0_
                                            have HO_8 := n1_
                                            have HO_37 := n2_
                                            have BK197 := n3_
                                            have BK205 := n4_
                                            have HR219 := n5_
                                            have HB := n6_
                                            clear n0_ n1_ n2_ n3_ n4_ n5_ n6_
                                            have p231 : 0 ≤ ((rd t206 x39_2) : Int) := of_decide_eq_true (by first | (with_reducible assumption) | assumption)
                                            have q231 : (rd t206 x39_2) < (l0.length : Int) := of_decide_eq_true (by first | (with_reducible assumption) | assumption)
                                            obtain ⟨ad231, e231, hx231_0, hx231_1, hx231_2, hx231_3, hx231_4⟩ := at_T100 HR0.out (rd t206 x39_2) p231 q231
                                            have hw231_4 := hx231_4
                                            have hw231_3 := hx231_3
                                            have hw231_2 := hx231_2
                                            have hw231_1 := hx231_1
                                            have hw231_0 := hx231_0
                                            obtain rfl : ad221 = ad231 := (by injection e231)
                                            replace hx231_0 := (HB.out.cell (World.block_lt_of_cell? w _ hx231_0)).trans hx231_0
                                            replace hx231_1 := (HB.out.cell (World.block_lt_of_cell? w _ hx231_1)).trans hx231_1
                                            replace hx231_2 := (HB.out.cell (World.block_lt_of_cell? w _ hx231_2)).trans hx231_2
                                            replace hx231_3 := (HB.out.cell (World.block_lt_of_cell? w _ hx231_3)).trans hx231_3
                                            replace hx231_4 := (HB.out.cell (World.block_lt_of_cell? w _ hx231_4)).trans hx231_4
                                            replace p231 := eq_true p231
                                            replace q231 := eq_true q231
                                            have p232 : 0 ≤ ((rd y216 x48_3) : Int) := of_decide_eq_true (by first | (with_reducible assumption) | assumption)
                                            have q232 : (rd y216 x48_3) < (l0.length : Int) := of_decide_eq_true (by first | (with_reducible assumption) | assumption)
                                            obtain ⟨ad232, e232, hx232_0, hx232_1, hx232_2, hx232_3, hx232_4⟩ := at_T100 HR0.out (rd y216 x48_3) p232 q232
                                            have hw232_4 := hx232_4
                                            have hw232_3 := hx232_3
                                            have hw232_2 := hx232_2
                                            have hw232_1 := hx232_1
                                            have hw232_0 := hx232_0
                                            obtain rfl : ad221 = ad232 := (by injection e232)
                                            replace hx232_0 := (HB.out.cell (World.block_lt_of_cell? w _ hx232_0)).trans hx232_0
                                            replace hx232_1 := (HB.out.cell (World.block_lt_of_cell? w _ hx232_1)).trans hx232_1
                                            replace hx232_2 := (HB.out.cell (World.block_lt_of_cell? w _ hx232_2)).trans hx232_2
                                            replace hx232_3 := (HB.out.cell (World.block_lt_of_cell? w _ hx232_3)).trans hx232_3
                                            replace hx232_4 := (HB.out.cell (World.block_lt_of_cell? w _ hx232_4)).trans hx232_4
                                            replace p232 := eq_true p232
                                            replace q232 := eq_true q232
                                            refine start_ (n := 9) (S := fun w' => w'.cell? ⟨gb197, 0, none⟩ = some (.slice (some ad221) l0.length c0 : Value) ∧ w'.cell? (ad221.add (((rd t206 x39_2)).toNat * 5)) = some (.int .i64 ((rd_T100 l0 (rd t206 x39_2)).f0)) ∧ w'.cell? ⟨(ad221.add (((rd t206 x39_2)).toNat * 5)).block, (ad221.add (((rd t206 x39_2)).toNat * 5)).off + 1, none⟩ = some (.int .i64 ((rd_T100 l0 (rd t206 x39_2)).f1)) ∧ w'.cell? ⟨(ad221.add (((rd t206 x39_2)).toNat * 5)).block, (ad221.add (((rd t206 x39_2)).toNat * 5)).off + 2, none⟩ = some (.int .i64 ((rd_T100 l0 (rd t206 x39_2)).f2)) ∧ w'.cell? ⟨(ad221.add (((rd t206 x39_2)).toNat * 5)).block, (ad221.add (((rd t206 x39_2)).toNat * 5)).off + 3, none⟩ = some (.int .i64 ((rd_T100 l0 (rd t206 x39_2)).f3)) ∧ w'.cell? ⟨(ad221.add (((rd t206 x39_2)).toNat * 5)).block, (ad221.add (((rd t206 x39_2)).toNat * 5)).off + 4, none⟩ = some (.int .i64 ((rd_T100 l0 (rd t206 x39_2)).f4)) ∧ w'.cell? (ad221.add (((rd y216 x48_3)).toNat * 5)) = some (.int .i64 ((rd_T100 l0 (rd y216 x48_3)).f0)) ∧ w'.cell? ⟨(ad221.add (((rd y216 x48_3)).toNat * 5)).block, (ad221.add (((rd y216 x48_3)).toNat * 5)).off + 1, none⟩ = some (.int .i64 ((rd_T100 l0 (rd y216 x48_3)).f1)) ∧ w'.cell? ⟨(ad221.add (((rd y216 x48_3)).toNat * 5)).block, (ad221.add (((rd y216 x48_3)).toNat * 5)).off + 2, none⟩ = some (.int .i64 ((rd_T100 l0 (rd y216 x48_3)).f2)) ∧ w'.cell? ⟨(ad221.add (((rd y216 x48_3)).toNat * 5)).block, (ad221.add (((rd y216 x48_3)).toNat * 5)).off + 3, none⟩ = some (.int .i64 ((rd_T100 l0 (rd y216 x48_3)).f3)) ∧ w'.cell? ⟨(ad221.add (((rd y216 x48_3)).toNat * 5)).block, (ad221.add (((rd y216 x48_3)).toNat * 5)).off + 4, none⟩ = some (.int .i64 ((rd_T100 l0 (rd y216 x48_3)).f4))) (ds := []) #[false, false, false, false, false, false, false, false, false] (by kernel_rfl) rfl rfl ⟨(blk_cell BK197.out 0).trans rfl, ((HB.out.cell (World.block_lt_of_cell? w _ hw231_0)).trans hw231_0), ((HB.out.cell (World.block_lt_of_cell? w _ hw231_1)).trans hw231_1), ((HB.out.cell (World.block_lt_of_cell? w _ hw231_2)).trans hw231_2), ((HB.out.cell (World.block_lt_of_cell? w _ hw231_3)).trans hw231_3), ((HB.out.cell (World.block_lt_of_cell? w _ hw231_4)).trans hw231_4), ((HB.out.cell (World.block_lt_of_cell? w _ hw232_0)).trans hw232_0), ((HB.out.cell (World.block_lt_of_cell? w _ hw232_1)).trans hw232_1), ((HB.out.cell (World.block_lt_of_cell? w _ hw232_2)).trans hw232_2), ((HB.out.cell (World.block_lt_of_cell? w _ hw232_3)).trans hw232_3), ((HB.out.cell (World.block_lt_of_cell? w _ hw232_4)).trans hw232_4)⟩ (fun hHeld => ?_); refine with_tabW impl_SweepPairs.tab21 impl_SweepPairs.bits21 (fun HT_ HW_ => ?_)
                                            generalize w60.drew = w61 at HO_5 HO_8 HO_37 BK197 BK205 HR219 HB hx231_0 hx231_1 hx231_2 hx231_3 hx231_4 hx232_0 hx232_1 hx232_2 hx232_3 hx232_4 hHeld ⊢
                                            refine take_ (i := 0) (N := some 69) (v := ?_) (a' := ?_) #[true, false, false, false, false, false, false, false, false] rfl rfl (take_ofW HT_.out HW_.out (by kernel_rfl)) (fun _ _ _ h => h) (Or.inl ⟨by rfl, ?_⟩) hHeld ?_ ?_
                                            rotate_left
                                            · rintro w' ⟨sb, s0, s1, s2, s3, s4, s5, s6, s7, s8, s9⟩
                                              go_simp
                                              with_reducible rfl
                                            rotate_left
                                            · simp only [Act.put, List.setIfInBounds_toArray, List.set_cons_zero, List.set_cons_succ, i64_w, i32_w]
                                              rfl
                                            refine pure_ (i := 1) (N := some 70) (v := ?_) (a' := ?_) #[true, true, false, false, false, false, false, false, false] rfl rfl (any_of HT_.out (by kernel_rfl)) (fun _ _ _ h => h) (Or.inl ⟨by rfl, ?_⟩) ?_ ?_
                                            rotate_left
                                            · intro w'
                                              go_simp
                                              with_reducible rfl
                                            rotate_left
                                            · simp only [Act.put, List.setIfInBounds_toArray, List.set_cons_zero, List.set_cons_succ, i64_w, i32_w]
                                              rfl
                                            refine pure_ (i := 2) (N := some 71) (v := ?_) (a' := ?_) #[true, true, true, false, false, false, false, false, false] rfl rfl (any_of HT_.out (by kernel_rfl)) (fun _ _ _ h => h) (Or.inl ⟨by rfl, ?_⟩) ?_ ?_
                                            rotate_left
                                            · intro w'
                                              go_simp
                                              with_reducible rfl
                                            rotate_left
                                            · simp only [Act.put, List.setIfInBounds_toArray, List.set_cons_zero, List.set_cons_succ, i64_w, i32_w]
                                              rfl
                                            refine take_ (i := 4) (N := some 73) (v := ?_) (a' := ?_) #[true, true, true, false, true, false, false, false, false] rfl rfl (take_ofW HT_.out HW_.out (by kernel_rfl)) (fun _ _ _ h => h) (Or.inl ⟨by rfl, ?_⟩) hHeld ?_ ?_
                                            rotate_left
                                            · rintro w' ⟨sb, s0, s1, s2, s3, s4, s5, s6, s7, s8, s9⟩
                                              go_simp
                                              with_reducible rfl
                                            rotate_left
                                            · simp only [Act.put, List.setIfInBounds_toArray, List.set_cons_zero, List.set_cons_succ, i64_w, i32_w]
                                              rfl
                                            refine pure_ (i := 5) (N := some 74) (v := ?_) (a' := ?_) #[true, true, true, false, true, true, false, false, false] rfl rfl (any_of HT_.out (by kernel_rfl)) (fun _ _ _ h => h) (Or.inl ⟨by rfl, ?_⟩) ?_ ?_
                                            rotate_left
                                            · intro w'
                                              go_simp
                                              with_reducible rfl
                                            rotate_left
                                            · simp only [Act.put, List.setIfInBounds_toArray, List.set_cons_zero, List.set_cons_succ, i64_w, i32_w]
                                              rfl
                                            refine pure_ (i := 6) (N := some 75) (v := ?_) (a' := ?_) #[true, true, true, false, true, true, true, false, false] rfl rfl (any_of HT_.out (by kernel_rfl)) (fun _ _ _ h => h) (Or.inl ⟨by rfl, ?_⟩) ?_ ?_
                                            rotate_left
                                            · intro w'
                                              go_simp
                                              with_reducible rfl
                                            rotate_left
                                            · simp only [Act.put, List.setIfInBounds_toArray, List.set_cons_zero, List.set_cons_succ, i64_w, i32_w]
                                              rfl
                                            refine take_ (i := 3) (N := some 72) (v := ?_) (a' := ?_) #[true, true, true, true, true, true, true, false, false] rfl rfl (take_ofW HT_.out HW_.out (by kernel_rfl)) (fun _ _ _ h => h) (Or.inl ⟨by rfl, ?_⟩) hHeld ?_ ?_
                                            rotate_left
                                            · rintro w' ⟨sb, s0, s1, s2, s3, s4, s5, s6, s7, s8, s9⟩
                                              go_simp
                                              with_reducible rfl
                                            rotate_left
                                            · simp only [Act.put, List.setIfInBounds_toArray, List.set_cons_zero, List.set_cons_succ, i64_w, i32_w]
                                              rfl
                                            refine take_ (i := 7) (N := some 76) (v := ?_) (a' := ?_) #[true, true, true, true, true, true, true, true, false] rfl rfl (take_ofW HT_.out HW_.out (by kernel_rfl)) (fun _ _ _ h => h) (Or.inl ⟨by rfl, ?_⟩) hHeld ?_ ?_
                                            rotate_left
                                            · rintro w' ⟨sb, s0, s1, s2, s3, s4, s5, s6, s7, s8, s9⟩
                                              go_simp
                                              with_reducible rfl
                                            rotate_left
                                            · simp only [Act.put, List.setIfInBounds_toArray, List.set_cons_zero, List.set_cons_succ, i64_w, i32_w]
                                              rfl
                                            refine one_ (i := 8) (N := some 77) #[true, true, true, true, true, true, true, true, true] rfl rfl (one_of HT_.out (by kernel_rfl)) (by decide) (fun K hK => ?_)
                                            refine goes_ Try.func82 (by kernel_rfl) rfl #[.agg #[.int .i64 ((rd_T100 l0 (rd t206 x39_2)).f0), .int .i64 ((rd_T100 l0 (rd t206 x39_2)).f1), .int .i64 ((rd_T100 l0 (rd t206 x39_2)).f2), .int .i64 ((rd_T100 l0 (rd t206 x39_2)).f3), .int .i64 ((rd_T100 l0 (rd t206 x39_2)).f4)], .agg #[.int .i64 ((rd_T100 l0 (rd y216 x48_3)).f0), .int .i64 ((rd_T100 l0 (rd y216 x48_3)).f1), .int .i64 ((rd_T100 l0 (rd y216 x48_3)).f2), .int .i64 ((rd_T100 l0 (rd y216 x48_3)).f3), .int .i64 ((rd_T100 l0 (rd y216 x48_3)).f4)]] (by rfl) rfl rfl (by (try simp only [List.map_toArray, List.map_cons, List.map_nil]); first | done | rfl | (simp only [List.length_drop, List.length_take]; rfl)) ?_
                                            with_reducible refine (impl_touch.calls k3 ((rd_T100 l0 (rd t206 x39_2)).f0) ((rd_T100 l0 (rd t206 x39_2)).f1) ((rd_T100 l0 (rd t206 x39_2)).f2) ((rd_T100 l0 (rd t206 x39_2)).f3) ((rd_T100 l0 (rd t206 x39_2)).f4) ((rd_T100 l0 (rd y216 x48_3)).f0) ((rd_T100 l0 (rd y216 x48_3)).f1) ((rd_T100 l0 (rd y216 x48_3)).f2) ((rd_T100 l0 (rd y216 x48_3)).f3) ((rd_T100 l0 (rd y216 x48_3)).f4) false _ A43.out).mono ?_
                                            rintro e w62 ⟨rfl, hb⟩
                                            refine ⟨_, rfl, ?_⟩
                                            have n0_ := Aside0.mk (Kd.R_below (by (with_reducible repeat (first | apply Kd.R_alloc | apply Kd.R_drewN | apply Kd.R_drew)); exact HO_5.out) hb)
                                            have n1_ := Aside0.mk (Kd.R_below (by (with_reducible repeat (first | apply Kd.R_alloc | apply Kd.R_drewN | apply Kd.R_drew)); exact HO_8.out) hb)
                                            have n2_ := Aside0.mk (Kd.R_below (by (with_reducible repeat (first | apply Kd.R_alloc | apply Kd.R_drewN | apply Kd.R_drew)); exact HO_37.out) hb)
                                            have n3_ := Aside0.mk (blk_below (g := gb197) (o := .cells #[(.slice (some ad221) l0.length c0 : Value)] 55 (0, 0)) (by (with_reducible repeat (first | refine blk_drewN ?_ _ | refine blk_drew ?_ | refine blk_alloc ?_ _)); exact BK197.out) hb)
                                            have n4_ := Aside0.mk (blk_below (g := gb205) (o := .cells #[(.func (.func 79) #[] #[.pointer (some ⟨gb197, 0, none⟩)] : Value)] 125 (0, 0)) (by (with_reducible repeat (first | refine blk_drewN ?_ _ | refine blk_drew ?_ | refine blk_alloc ?_ _)); exact BK205.out) hb)
                                            have n5_ := Aside0.mk (Kd.C_below (by repeat (first | (with_reducible exact HR219.out) | (with_reducible refine Kd.C_alloc ?_ _) | (with_reducible refine Kd.C_drewN ?_ _) | (with_reducible refine Kd.C_drew ?_) | exact HR219.out)) hb)
                                            have n6_ := Aside0.mk (below_step (by repeat (first | (with_reducible first | exact HB.out | apply below_alloc | apply pw_below_drewN | apply below_drew1 | refine below_set ?_ GE197.out | refine below_set ?_ GE205.out) | exact HB.out)) hb)
                                            clear HO_5
                                            clear HO_8
                                            clear HO_37
                                            clear BK197
                                            clear BK205
                                            clear HR219
                                            clear HB
                                            have HO_5 := n0_
                                            have HO_8 := n1_
                                            have HO_37 := n2_
                                            have BK197 := n3_
                                            have BK205 := n4_
                                            have HR219 := n5_
                                            have HB := n6_
                                            clear n0_ n1_ n2_ n3_ n4_ n5_ n6_
                                            (try clear hb)
                                            (try clear hb2)
                                            (try clear hk)
                                            (try clear hi)
                                            refine hK.out _ _ ⟨(blk_cell BK197.out 0).trans rfl, ((HB.out.cell (World.block_lt_of_cell? w _ hw231_0)).trans hw231_0), ((HB.out.cell (World.block_lt_of_cell? w _ hw231_1)).trans hw231_1), ((HB.out.cell (World.block_lt_of_cell? w _ hw231_2)).trans hw231_2), ((HB.out.cell (World.block_lt_of_cell? w _ hw231_3)).trans hw231_3), ((HB.out.cell (World.block_lt_of_cell? w _ hw231_4)).trans hw231_4), ((HB.out.cell (World.block_lt_of_cell? w _ hw232_0)).trans hw232_0), ((HB.out.cell (World.block_lt_of_cell? w _ hw232_1)).trans hw232_1), ((HB.out.cell (World.block_lt_of_cell? w _ hw232_2)).trans hw232_2), ((HB.out.cell (World.block_lt_of_cell? w _ hw232_3)).trans hw232_3), ((HB.out.cell (World.block_lt_of_cell? w _ hw232_4)).trans hw232_4)⟩ (fun hHeld => ?_)
                                            clear hK K
                                            refine norm_ (a' := ?_) ?_ ?_
                                            rotate_left
                                            · show Act.put _ (some 77) _ = _
                                              simp only [Act.put, List.setIfInBounds_toArray, List.set_cons_zero, List.set_cons_succ, i64_w, i32_w]
                                              rfl
                                            refine done_ (done_of HT_.out (by kernel_rfl)) ?_
                                            try go_wp2
                                            go_roundg k3
                                            case measure => have := HK1.out; have := HK2.out; have := HK3.out; omega
                                            case rel => exact ⟨(x8_3), (wrap64 (x9_3 + 1)), (wrap64 (x48_3 + 1)), (by first | rfl | (simp; done) | (simp [*]; done)), (by first | rfl | (simp; done) | (simp [*]; done)), H', ⟨by have := HK1.out; have := HK2.out; have := HK3.out; omega⟩, ⟨by (with_reducible repeat (first | apply Kd.R_alloc | apply Kd.R_drewN | apply Kd.R_drew)); exact HO_5.out⟩, ⟨by (with_reducible repeat (first | apply Kd.R_alloc | apply Kd.R_drewN | apply Kd.R_drew)); exact HO_8.out⟩, ⟨by (with_reducible repeat (first | apply Kd.R_alloc | apply Kd.R_drewN | apply Kd.R_drew)); exact HO_37.out⟩, ⟨by (with_reducible repeat (first | refine blk_drewN ?_ _ | refine blk_drew ?_ | refine blk_alloc ?_ _)); exact BK197.out⟩, ⟨by (with_reducible repeat (first | refine blk_drewN ?_ _ | refine blk_drew ?_ | refine blk_alloc ?_ _)); exact BK205.out⟩, ⟨by repeat (first | (with_reducible exact HR219.out) | (with_reducible refine Kd.C_alloc ?_ _) | (with_reducible refine Kd.C_drewN ?_ _) | (with_reducible refine Kd.C_drew ?_) | exact HR219.out)⟩, ⟨by repeat (first | (with_reducible first | exact HB.out | apply below_alloc | apply pw_below_drewN | apply below_drew1 | refine below_set ?_ GE197.out | refine below_set ?_ GE205.out) | exact HB.out)⟩⟩
                                      · rw [if_neg c35] at H
                                        exact absurd H (by simp)
                                    · rw [if_neg c34] at H
                                      exact absurd H (by simp)
                                  · rw [if_neg c32] at H
                                    exact absurd H (by simp)
                                · rw [if_neg c31] at H
                                  exact absurd H (by simp)
                              · rw [if_neg c30] at H
                                exact absurd H (by simp)
                            · rw [if_neg c29] at H
                              exact absurd H (by simp)
                          · rw [if_neg c28] at H
                            have c28b0 : decide (x48_3 < (y216.length : Int)) = false := decide_eq_false c28
                            clear c28
                            have H' := Aside0.mk H
                            clear H
                            go_wp2
                            go_roundg k3
                            case measure => have := HK1.out; have := HK2.out; have := HK3.out; omega
                            case rel => exact ⟨(x8_3), (x9_3), (wrap64 (x39_2 + 1)), (by first | rfl | (simp; done) | (simp [*]; done)), (by first | rfl | (simp; done) | (simp [*]; done)), H', ⟨by have := HK1.out; have := HK2.out; have := HK3.out; omega⟩, ⟨by (with_reducible repeat (first | apply Kd.R_alloc | apply Kd.R_drewN | apply Kd.R_drew)); exact HO_5.out⟩, ⟨by (with_reducible repeat (first | apply Kd.R_alloc | apply Kd.R_drewN | apply Kd.R_drew)); exact HO_8.out⟩, ⟨by (with_reducible repeat (first | apply Kd.R_alloc | apply Kd.R_drewN | apply Kd.R_drew)); exact HO_37.out⟩, ⟨by (with_reducible repeat (first | refine blk_drewN ?_ _ | refine blk_drew ?_ | refine blk_alloc ?_ _)); exact BK197.out⟩, ⟨by (with_reducible repeat (first | refine blk_drewN ?_ _ | refine blk_drew ?_ | refine blk_alloc ?_ _)); exact BK205.out⟩, ⟨by repeat (first | (with_reducible first | exact HB.out | apply below_alloc | apply pw_below_drewN | apply below_drew1 | refine below_set ?_ GE197.out | refine below_set ?_ GE205.out) | exact HB.out)⟩⟩
                    · rw [if_neg c26] at H
                      exact absurd H (by simp)
                  · rw [if_neg c24] at H
                    exact absurd H (by simp)
                · rw [if_neg c23] at H
                  exact absurd H (by simp)
              · rw [if_neg c22] at H
                have c22b0 : decide (x39_2 < (t206.length : Int)) = false := decide_eq_false c22
                clear c22
                replace H := Option.bind_eq_some_iff.mp H
                obtain ⟨t212, A630, H⟩ := H
                replace H : (some (t212, x9_2, true)) = some (r1, r2, r3) := H
                have A63 := Aside0.mk A630
                clear A630
                simp only [Option.some.injEq, Prod.mk.injEq] at H
                obtain ⟨rfl, rfl, rfl⟩ := H
                obtain ⟨Ao64, co64, eo64⟩ := Kd.R_slice HO_8.out
                subst eo64
                go_wp2_with (first | ((with_reducible refine gate_callee (f := 83) rfl ?_); refine goesL_ (some 91) rfl rfl Try.func83 (by kernel_rfl) rfl #[.slice Ao64 x8_2.length co64, .func (.func 84) #[] #[]] rfl (by (try simp only [List.map_toArray, List.map_cons, List.map_nil]); first | done | rfl | (simp only [List.length_drop, List.length_take]; rfl)) ?_; refine (impl_Pair.real (.slice Ao64 x8_2.length co64) x8_2 t212 w _ (by repeat (first | (with_reducible first | exact HB.out | apply below_alloc | apply pw_below_drewN | apply below_drew1 | refine below_set ?_ GE197.out | refine below_set ?_ GE205.out) | exact HB.out)) (by (with_reducible repeat (first | apply Kd.R_alloc | apply Kd.R_drewN | apply Kd.R_drew)); exact HO_8.out) A63.out).mono ?_; rintro e w65 ⟨rfl, ho0, hb⟩; refine ⟨_, rfl, ?_⟩; clear HO_5; clear HO_8; clear HO_37; clear BK197; clear BK205; clear HB; have HO214 := Aside0.mk ho0; have HB := Aside0.mk hb; clear ho0 hb))
                go_ret3
                exact ⟨_, by first | rfl | (simp [errW_none, errW_some] <;> rfl) | (simp [*, errW_none, errW_some] <;> rfl), by (with_reducible repeat (first | apply Kd.R_alloc | apply Kd.R_drewN | apply Kd.R_drew)); exact Kd.R_mono HO214.out (fun _ hk => trivial), by repeat (first | (with_reducible first | exact HB.out | apply below_alloc | apply pw_below_drewN | apply below_drew1 | refine below_set ?_ GE197.out | refine below_set ?_ GE205.out) | exact HB.out)⟩
  · replace c3 := Bool.eq_false_iff.mpr c3
    subst c3
    have H1 : (some (([] : List (S90)), 0, false)) = some (r1, r2, r3) := by rw [if_neg (show ¬ (false = true) by decide)] at H; exact H
    clear H
    have H := H1
    clear H1
    simp only [Option.some.injEq, Prod.mk.injEq] at H
    obtain ⟨rfl, rfl, rfl⟩ := H
    have e79_ := Go.Proofs.enters_of Try.func79 (by kernel_rfl) rfl
    go_enter Try.func35, Try.ntmps35
    go_wp2_with (first | ((with_reducible refine gate_dst (N := 1) rfl ?_); refine box_event ?hg (N := 1) ?hd (cs := #[(.slice A0 l0.length c0 : Value)]) (t := 55) ?hr ?_; (case hd => rfl); (case hg => rfl); (case hr => first | (go_simp; done) | (go_simp; rfl)); intro gb197 hg w66 hbox hb; have n0_ := Aside0.mk (below_step (by repeat (first | (with_reducible first | exact HB.out | apply below_alloc | apply pw_below_drewN | apply below_drew1) | exact HB.out)) hb); have n1_ := Aside0.mk (hbox); have n2_ := Aside0.mk ((by rw [hg]; exact (below_size (by repeat (first | (with_reducible first | exact HB.out | apply below_alloc | apply pw_below_drewN | apply below_drew1) | exact HB.out))) : w.heap.size ≤ gb197)); have n3_ := Aside0.mk ((by rw [hg]; exact (below_size (by repeat (first | (with_reducible first | exact HB.out | apply below_alloc | apply pw_below_drewN | apply below_drew1) | exact HB.out))) : w.heap.size ≤ gb197)); clear HB; have HB := n0_; have BK197 := n1_; have GW197 := n2_; have GE197 := n3_; clear n0_ n1_ n2_ n3_; clear hb hbox hg; have hcz67_0 : w66.cell? ⟨gb197, 0, none⟩ = some (.slice A0 l0.length c0 : Value) := (blk_cell BK197.out 0).trans rfl; have hfz67_0 := blk_frozen BK197.out 0) | ((with_reducible refine gate_callee (f := 67) rfl ?_); refine goesL_ (some 19) rfl rfl Try.func67 (by kernel_rfl) rfl #[.slice A0 l0.length c0] rfl (by (try simp only [List.map_toArray, List.map_cons, List.map_nil]); first | done | rfl | (simp only [List.length_drop, List.length_take]; rfl)) ?_; (with_reducible refine (impl_areShapes.calls _ _ l0 false _ ?side1 ?side2 A2.out).mono ?_); (case side1 => repeat (first | exact (Kd.C_below HR0.out HB.out) | (with_reducible refine Kd.C_alloc ?_ _) | (with_reducible refine Kd.C_drewN ?_ _) | (with_reducible refine Kd.C_drew ?_))); (case side2 => exact HC0.out); rintro e w68 ⟨rfl, hb⟩; refine ⟨_, rfl, ?_⟩; have n0_ := Aside0.mk (blk_below (g := gb197) (o := .cells #[(.slice A0 l0.length c0 : Value)] 55 (0, 0)) (by (with_reducible repeat (first | refine blk_drewN ?_ _ | refine blk_drew ?_ | refine blk_alloc ?_ _)); exact BK197.out) hb); have n1_ := Aside0.mk (below_step (by repeat (first | (with_reducible first | exact HB.out | apply below_alloc | apply pw_below_drewN | apply below_drew1 | refine below_set ?_ GE197.out) | exact HB.out)) hb); clear BK197; clear HB; have BK197 := n0_; have HB := n1_; clear n0_ n1_; (try clear hb); (try clear hb2); (try clear hk); (try clear hi)))
    go_ret3
    exact ⟨_, by first | rfl | (simp [errW_none, errW_some] <;> rfl) | (simp [*, errW_none, errW_some] <;> rfl), by first | exact Kd.R_nil _ _ _ _ _ | exact Kd.N_nil _ _ _ _ _ | exact Kd.V_nil _ _ _ _ _ | exact Kd.Q_nil _ _ _ _ _ | exact Kd.S_nil _ _ _ _ _, by repeat (first | (with_reducible first | exact HB.out | apply below_alloc | apply pw_below_drewN | apply below_drew1 | refine below_set ?_ GE197.out) | exact HB.out)⟩

end Go.Proofs.Ytiaajmnmbjheoaa.PFnExactSweepPairs
