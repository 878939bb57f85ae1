/- The machine's side of a law, function by function: a Lean function with the Go function's answers and the proof that the Go code comes to them. No condition. Written by this session's program over the kit's print, this session's own contracts set in. -/
import Derived.Test.YtcdchmdkcdlklaaPFnExactRunClockx0
import Derived.Test.YtcdchmdkcdlklaaPFnExactRunClockx1
import Derived.Test.YtcdchmdkcdlklaaPFnExactRunClockx2
namespace Go.Proofs.Ytcdchmdkcdlklaa.PFnExactRunClock
open Go.RowKit Go.Proofs.YtcdchmdkcdlklaaW.PrintWords Go.Proofs.YtcdchmdkcdlklaaW.PrintLast Go.Proofs.YtcdchmdkcdlklaaW.PrintMore
attribute [local go_sem] max2_int min2_int max_two min_two max_three min_three max_four min_four   -- for this text's walks alone
set_option linter.unusedVariables false
set_option linter.unusedSimpArgs false

/-! ### spec_RunClock: function 8 -/
mutual
def spec_RunClock.j0 : Nat → Int → Bool → Int → List (S54) → Option (Int × (List (S54)) × (List (S56)) × Bool)
 | 0, _, _, _, _ => none
 | k + 1, x1, x21, x116000, x116001 => if x21 = true then (some (0, ([] : List (S54)), ([] : List (S56)), false)) else ((some (([] : List (S54)) : List (S54))).bind fun y119 => (if y119.length + x116001.length < 4398046511104 then (spec_RunClock.l0 k x1 (y119 ++ x116001) ([] : List (S56))) else (none)))
def spec_RunClock.l0 : Nat → Int → List (S54) → List (S56) → Option (Int × (List (S54)) × (List (S56)) × Bool)
 | 0, _, _, _ => none
 | k + 1, x1, x7, x8 => spec_RunClock.l1 k x1 x7 x8 (-1) x7 (x7.length : Int) 0
def spec_RunClock.l1 : Nat → Int → List (S54) → List (S56) → Int → List (S54) → Int → Int → Option (Int × (List (S54)) × (List (S56)) × Bool)
 | 0, _, _, _, _, _, _, _ => none
 | k + 1, x1, x7, x8, x9, x27, x28, x29 => if x29 < x28 then (if 0 ≤ x29 then (if x29 < (x27.length : Int) then (if ((rd_T54 x27 x29).f1) ≤ x1 then (if x9 < 0 then (spec_RunClock.l1 k x1 x7 x8 x29 x27 x28 (wrap64 (x29 + 1))) else (if 0 ≤ x9 then (if x9 < (x7.length : Int) then (if ((rd_T54 x27 x29).f1) < ((rd_T54 x7 x9).f1) then (spec_RunClock.l1 k x1 x7 x8 x29 x27 x28 (wrap64 (x29 + 1))) else (spec_RunClock.l1 k x1 x7 x8 x9 x27 x28 (wrap64 (x29 + 1)))) else (none)) else (none))) else (spec_RunClock.l1 k x1 x7 x8 x9 x27 x28 (wrap64 (x29 + 1)))) else (none)) else (none)) else (if x9 < 0 then (some (x1, x7, x8, true)) else (if (x8.length : Int) = 2000 then (some (0, ([] : List (S54)), ([] : List (S56)), false)) else (if 0 ≤ x9 then (if x9 < (x7.length : Int) then (if x8.length < 8796093022208 then ((some (x8 ++ [(⟨(rd_T54 x7 x9).f1, (rd_T54 x7 x9).f0⟩ : S56)] : List (S56))).bind fun y130 => (if ((rd_T54 x7 x9).f2) > 0 then (if ((rd_T54 x7 x9).f3) > 1 then ((some (x7.set (x9 : Int).toNat (⟨(rd_T54 x7 x9).f0, (rd_T54 x7 x9).f1, (rd_T54 x7 x9).f2, wrap64 (((rd_T54 x7 x9).f3) - 1)⟩ : S54) : List (S54))).bind fun y136 => (spec_RunClock.l0 k x1 (y136.set (x9 : Int).toNat (⟨(rd_T54 y136 x9).f0, wrap64 (((rd_T54 y136 x9).f1) + ((rd_T54 y136 x9).f2)), (rd_T54 y136 x9).f2, (rd_T54 y136 x9).f3⟩ : S54)) y130)) else (if x9 ≤ (x7.length : Int) then (if 0 ≤ (wrap64 (x9 + 1)) then (if (wrap64 (x9 + 1)) ≤ (x7.length : Int) then (spec_RunClock.l0 k x1 (x7.eraseIdx (x9 : Int).toNat) y130) else (none)) else (none)) else (none))) else (if x9 ≤ (x7.length : Int) then (if 0 ≤ (wrap64 (x9 + 1)) then (if (wrap64 (x9 + 1)) ≤ (x7.length : Int) then (spec_RunClock.l0 k x1 (x7.eraseIdx (x9 : Int).toNat) y130) else (none)) else (none)) else (none)))) else (none)) else (none)) else (none))))
end
def spec_RunClock.f (k : Nat) (a0_0 : Int) (l0_1 : List (S54)) (a1 : Int) : Option (Int × (List (S54)) × (List (S56)) × Bool) := (spec_GoodClock.f k a0_0 l0_1).bind fun t117 => (if t117 = true then ((spec_l1In.f a1 a0_0 100000).bind fun t118 => (spec_RunClock.j0 k a1 (!t118) a0_0 l0_1)) else (spec_RunClock.j0 k a1 true a0_0 l0_1))
theorem spec_RunClock.mono_l : ∀ k, (∀ y0 y1 y2 y3, LeO (spec_RunClock.j0 k y0 y1 y2 y3) (spec_RunClock.j0 (k + 1) y0 y1 y2 y3)) ∧ (∀ y0 y1 y2, LeO (spec_RunClock.l0 k y0 y1 y2) (spec_RunClock.l0 (k + 1) y0 y1 y2)) ∧ (∀ y0 y1 y2 y3 y4 y5 y6, LeO (spec_RunClock.l1 k y0 y1 y2 y3 y4 y5 y6) (spec_RunClock.l1 (k + 1) y0 y1 y2 y3 y4 y5 y6))
 | 0 => ⟨fun _ _ _ _ r h => by simp [spec_RunClock.j0] at h, fun _ _ _ r h => by simp [spec_RunClock.l0] at h, fun _ _ _ _ _ _ _ r h => by simp [spec_RunClock.l1] at h⟩
 | k + 1 => by
  obtain ⟨ih0, ih1, ih2⟩ := spec_RunClock.mono_l k
  refine ⟨?_, ?_, ?_⟩
  ·intro y0 y1 y2 y3
   unfold spec_RunClock.j0
   repeat' first
   | (with_reducible exact ih0 _ _ _ _)
   | (with_reducible exact ih1 _ _ _)
   | (with_reducible exact ih2 _ _ _ _ _ _ _)
   | (with_reducible exact spec_GoodClock.mono _ _ _)
   | (with_reducible exact LeO.refl _)
   | (with_reducible exact LeO.none _)
   | (with_reducible refine LeO.ite ?_ ?_)
   | (with_reducible refine LeO.bind ?_ (fun _ => ?_))
   | exact ih0 _ _ _ _
   | exact ih1 _ _ _
   | exact ih2 _ _ _ _ _ _ _
   | exact spec_GoodClock.mono _ _ _
   | exact LeO.none _
   | refine LeO.ite ?_ ?_
   | refine LeO.bind ?_ (fun _ => ?_)
  ·intro y0 y1 y2
   unfold spec_RunClock.l0
   repeat' first
   | (with_reducible exact ih0 _ _ _ _)
   | (with_reducible exact ih1 _ _ _)
   | (with_reducible exact ih2 _ _ _ _ _ _ _)
   | (with_reducible exact spec_GoodClock.mono _ _ _)
   | (with_reducible exact LeO.refl _)
   | (with_reducible exact LeO.none _)
   | (with_reducible refine LeO.ite ?_ ?_)
   | (with_reducible refine LeO.bind ?_ (fun _ => ?_))
   | exact ih0 _ _ _ _
   | exact ih1 _ _ _
   | exact ih2 _ _ _ _ _ _ _
   | exact spec_GoodClock.mono _ _ _
   | exact LeO.none _
   | refine LeO.ite ?_ ?_
   | refine LeO.bind ?_ (fun _ => ?_)
  ·intro y0 y1 y2 y3 y4 y5 y6
   unfold spec_RunClock.l1
   repeat' first
   | (with_reducible exact ih0 _ _ _ _)
   | (with_reducible exact ih1 _ _ _)
   | (with_reducible exact ih2 _ _ _ _ _ _ _)
   | (with_reducible exact spec_GoodClock.mono _ _ _)
   | (with_reducible exact LeO.refl _)
   | (with_reducible exact LeO.none _)
   | (with_reducible refine LeO.ite ?_ ?_)
   | (with_reducible refine LeO.bind ?_ (fun _ => ?_))
   | exact ih0 _ _ _ _
   | exact ih1 _ _ _
   | exact ih2 _ _ _ _ _ _ _
   | exact spec_GoodClock.mono _ _ _
   | exact LeO.none _
   | refine LeO.ite ?_ ?_
   | refine LeO.bind ?_ (fun _ => ?_)
theorem spec_RunClock.mono : ∀ a0 a1 a2 k, LeO (spec_RunClock.f k a0 a1 a2) (spec_RunClock.f (k + 1) a0 a1 a2) := by
 intro a0 a1 a2 k
 obtain ⟨ih0, ih1, ih2⟩ := spec_RunClock.mono_l k
 unfold spec_RunClock.f
 repeat' first
   | (with_reducible exact ih0 _ _ _ _)
   | (with_reducible exact ih1 _ _ _)
   | (with_reducible exact ih2 _ _ _ _ _ _ _)
   | (with_reducible exact spec_GoodClock.mono _ _ _)
   | (with_reducible exact LeO.refl _)
   | (with_reducible exact LeO.none _)
   | (with_reducible refine LeO.ite ?_ ?_)
   | (with_reducible refine LeO.bind ?_ (fun _ => ?_))
   | exact ih0 _ _ _ _
   | exact ih1 _ _ _
   | exact ih2 _ _ _ _ _ _ _
   | exact spec_GoodClock.mono _ _ _
   | exact LeO.none _
   | refine LeO.ite ?_ ?_
   | refine LeO.bind ?_ (fun _ => ?_)
def spec_RunClock.T9 : Bool × List (List Nat × List Nat) := (true, [([], []), ([0], [0]), ([], []), ([1, 2], [1, 2]), ([3], [3]), ([4], [4]), ([5, 4], [4, 5]), ([6, 4, 4], [4, 6]), ([7], [7]), ([8, 7], [7, 8]), ([7], [7]), ([7], [7]), ([10, 11, 7], [7, 10, 11]), ([12, 7], [7, 12]), ([13, 7], [7, 13]), ([9, 14, 7], [7, 9, 14]), ([7, 15, 4], [4, 7, 15]), ([4, 16], [4, 16])])
def spec_RunClock.B9 : List Nat := [0, 1, 0, 7, 15, 31, 63, 127, 255, 511, 255, 255, 3327, 7423, 15615, 32767, 65535, 131071]
theorem spec_RunClock.tab9 : rtab .any (opsOf Try.f8 9) = spec_RunClock.T9 := by kernel_rfl
theorem spec_RunClock.bits9 : waitsOk spec_RunClock.T9.2 spec_RunClock.B9 = true := by kernel_rfl
def spec_RunClock.T16 : Bool × List (List Nat × List Nat) := (true, [([], []), ([], []), ([], []), ([1, 2], [1, 2]), ([3], [3]), ([4], [4]), ([], []), ([], []), ([6, 7], [6, 7]), ([8], [8]), ([9], [9]), ([5, 10], [5, 10]), ([11], [11]), ([0, 12], [0, 12]), ([13, 13, 0, 1, 2, 3, 4, 5, 6, 7, 8, 9, 10, 11, 12, 13], [0, 13])])
def spec_RunClock.B16 : List Nat := [0, 0, 0, 6, 14, 30, 0, 0, 192, 448, 960, 2046, 4094, 8191, 16383]
theorem spec_RunClock.tab16 : rtab .any (opsOf Try.f8 16) = spec_RunClock.T16 := by kernel_rfl
theorem spec_RunClock.bits16 : waitsOk spec_RunClock.T16.2 spec_RunClock.B16 = true := by kernel_rfl
def spec_RunClock.T19 : Bool × List (List Nat × List Nat) := (true, [([], []), ([], []), ([0, 1], [0, 1]), ([2], [2]), ([3], [3]), ([], []), ([], []), ([5, 6], [5, 6]), ([7], [7]), ([8], [8]), ([4, 9], [4, 9]), ([0, 1, 0, 1, 2, 3, 4, 5, 6, 7, 8, 9, 10], [0, 1]), ([11, 0, 1, 2, 3, 4, 5, 6, 7, 8, 9, 10], [11]), ([12, 10, 0, 1, 2, 3, 4, 5, 6, 7, 8, 9, 10], [10, 12])])
def spec_RunClock.B19 : List Nat := [0, 0, 3, 7, 15, 0, 0, 96, 224, 480, 1023, 2047, 4095, 8191]
theorem spec_RunClock.tab19 : rtab .any (opsOf Try.f8 19) = spec_RunClock.T19 := by kernel_rfl
theorem spec_RunClock.bits19 : waitsOk spec_RunClock.T19.2 spec_RunClock.B19 = true := by kernel_rfl
def spec_RunClock.T20 : Bool × List (List Nat × List Nat) := (true, [([], []), ([], []), ([0, 1], [0, 1]), ([], []), ([], []), ([4], [4]), ([3, 5], [3, 5]), ([2, 6], [2, 6]), ([7, 7, 0, 1, 2, 3, 4, 5, 6, 7], [0, 3, 7])])
def spec_RunClock.B20 : List Nat := [0, 0, 3, 0, 0, 16, 56, 127, 255]
theorem spec_RunClock.tab20 : rtab .any (opsOf Try.f8 20) = spec_RunClock.T20 := by kernel_rfl
theorem spec_RunClock.bits20 : waitsOk spec_RunClock.T20.2 spec_RunClock.B20 = true := by kernel_rfl
set_option maxHeartbeats 8000000 in
set_option maxRecDepth 100000 in
theorem spec_RunClock.calls (k : Nat) (a0_0 : Int) (A0_1 : Option Addr) (c0_1 : Nat) (l0_1 : List (S54)) (a1 : Int) (r1 : Int) (r2 : List (S54)) (r3 : List (S56)) (r4 : Bool) (w : World) (hr0_1 : Kd.C k54 w A0_1 l0_1.length l0_1) (hc0_1 : l0_1.length ≤ c0_1) (h : spec_RunClock.f k a0_0 l0_1 a1 = some (r1, r2, r3, r4)) :
  Calls Try.prog 8 #[.agg #[.int .i64 a0_0, .slice A0_1 l0_1.length c0_1], .int .i64 a1] w fun e w' => ∃ v1_ v2_ : Value, e = .returned (.tuple #[.agg #[.int .i64 r1, v1_], v2_, .bool r4]) ∧ Kd.R k54 54 w' w.heap.size (fun _ => True) v1_ r2 ∧ Kd.R k56 56 w' w.heap.size (fun _ => True) v2_ r3 ∧ Below w.heap.size w w' := by
 have hu31 := Try.underlying31
 have hu54 := Try.underlying54
 have hu56 := Try.underlying56
 have HR0_1 := Aside0.mk hr0_1
 have HC0_1 := Aside0.mk hc0_1
 clear hr0_1 hc0_1
 have HB := Aside0.mk (Below.refl w.heap.size w)
 have H : ((spec_GoodClock.f k a0_0 l0_1).bind fun t117 => (if t117 = true then ((spec_l1In.f a1 a0_0 100000).bind fun t118 => (spec_RunClock.j0 k a1 (!t118) a0_0 l0_1)) else (spec_RunClock.j0 k a1 true a0_0 l0_1))) = some (r1, r2, r3, r4) := h
 clear h
 have HC3 := Aside0.mk H
 clear H
 go_enter Try.func8, Try.ntmps8
 go_upto_region 1 with (first | ((with_reducible refine gate_dst (N := 2) rfl ?_); refine box_event ?hg (N := 2) ?hd (cs := #[.int .i64 a0_0, .slice A0_1 l0_1.length c0_1]) (t := 31) ?hr ?_; (case hd => rfl); (case hg => rfl); (case hr => first | (go_simp; done) | (go_simp; rfl)); intro gb115 hg w4 hbox hb; have n0_ := Aside0.mk (below_step blw hb); have n1_ := Aside0.mk (hbox); have n2_ := Aside0.mk ((by rw [hg]; exact (below_size blw) : w.heap.size ≤ gb115)); have n3_ := Aside0.mk ((by rw [hg]; exact (below_size blw) : w.heap.size ≤ gb115)); clear HB; have HB := n0_; have BK115 := n1_; have GW115 := n2_; have GE115 := n3_; clear n0_ n1_ n2_ n3_; clear hb hbox hg) | ((with_reducible refine gate_dst (N := 4) rfl ?_); refine box_event ?hg (N := 4) ?hd (cs := #[.int .i64 0, .slice none 0 0]) (t := 31) ?hr ?_; (case hd => rfl); (case hg => rfl); (case hr => first | (go_simp; done) | (go_simp; rfl)); intro gb116 hg w5 hbox hb; have n0_ := Aside0.mk (blk_below (g := gb115) (o := .cells #[.int .i64 a0_0, .slice A0_1 l0_1.length c0_1] 31 (0, 0)) bkw hb); have n1_ := Aside0.mk (below_step blw hb); have n2_ := Aside0.mk (hbox); have n3_ := Aside0.mk ((by rw [hg]; exact (below_size blw) : w.heap.size ≤ gb116)); have n4_ := Aside0.mk ((by rw [hg]; exact (below_size blw) : w.heap.size ≤ gb116)); have n5_ := Aside0.mk ((by rw [hg]; exact Nat.ne_of_lt (blk_lt (g := gb115) (o := .cells #[.int .i64 a0_0, .slice A0_1 l0_1.length c0_1] 31 (0, 0)) bkw) : gb115 ≠ gb116)); have n6_ := Aside0.mk ((by rw [hg]; exact Nat.ne_of_gt (blk_lt (g := gb115) (o := .cells #[.int .i64 a0_0, .slice A0_1 l0_1.length c0_1] 31 (0, 0)) bkw) : gb116 ≠ gb115)); clear BK115; clear HB; have BK115 := n0_; have HB := n1_; have BK116 := n2_; have GW116 := n3_; have GE116 := n4_; have NB115_116 := n5_; have NB116_115 := n6_; clear n0_ n1_ n2_ n3_ n4_ n5_ n6_; clear hb hbox hg))
 (try simp only [Act.put, List.setIfInBounds_toArray, List.set_cons_zero, List.set_cons_succ])
 go_cut [21] (fun v21 wc => ∃ (kq : Nat) (x21_2 : Bool), v21 = .bool x21_2 ∧ Aside0 (spec_RunClock.j0 kq a1 x21_2 a0_0 l0_1 = some (r1, r2, r3, r4)) ∧ Aside0 (kq ≤ k) ∧ Aside0 (wc.heap[gb115]? = some (.cells #[.int .i64 a0_0, (.slice A0_1 l0_1.length c0_1)] 31 (0, 0))) ∧ Aside0 (wc.heap[gb116]? = some (.cells #[.int .i64 0, (.slice none 0 0)] 31 (0, 0))) ∧ Aside0 (Below w.heap.size w wc))
 case first =>
  have H := HC3.out
  clear HC3
  replace H := Option.bind_eq_some_iff.mp H
  obtain ⟨t117, A60, H⟩ := H
  replace H : (if t117 = true then ((spec_l1In.f a1 a0_0 100000).bind fun t118 => (spec_RunClock.j0 k a1 (!t118) a0_0 l0_1)) else (spec_RunClock.j0 k a1 true a0_0 l0_1)) = some (r1, r2, r3, r4) := H
  have A6 := Aside0.mk A60
  clear A60
  by_cases c7 : t117 = true
  ·subst c7
   have H1 : ((spec_l1In.f a1 a0_0 100000).bind fun t118 => (spec_RunClock.j0 k a1 (!t118) a0_0 l0_1)) = some (r1, r2, r3, r4) := by rw [if_pos rfl] at H; exact H
   clear H
   have H := H1
   clear H1
   replace H := Option.bind_eq_some_iff.mp H
   obtain ⟨t118, A80, H⟩ := H
   replace H : (spec_RunClock.j0 k a1 (!t118) a0_0 l0_1) = some (r1, r2, r3, r4) := H
   have A8 := Aside0.mk A80
   clear A80
   have H' := Aside0.mk H
   clear H
   have hnb9 := NB115_116.out
   have hnc9 := NB116_115.out
   have hcz10_0 : w5.cell? ⟨gb115, 0, none⟩ = some (.int .i64 a0_0) := (blk_cell BK115.out 0).trans rfl
   have hcz10_1 : w5.cell? ⟨gb115, 1, none⟩ = some (.slice A0_1 l0_1.length c0_1) := (blk_cell BK115.out 1).trans rfl
   have hfz10_0 := blk_frozen BK115.out 0
   have hfz10_1 := blk_frozen BK115.out 1
   go_wp2_with (first | ((with_reducible refine gate_callee (f := 27) rfl ?_); refine goesL_ (some 13) rfl rfl Try.func27 (by kernel_rfl) rfl #[.agg #[.int .i64 a0_0, .slice A0_1 l0_1.length c0_1]] rfl (by (try simp only [List.map_toArray, List.map_cons, List.map_nil]); first | done | rfl | (simp only [List.length_drop, List.length_take]; rfl)) ?_; (with_reducible refine (spec_GoodClock.calls k a0_0 _ _ l0_1 true _ ?side1 ?side2 A6.out).mono ?_); (case side1 => repeat (first | exact (Kd.C_below HR0_1.out HB.out) | (with_reducible refine Kd.C_alloc ?_ _) | (with_reducible refine Kd.C_drewN ?_ _) | (with_reducible refine Kd.C_drew ?_))); (case side2 => exact HC0_1.out); rintro e w11 ⟨rfl, hb⟩; refine ⟨_, rfl, ?_⟩; have n0_ := Aside0.mk (blk_below (g := gb115) (o := .cells #[.int .i64 a0_0, .slice A0_1 l0_1.length c0_1] 31 (0, 0)) bkw hb); have n1_ := Aside0.mk (blk_below (g := gb116) (o := .cells #[.int .i64 0, .slice none 0 0] 31 (0, 0)) bkw hb); have n2_ := Aside0.mk (below_step blw hb); clear BK115; clear BK116; clear HB; have BK115 := n0_; have BK116 := n1_; have HB := n2_; clear n0_ n1_ n2_; (try clear hb); (try clear hb2); (try clear hk); (try clear hi); have hcz12_0 : w11.cell? ⟨gb115, 0, none⟩ = some (.int .i64 a0_0) := (blk_cell BK115.out 0).trans rfl; have hcz12_1 : w11.cell? ⟨gb115, 1, none⟩ = some (.slice A0_1 l0_1.length c0_1) := (blk_cell BK115.out 1).trans rfl; have hfz12_0 := blk_frozen BK115.out 0; have hfz12_1 := blk_frozen BK115.out 1) | (go_at_call 18; (with_reducible refine (spec_l1In.calls a1 a0_0 100000 t118 _ A8.out).mono ?_); rintro e w' ⟨rfl, ⟨nd, rfl⟩⟩))
   go_meet
   case rel => exact ⟨_, (!t118), (by first | rfl | (simp; done) | (simp [*]; done)), H', ⟨by first | omega | exact Nat.le_refl _⟩, ⟨by (with_reducible repeat (first | refine blk_drewN ?_ _ | refine blk_drew ?_ | refine blk_alloc ?_ _)); exact BK115.out⟩, ⟨by (with_reducible repeat (first | refine blk_drewN ?_ _ | refine blk_drew ?_ | refine blk_alloc ?_ _)); exact BK116.out⟩, ⟨blw⟩⟩
  ·replace c7 := Bool.eq_false_iff.mpr c7
   subst c7
   have H1 : (spec_RunClock.j0 k a1 true a0_0 l0_1) = some (r1, r2, r3, r4) := by rw [if_neg (show ¬ (false = true) by decide)] at H; exact H
   clear H
   have H := H1
   clear H1
   have H' := Aside0.mk H
   clear H
   have hnb13 := NB115_116.out
   have hnc13 := NB116_115.out
   have hcz14_0 : w5.cell? ⟨gb115, 0, none⟩ = some (.int .i64 a0_0) := (blk_cell BK115.out 0).trans rfl
   have hcz14_1 : w5.cell? ⟨gb115, 1, none⟩ = some (.slice A0_1 l0_1.length c0_1) := (blk_cell BK115.out 1).trans rfl
   have hfz14_0 := blk_frozen BK115.out 0
   have hfz14_1 := blk_frozen BK115.out 1
   go_wp2_with (first | ((with_reducible refine gate_callee (f := 27) rfl ?_); refine goesL_ (some 13) rfl rfl Try.func27 (by kernel_rfl) rfl #[.agg #[.int .i64 a0_0, .slice A0_1 l0_1.length c0_1]] rfl (by (try simp only [List.map_toArray, List.map_cons, List.map_nil]); first | done | rfl | (simp only [List.length_drop, List.length_take]; rfl)) ?_; (with_reducible refine (spec_GoodClock.calls k a0_0 _ _ l0_1 false _ ?side1 ?side2 A6.out).mono ?_); (case side1 => repeat (first | exact (Kd.C_below HR0_1.out HB.out) | (with_reducible refine Kd.C_alloc ?_ _) | (with_reducible refine Kd.C_drewN ?_ _) | (with_reducible refine Kd.C_drew ?_))); (case side2 => exact HC0_1.out); rintro e w15 ⟨rfl, hb⟩; refine ⟨_, rfl, ?_⟩; have n0_ := Aside0.mk (blk_below (g := gb115) (o := .cells #[.int .i64 a0_0, .slice A0_1 l0_1.length c0_1] 31 (0, 0)) bkw hb); have n1_ := Aside0.mk (blk_below (g := gb116) (o := .cells #[.int .i64 0, .slice none 0 0] 31 (0, 0)) bkw hb); have n2_ := Aside0.mk (below_step blw hb); clear BK115; clear BK116; clear HB; have BK115 := n0_; have BK116 := n1_; have HB := n2_; clear n0_ n1_ n2_; (try clear hb); (try clear hb2); (try clear hk); (try clear hi)))
   go_meet
   case rel => exact ⟨_, (true), (by first | rfl | (simp; done) | (simp [*]; done)), H', ⟨by first | omega | exact Nat.le_refl _⟩, ⟨by (with_reducible repeat (first | refine blk_drewN ?_ _ | refine blk_drew ?_ | refine blk_alloc ?_ _)); exact BK115.out⟩, ⟨by (with_reducible repeat (first | refine blk_drewN ?_ _ | refine blk_drew ?_ | refine blk_alloc ?_ _)); exact BK116.out⟩, ⟨blw⟩⟩
 case rest =>
  clear HC3
  try clear c1
  try clear c2
  try clear p2
  try clear c7
  try clear c8
  try clear c9
  try clear c13
  try clear hcz10_0
  try clear hcz10_1
  try clear hcz12_0
  try clear hcz12_1
  try clear hcz14_0
  try clear hcz14_1
  try clear hfz10_0
  try clear hfz10_1
  try clear hfz12_0
  try clear hfz12_1
  try clear hfz14_0
  try clear hfz14_1
  obtain ⟨kq, x21_2, rfl, HA, HJ2, BK115, BK116, HB⟩ := hcut
  cases kq with
  | zero => exact absurd HA.out (by simp [spec_RunClock.j0])
  | succ kj2 =>
   have H := HA.out
   clear HA
   simp only [spec_RunClock.j0] at H
   by_cases c16 : x21_2 = true
   ·subst c16
    have H1 : (some (0, ([] : List (S54)), ([] : List (S56)), false)) = some (r1, r2, r3, r4) := by rw [if_pos rfl] at H; exact H
    clear H
    have H := H1
    clear H1
    simp only [Option.some.injEq, Prod.mk.injEq] at H
    obtain ⟨rfl, rfl, rfl, rfl⟩ := H
    have hnb17 := NB116_115.out
    have hnc17 := NB115_116.out
    have hcz18_0 : wc.cell? ⟨gb116, 0, none⟩ = some (.int .i64 0) := (blk_cell BK116.out 0).trans rfl
    have hcz18_1 : wc.cell? ⟨gb116, 1, none⟩ = some (.slice none 0 0) := (blk_cell BK116.out 1).trans rfl
    have hfz18_0 := blk_frozen BK116.out 0
    have hfz18_1 := blk_frozen BK116.out 1
    go_wp2
    refine bodyPost_ret (results_ctt rfl _ _ gb116 31 #[.int .i64 0, .slice none 0 0] (0, 0) _ rfl (by (with_reducible repeat (first | refine blk_drewN ?_ _ | refine blk_drew ?_ | refine blk_alloc ?_ _)); refine blk_put (cs := #[.int .i64 0, .slice none 0 0]) ?_ 1 _ rfl; (with_reducible repeat (first | refine blk_drewN ?_ _ | refine blk_drew ?_ | refine blk_alloc ?_ _)); refine blk_put (cs := #[.int .i64 0, .slice none 0 0]) ?_ 0 _ rfl; (with_reducible repeat (first | refine blk_drewN ?_ _ | refine blk_drew ?_ | refine blk_alloc ?_ _)); exact BK116.out) Try.underlying31 rfl (by kernel_rfl)) rfl ?_
    exact ⟨_, _, by first | rfl | (simp [errW_none, errW_some] <;> rfl) | (simp [*, errW_none, errW_some] <;> rfl), by first | exact Kd.R_nil _ _ _ _ _ | exact Kd.N_nil _ _ _ _ _ | exact Kd.V_nil _ _ _ _ _ | exact Kd.Q_nil _ _ _ _ _ | exact Kd.S_nil _ _ _ _ _, by first | exact Kd.R_nil _ _ _ _ _ | exact Kd.N_nil _ _ _ _ _ | exact Kd.V_nil _ _ _ _ _ | exact Kd.Q_nil _ _ _ _ _ | exact Kd.S_nil _ _ _ _ _, blw⟩
   ·replace c16 := Bool.eq_false_iff.mpr c16
    subst c16
    have H1 : ((some (([] : List (S54)) : List (S54))).bind fun y119 => (if y119.length + l0_1.length < 4398046511104 then (spec_RunClock.l0 kj2 a1 (y119 ++ l0_1) ([] : List (S56))) else (none))) = some (r1, r2, r3, r4) := by rw [if_neg (show ¬ (false = true) by decide)] at H; exact H
    clear H
    have H := H1
    clear H1
    obtain ⟨y119, hy119⟩ : ∃ y_ : List (S54), y_ = (([] : List (S54))) := ⟨_, rfl⟩
    replace H : (if y119.length + l0_1.length < 4398046511104 then (spec_RunClock.l0 kj2 a1 (y119 ++ l0_1) ([] : List (S56))) else (none)) = some (r1, r2, r3, r4) := by first | (rw [hy119]; with_reducible exact H) | (have H2_ := (Option.bind_some _ _).symm.trans H; rw [hy119]; with_reducible exact H2_) | (have H2_ := (Option.bind_some _ _).symm.trans H; with_reducible exact H2_) | with_reducible exact H | (rw [hy119]; exact H) | exact H
    have Ny119 := Aside0.mk hy119
    clear hy119
    by_cases c19 : y119.length + l0_1.length < 4398046511104
    ·rw [if_pos c19] at H
     have LMc19 := Aside0.mk c19
     clear c19
     obtain ⟨y122, hy122⟩ : ∃ y_ : List (S54), y_ = (y119 ++ l0_1) := ⟨_, rfl⟩
     replace H : (spec_RunClock.l0 kj2 a1 y122 ([] : List (S56))) = some (r1, r2, r3, r4) := by first | (rw [hy122]; with_reducible exact H) | (have H2_ := (Option.bind_some _ _).symm.trans H; rw [hy122]; with_reducible exact H2_) | (have H2_ := (Option.bind_some _ _).symm.trans H; with_reducible exact H2_) | with_reducible exact H | (rw [hy122]; exact H) | exact H
     have Ny122 := Aside0.mk hy122
     clear hy122
     have H' := Aside0.mk H
     clear H
     go_wp2_with (first | ((with_reducible refine gate_dst (N := 23) rfl ?_); refine Kd.R_lit k54 _ 54 ?hg (N := 23) ?hd (xs := ([] : List (S54))) (inner := []) (ok := fun _ => True) (okp := fun _ => True) ?hr ?hp (fun _ hk => hk) trivial (Below.refl _ _) (Nat.le_refl _) (by simp) ?_; (case hd => rfl); (case hg => rfl); (case hr => first | (go_simp; done) | (go_simp; rfl)); (case hp => exact (Reps.none _ _)); intro v120 w20 ho21 hb hg_ hnew_; clear hg_ hnew_; (first | rw [← Ny119.out] at ho21 | (simp only [Int.reduceToNat] at ho21; rw [← Ny119.out] at ho21)); have n0_ := Aside0.mk (Kd.R_lower ho21 (below_size blw)); have n1_ := Aside0.mk (blk_below (g := gb115) (o := .cells #[.int .i64 a0_0, .slice A0_1 l0_1.length c0_1] 31 (0, 0)) bkw hb); have n2_ := Aside0.mk (blk_below (g := gb116) (o := .cells #[.int .i64 0, .slice none 0 0] 31 (0, 0)) bkw hb); have n3_ := Aside0.mk (below_step blw hb); clear BK115; clear BK116; clear HB; have HO121 := n0_; have BK115 := n1_; have BK116 := n2_; have HB := n3_; clear n0_ n1_ n2_ n3_; clear hb ho21; have hnb22 := NB115_116.out; have hnc22 := NB116_115.out; have hcz23_0 : w20.cell? ⟨gb115, 0, none⟩ = some (.int .i64 a0_0) := (blk_cell BK115.out 0).trans rfl; have hcz23_1 : w20.cell? ⟨gb115, 1, none⟩ = some (.slice A0_1 l0_1.length c0_1) := (blk_cell BK115.out 1).trans rfl; have hfz23_0 := blk_frozen BK115.out 0; have hfz23_1 := blk_frozen BK115.out 1) | ((with_reducible refine gate_builtin (b := .append) (xs := #[.tmp 23, .tmp 25]) rfl ?_); at_builtin; refine Kd.R_append_rows k54 (w0 := w) w.heap.size rfl (.tmp 23) (.tmp 25) 29 54 (.agg #[(.int .i64 0), (.int .i64 0), (.int .i64 0), (.int .i64 0)]) 32 rfl Try.underlying29 info54 rfl (by decide) (by omega) v120 y119 l0_1 _ _ _ (fun _ => True) (fun _ => False) rfl rfl ?aO ?aR (fun _ _ h => h) (fun _ h => h.elim) ?aF ?aB ?aS ?aL ?_; (case aR => repeat (first | exact (Kd.C_below HR0_1.out HB.out) | (with_reducible refine Kd.C_alloc ?_ _) | (with_reducible refine Kd.C_drewN ?_ _) | (with_reducible refine Kd.C_drew ?_))); (case aB => exact blw); (case aF => exact (fun _ _ => trivial)); (case aO => exact (by (with_reducible repeat (first | apply Kd.R_alloc | apply Kd.R_drewN | apply Kd.R_drew)); exact HO121.out)); (case aS => exact (below_size blw)); (case aL => have := LMc19.out; omega); intro v123 w24 ho hb hg hat; rw [← Ny122.out] at ho; have n0_ := Aside0.mk (blk_grown (g := gb115) (o := .cells #[.int .i64 a0_0, .slice A0_1 l0_1.length c0_1] 31 (0, 0)) bkw hg (Kd.R_ne HO121.out BK115.out (by decide))); have n1_ := Aside0.mk (blk_grown (g := gb116) (o := .cells #[.int .i64 0, .slice none 0 0] 31 (0, 0)) bkw hg (Kd.R_ne HO121.out BK116.out (by decide))); have n2_ := Aside0.mk (hb); have n3_ := Aside0.mk (ho); clear BK115; clear BK116; clear HB; clear HO121; have BK115 := n0_; have BK116 := n1_; have HB := n2_; have HO124 := n3_; clear n0_ n1_ n2_ n3_; clear ho hb hg hat))
     go_loopg [7, 8] kj2 (fun kq v7 v8 w' => ∃ (x7_2 : List (S54)) (x8_2 : List (S56)) (x117000_2 : Int), Aside0 (spec_RunClock.l0 kq a1 x7_2 x8_2 = some (r1, r2, r3, r4)) ∧ Aside0 (kq ≤ kj2) ∧ Aside0 (Kd.R k54 54 w' w.heap.size (fun _ => True) v7 x7_2) ∧ Aside0 (Kd.R k56 56 w' w.heap.size (fun _ => True) v8 x8_2) ∧ Aside0 (w'.heap[gb115]? = some (.cells #[.int .i64 a0_0, (.slice A0_1 l0_1.length c0_1)] 31 (0, 0))) ∧ Aside0 (w'.heap[gb116]? = some (.cells #[.int .i64 x117000_2, (.slice none 0 0)] 31 (0, 0))) ∧ Aside0 (Below w.heap.size w w'))
     case atStart => exact ⟨(y122), (([] : List (S56))), (0), H', ⟨Nat.le_refl _⟩, ⟨by (with_reducible repeat (first | apply Kd.R_alloc | apply Kd.R_drewN | apply Kd.R_drew)); exact HO124.out⟩, ⟨by first | exact Kd.R_nil _ _ _ _ _ | exact Kd.N_nil _ _ _ _ _ | exact Kd.V_nil _ _ _ _ _ | exact Kd.Q_nil _ _ _ _ _ | exact Kd.S_nil _ _ _ _ _⟩, ⟨by (with_reducible repeat (first | refine blk_drewN ?_ _ | refine blk_drew ?_ | refine blk_alloc ?_ _)); exact BK115.out⟩, ⟨by (with_reducible repeat (first | refine blk_drewN ?_ _ | refine blk_drew ?_ | refine blk_alloc ?_ _)); exact BK116.out⟩, ⟨blw⟩⟩
     case round =>
      clear H'
      try clear c1
      try clear c2
      try clear p2
      try clear c7
      try clear c8
      try clear c9
      try clear c13
      try clear c16
      try clear c17
      try clear c19
      try clear c22
      try clear hcz10_0
      try clear hcz10_1
      try clear hcz12_0
      try clear hcz12_1
      try clear hcz14_0
      try clear hcz14_1
      try clear hcz18_0
      try clear hcz18_1
      try clear hcz23_0
      try clear hcz23_1
      try clear hfz10_0
      try clear hfz10_1
      try clear hfz12_0
      try clear hfz12_1
      try clear hfz14_0
      try clear hfz14_1
      try clear hfz18_0
      try clear hfz18_1
      try clear hfz23_0
      try clear hfz23_1
      try clear p2
      obtain ⟨x7_2, x8_2, x117000_2, HA, HK2, HO_7, HO_8, BK115, BK116, HB⟩ := hrel
      cases gk with
      | zero => exact absurd HA.out (by simp [spec_RunClock.l0])
      | succ k2 =>
       have H := HA.out
       clear HA
       simp only [spec_RunClock.l0] at H
       have H' := Aside0.mk H
       clear H
       obtain ⟨Ao25, co25, eo25⟩ := Kd.R_slice HO_7.out
       subst eo25
       go_wp2
       go_loopg [9, 29] k2 (fun kq v9 v29 w' => ∃ (x9_3 : Int) (x29_3 : Int), v9 = .int .i64 x9_3 ∧ v29 = .int .i64 x29_3 ∧ Aside0 (spec_RunClock.l1 kq a1 x7_2 x8_2 x9_3 x7_2 (x7_2.length : Int) x29_3 = some (r1, r2, r3, r4)) ∧ Aside0 (kq ≤ k2) ∧ Aside0 (Kd.R k54 54 w' w.heap.size (fun _ => True) (.slice Ao25 x7_2.length co25) x7_2) ∧ Aside0 (Kd.R k56 56 w' w.heap.size (fun _ => True) u8 x8_2) ∧ Aside0 (Kd.R k54 54 w' w.heap.size (fun _ => True) (.slice Ao25 x7_2.length co25) x7_2) ∧ Aside0 (w'.heap[gb115]? = some (.cells #[.int .i64 a0_0, (.slice A0_1 l0_1.length c0_1)] 31 (0, 0))) ∧ Aside0 (w'.heap[gb116]? = some (.cells #[.int .i64 x117000_2, (.slice none 0 0)] 31 (0, 0))) ∧ Aside0 (Below w.heap.size w w'))
       case atStart => exact ⟨((-1)), (0), (by first | rfl | (simp; done) | (simp [*]; done)), (by first | rfl | (simp; done) | (simp [*]; done)), H', ⟨Nat.le_refl _⟩, ⟨by (with_reducible repeat (first | apply Kd.R_alloc | apply Kd.R_drewN | apply Kd.R_drew)); exact HO_7.out⟩, ⟨by (with_reducible repeat (first | apply Kd.R_alloc | apply Kd.R_drewN | apply Kd.R_drew)); exact HO_8.out⟩, ⟨by (with_reducible repeat (first | apply Kd.R_alloc | apply Kd.R_drewN | apply Kd.R_drew)); exact HO_7.out⟩, ⟨by (with_reducible repeat (first | refine blk_drewN ?_ _ | refine blk_drew ?_ | refine blk_alloc ?_ _)); exact BK115.out⟩, ⟨by (with_reducible repeat (first | refine blk_drewN ?_ _ | refine blk_drew ?_ | refine blk_alloc ?_ _)); exact BK116.out⟩, ⟨blw⟩⟩
       case round =>
        clear H'
        try clear c1
        try clear c2
        try clear p2
        try clear c7
        try clear c8
        try clear c9
        try clear c13
        try clear c16
        try clear c17
        try clear c19
        try clear c22
        try clear hcz10_0
        try clear hcz10_1
        try clear hcz12_0
        try clear hcz12_1
        try clear hcz14_0
        try clear hcz14_1
        try clear hcz18_0
        try clear hcz18_1
        try clear hcz23_0
        try clear hcz23_1
        try clear hfz10_0
        try clear hfz10_1
        try clear hfz12_0
        try clear hfz12_1
        try clear hfz14_0
        try clear hfz14_1
        try clear hfz18_0
        try clear hfz18_1
        try clear hfz23_0
        try clear hfz23_1
        try clear p2
        obtain ⟨x9_3, x29_3, rfl, rfl, HA, HK3, HO_7, HO_8, HO_27, BK115, BK116, HB⟩ := hrel
        cases gk with
        | zero => exact absurd HA.out (by simp [spec_RunClock.l1])
        | succ k3 =>
         have H := HA.out
         clear HA
         simp only [spec_RunClock.l1] at H
         by_cases c26 : x29_3 < (x7_2.length : Int)
         ·rw [if_pos c26] at H
          have c26b0 : decide (x29_3 < (x7_2.length : Int)) = true := decide_eq_true c26
          clear c26
          by_cases c27 : 0 ≤ x29_3
          ·rw [if_pos c27] at H
           have c27b0 : decide (0 ≤ x29_3) = true := decide_eq_true c27
           clear c27
           by_cases c28 : x29_3 < (x7_2.length : Int)
           ·rw [if_pos c28] at H
            have c28b0 : decide (x29_3 < (x7_2.length : Int)) = true := decide_eq_true c28
            clear c28
            by_cases c29 : ((rd_T54 x7_2 x29_3).f1) ≤ a1
            ·rw [if_pos c29] at H
             have c29b0 : decide (((rd_T54 x7_2 x29_3).f1) ≤ a1) = true := decide_eq_true c29
             clear c29
             by_cases c30 : x9_3 < 0
             ·rw [if_pos c30] at H
              have c30b0 : decide (x9_3 < 0) = true := decide_eq_true c30
              clear c30
              have H' := Aside0.mk H
              clear H
              have p125 : 0 ≤ (x29_3 : Int) := odt
              have q125 : x29_3 < (x7_2.length : Int) := odt
              obtain ⟨ad125, e125, hx125_0, hx125_1, hx125_2, hx125_3⟩ := at_T54 (Kd.R_reads' HO_27.out).2.2 x29_3 p125 q125
              cases e125
              replace p125 := eq_true p125
              replace q125 := eq_true q125
              try go_wp2_with (first | ((with_reducible refine gate_dst (N := 11) rfl ?_); refine box_event ?hg (N := 11) ?hd (cs := #[.int .i64 0, .int .i64 0, .int .i64 0, .int .i64 0]) (t := 54) ?hr ?_; (case hd => rfl); (case hg => rfl); (case hr => first | (go_simp; done) | (go_simp; rfl)); intro gb126 hg w31 hbox hb; have n0_ := Aside0.mk (Kd.R_below (Kd.R_elderB (by (with_reducible repeat (first | apply Kd.R_alloc | apply Kd.R_drewN | apply Kd.R_drew)); exact HO_7.out) gb126 (Nat.le_of_eq hg.symm)) hb); have n1_ := Aside0.mk (Kd.R_below (by (with_reducible repeat (first | apply Kd.R_alloc | apply Kd.R_drewN | apply Kd.R_drew)); exact HO_8.out) hb); have n2_ := Aside0.mk (Kd.R_below (Kd.R_elderB (by (with_reducible repeat (first | apply Kd.R_alloc | apply Kd.R_drewN | apply Kd.R_drew)); exact HO_27.out) gb126 (Nat.le_of_eq hg.symm)) hb); have n3_ := Aside0.mk (blk_below (g := gb115) (o := .cells #[.int .i64 a0_0, .slice A0_1 l0_1.length c0_1] 31 (0, 0)) bkw hb); have n4_ := Aside0.mk (blk_below (g := gb116) (o := .cells #[.int .i64 x117000_2, .slice none 0 0] 31 (0, 0)) bkw hb); have n5_ := Aside0.mk (below_step blw hb); have n6_ := Aside0.mk (hbox); have n7_ := Aside0.mk ((by rw [hg]; exact (below_size blw) : w.heap.size ≤ gb126)); have n8_ := Aside0.mk ((by rw [hg]; exact (below_size blw) : w.heap.size ≤ gb126)); have n9_ := Aside0.mk ((by rw [hg]; exact Nat.ne_of_lt (blk_lt (g := gb115) (o := .cells #[.int .i64 a0_0, .slice A0_1 l0_1.length c0_1] 31 (0, 0)) bkw) : gb115 ≠ gb126)); have n10_ := Aside0.mk ((by rw [hg]; exact Nat.ne_of_gt (blk_lt (g := gb115) (o := .cells #[.int .i64 a0_0, .slice A0_1 l0_1.length c0_1] 31 (0, 0)) bkw) : gb126 ≠ gb115)); have n11_ := Aside0.mk ((by rw [hg]; exact Nat.ne_of_lt (blk_lt (g := gb116) (o := .cells #[.int .i64 x117000_2, .slice none 0 0] 31 (0, 0)) bkw) : gb116 ≠ gb126)); have n12_ := Aside0.mk ((by rw [hg]; exact Nat.ne_of_gt (blk_lt (g := gb116) (o := .cells #[.int .i64 x117000_2, .slice none 0 0] 31 (0, 0)) bkw) : gb126 ≠ gb116)); clear HO_7; clear HO_8; clear HO_27; clear BK115; clear BK116; clear HB; have HO_7 := n0_; have HO_8 := n1_; have HO_27 := n2_; have BK115 := n3_; have BK116 := n4_; have HB := n5_; have BK126 := n6_; have GW126 := n7_; have GE126 := n8_; have NB115_126 := n9_; have NB126_115 := n10_; have NB116_126 := n11_; have NB126_116 := n12_; clear n0_ n1_ n2_ n3_ n4_ n5_ n6_ n7_ n8_ n9_ n10_ n11_ n12_; clear hb hbox hg; have hnb32 := NB126_115.out; have hnc32 := NB115_126.out; have hnb33 := NB126_116.out; have hnc33 := NB116_126.out; have hcz34_0 : w31.cell? ⟨gb126, 0, none⟩ = some (.int .i64 0) := (blk_cell BK126.out 0).trans rfl; have hcz34_1 : w31.cell? ⟨gb126, 1, none⟩ = some (.int .i64 0) := (blk_cell BK126.out 1).trans rfl; have hcz34_2 : w31.cell? ⟨gb126, 2, none⟩ = some (.int .i64 0) := (blk_cell BK126.out 2).trans rfl; have hcz34_3 : w31.cell? ⟨gb126, 3, none⟩ = some (.int .i64 0) := (blk_cell BK126.out 3).trans rfl; have hfz34_0 := blk_frozen BK126.out 0; have hfz34_1 := blk_frozen BK126.out 1; have hfz34_2 := blk_frozen BK126.out 2; have hfz34_3 := blk_frozen BK126.out 3))
              have n0_ : Aside0 (Kd.R k54 54 ((((w31.setCell ⟨gb126, 0, none⟩ (.int .i64 ((rd_T54 x7_2 x29_3).f0))).setCell ⟨gb126, 1, none⟩ (.int .i64 ((rd_T54 x7_2 x29_3).f1))).setCell ⟨gb126, 2, none⟩ (.int .i64 ((rd_T54 x7_2 x29_3).f2))).setCell ⟨gb126, 3, none⟩ (.int .i64 ((rd_T54 x7_2 x29_3).f3))) w.heap.size (fun k_ => k_ ≠ gb126) (.slice (some ad125) x7_2.length co25) x7_2) := ⟨by (with_reducible repeat (first | apply Kd.R_alloc | apply Kd.R_drewN | apply Kd.R_drew)); exact Kd.R_mono (Kd.R_far (p := ⟨gb126, 3, none⟩) (Kd.R_far (p := ⟨gb126, 2, none⟩) (Kd.R_far (p := ⟨gb126, 1, none⟩) (Kd.R_far (p := ⟨gb126, 0, none⟩) (Kd.R_mono HO_7.out (fun k_ hk => (⟨hk, hk.2⟩ : _ ∧ k_ ≠ gb126))) (fun _ hk => hk.2) (.int .i64 ((rd_T54 x7_2 x29_3).f0))) (fun _ hk => hk.2) (.int .i64 ((rd_T54 x7_2 x29_3).f1))) (fun _ hk => hk.2) (.int .i64 ((rd_T54 x7_2 x29_3).f2))) (fun _ hk => hk.2) (.int .i64 ((rd_T54 x7_2 x29_3).f3))) (fun _ hk => hk.1.2)⟩
              have n1_ : Aside0 (Kd.R k56 56 ((((w31.setCell ⟨gb126, 0, none⟩ (.int .i64 ((rd_T54 x7_2 x29_3).f0))).setCell ⟨gb126, 1, none⟩ (.int .i64 ((rd_T54 x7_2 x29_3).f1))).setCell ⟨gb126, 2, none⟩ (.int .i64 ((rd_T54 x7_2 x29_3).f2))).setCell ⟨gb126, 3, none⟩ (.int .i64 ((rd_T54 x7_2 x29_3).f3))) w.heap.size (fun _ => True) u8 x8_2) := ⟨by (with_reducible repeat (first | apply Kd.R_alloc | apply Kd.R_drewN | apply Kd.R_drew)); exact Kd.R_mono (Kd.R_far (p := ⟨gb126, 3, none⟩) (Kd.R_far (p := ⟨gb126, 2, none⟩) (Kd.R_far (p := ⟨gb126, 1, none⟩) (Kd.R_far (p := ⟨gb126, 0, none⟩) (Kd.R_types HO_8.out BK126.out (by decide)) (fun _ hk => hk.2) (.int .i64 ((rd_T54 x7_2 x29_3).f0))) (fun _ hk => hk.2) (.int .i64 ((rd_T54 x7_2 x29_3).f1))) (fun _ hk => hk.2) (.int .i64 ((rd_T54 x7_2 x29_3).f2))) (fun _ hk => hk.2) (.int .i64 ((rd_T54 x7_2 x29_3).f3))) (fun _ hk => trivial)⟩
              have n2_ : Aside0 (Kd.R k54 54 ((((w31.setCell ⟨gb126, 0, none⟩ (.int .i64 ((rd_T54 x7_2 x29_3).f0))).setCell ⟨gb126, 1, none⟩ (.int .i64 ((rd_T54 x7_2 x29_3).f1))).setCell ⟨gb126, 2, none⟩ (.int .i64 ((rd_T54 x7_2 x29_3).f2))).setCell ⟨gb126, 3, none⟩ (.int .i64 ((rd_T54 x7_2 x29_3).f3))) w.heap.size (fun k_ => k_ ≠ gb126) (.slice (some ad125) x7_2.length co25) x7_2) := ⟨by (with_reducible repeat (first | apply Kd.R_alloc | apply Kd.R_drewN | apply Kd.R_drew)); exact Kd.R_mono (Kd.R_far (p := ⟨gb126, 3, none⟩) (Kd.R_far (p := ⟨gb126, 2, none⟩) (Kd.R_far (p := ⟨gb126, 1, none⟩) (Kd.R_far (p := ⟨gb126, 0, none⟩) (Kd.R_mono HO_27.out (fun k_ hk => (⟨hk, hk.2⟩ : _ ∧ k_ ≠ gb126))) (fun _ hk => hk.2) (.int .i64 ((rd_T54 x7_2 x29_3).f0))) (fun _ hk => hk.2) (.int .i64 ((rd_T54 x7_2 x29_3).f1))) (fun _ hk => hk.2) (.int .i64 ((rd_T54 x7_2 x29_3).f2))) (fun _ hk => hk.2) (.int .i64 ((rd_T54 x7_2 x29_3).f3))) (fun _ hk => hk.1.2)⟩
              have n3_ : Aside0 (((((w31.setCell ⟨gb126, 0, none⟩ (.int .i64 ((rd_T54 x7_2 x29_3).f0))).setCell ⟨gb126, 1, none⟩ (.int .i64 ((rd_T54 x7_2 x29_3).f1))).setCell ⟨gb126, 2, none⟩ (.int .i64 ((rd_T54 x7_2 x29_3).f2))).setCell ⟨gb126, 3, none⟩ (.int .i64 ((rd_T54 x7_2 x29_3).f3))).heap[gb115]? = some (.cells #[.int .i64 a0_0, .slice A0_1 l0_1.length c0_1] 31 (0, 0))) := ⟨by (with_reducible repeat (first | refine blk_drewN ?_ _ | refine blk_drew ?_ | refine blk_alloc ?_ _)); refine blk_far ?_ NB115_126.out _; (with_reducible repeat (first | refine blk_drewN ?_ _ | refine blk_drew ?_ | refine blk_alloc ?_ _)); refine blk_far ?_ NB115_126.out _; (with_reducible repeat (first | refine blk_drewN ?_ _ | refine blk_drew ?_ | refine blk_alloc ?_ _)); refine blk_far ?_ NB115_126.out _; (with_reducible repeat (first | refine blk_drewN ?_ _ | refine blk_drew ?_ | refine blk_alloc ?_ _)); refine blk_far ?_ NB115_126.out _; (with_reducible repeat (first | refine blk_drewN ?_ _ | refine blk_drew ?_ | refine blk_alloc ?_ _)); exact BK115.out⟩
              have n4_ : Aside0 (((((w31.setCell ⟨gb126, 0, none⟩ (.int .i64 ((rd_T54 x7_2 x29_3).f0))).setCell ⟨gb126, 1, none⟩ (.int .i64 ((rd_T54 x7_2 x29_3).f1))).setCell ⟨gb126, 2, none⟩ (.int .i64 ((rd_T54 x7_2 x29_3).f2))).setCell ⟨gb126, 3, none⟩ (.int .i64 ((rd_T54 x7_2 x29_3).f3))).heap[gb116]? = some (.cells #[.int .i64 x117000_2, .slice none 0 0] 31 (0, 0))) := ⟨by (with_reducible repeat (first | refine blk_drewN ?_ _ | refine blk_drew ?_ | refine blk_alloc ?_ _)); refine blk_far ?_ NB116_126.out _; (with_reducible repeat (first | refine blk_drewN ?_ _ | refine blk_drew ?_ | refine blk_alloc ?_ _)); refine blk_far ?_ NB116_126.out _; (with_reducible repeat (first | refine blk_drewN ?_ _ | refine blk_drew ?_ | refine blk_alloc ?_ _)); refine blk_far ?_ NB116_126.out _; (with_reducible repeat (first | refine blk_drewN ?_ _ | refine blk_drew ?_ | refine blk_alloc ?_ _)); refine blk_far ?_ NB116_126.out _; (with_reducible repeat (first | refine blk_drewN ?_ _ | refine blk_drew ?_ | refine blk_alloc ?_ _)); exact BK116.out⟩
              have n5_ : Aside0 (((((w31.setCell ⟨gb126, 0, none⟩ (.int .i64 ((rd_T54 x7_2 x29_3).f0))).setCell ⟨gb126, 1, none⟩ (.int .i64 ((rd_T54 x7_2 x29_3).f1))).setCell ⟨gb126, 2, none⟩ (.int .i64 ((rd_T54 x7_2 x29_3).f2))).setCell ⟨gb126, 3, none⟩ (.int .i64 ((rd_T54 x7_2 x29_3).f3))).heap[gb126]? = some (.cells #[.int .i64 ((rd_T54 x7_2 x29_3).f0), .int .i64 ((rd_T54 x7_2 x29_3).f1), .int .i64 ((rd_T54 x7_2 x29_3).f2), .int .i64 ((rd_T54 x7_2 x29_3).f3)] 54 (0, 0))) := ⟨by (with_reducible repeat (first | refine blk_drewN ?_ _ | refine blk_drew ?_ | refine blk_alloc ?_ _)); refine blk_put (cs := #[.int .i64 ((rd_T54 x7_2 x29_3).f0), .int .i64 ((rd_T54 x7_2 x29_3).f1), .int .i64 ((rd_T54 x7_2 x29_3).f2), .int .i64 0]) ?_ 3 _ rfl; (with_reducible repeat (first | refine blk_drewN ?_ _ | refine blk_drew ?_ | refine blk_alloc ?_ _)); refine blk_put (cs := #[.int .i64 ((rd_T54 x7_2 x29_3).f0), .int .i64 ((rd_T54 x7_2 x29_3).f1), .int .i64 0, .int .i64 0]) ?_ 2 _ rfl; (with_reducible repeat (first | refine blk_drewN ?_ _ | refine blk_drew ?_ | refine blk_alloc ?_ _)); refine blk_put (cs := #[.int .i64 ((rd_T54 x7_2 x29_3).f0), .int .i64 0, .int .i64 0, .int .i64 0]) ?_ 1 _ rfl; (with_reducible repeat (first | refine blk_drewN ?_ _ | refine blk_drew ?_ | refine blk_alloc ?_ _)); refine blk_put (cs := #[.int .i64 0, .int .i64 0, .int .i64 0, .int .i64 0]) ?_ 0 _ rfl; (with_reducible repeat (first | refine blk_drewN ?_ _ | refine blk_drew ?_ | refine blk_alloc ?_ _)); exact BK126.out⟩
              have n6_ : Aside0 (Below w.heap.size w ((((w31.setCell ⟨gb126, 0, none⟩ (.int .i64 ((rd_T54 x7_2 x29_3).f0))).setCell ⟨gb126, 1, none⟩ (.int .i64 ((rd_T54 x7_2 x29_3).f1))).setCell ⟨gb126, 2, none⟩ (.int .i64 ((rd_T54 x7_2 x29_3).f2))).setCell ⟨gb126, 3, none⟩ (.int .i64 ((rd_T54 x7_2 x29_3).f3)))) := ⟨blw⟩
              (try clear HO_7)
              (try clear HO_8)
              (try clear HO_27)
              (try clear BK115)
              (try clear BK116)
              (try clear BK126)
              (try clear HB)
              generalize ((((w31.setCell ⟨gb126, 0, none⟩ (.int .i64 ((rd_T54 x7_2 x29_3).f0))).setCell ⟨gb126, 1, none⟩ (.int .i64 ((rd_T54 x7_2 x29_3).f1))).setCell ⟨gb126, 2, none⟩ (.int .i64 ((rd_T54 x7_2 x29_3).f2))).setCell ⟨gb126, 3, none⟩ (.int .i64 ((rd_T54 x7_2 x29_3).f3))) = w35 at n0_ n1_ n2_ n3_ n4_ n5_ n6_ ⊢
              have HO_7 := n0_
              have HO_8 := n1_
              have HO_27 := n2_
              have BK115 := n3_
              have BK116 := n4_
              have BK126 := n5_
              have HB := n6_
              clear n0_ n1_ n2_ n3_ n4_ n5_ n6_
              have n0_ := Aside0.mk (Kd.R_drew HO_7.out)
              have n1_ := Aside0.mk (Kd.R_drew HO_8.out)
              have n2_ := Aside0.mk (Kd.R_drew HO_27.out)
              have n3_ := Aside0.mk (blk_drew BK115.out)
              have n4_ := Aside0.mk (blk_drew BK116.out)
              have n5_ := Aside0.mk (blk_drew BK126.out)
              have n6_ := Aside0.mk (below_drew1 HB.out)
              clear HO_7
              clear HO_8
              clear HO_27
              clear BK115
              clear BK116
              clear BK126
              clear HB
              have HO_7 := n0_
              have HO_8 := n1_
              have HO_27 := n2_
              have BK115 := n3_
              have BK116 := n4_
              have BK126 := n5_
              have HB := n6_
              clear n0_ n1_ n2_ n3_ n4_ n5_ n6_
              refine start_ (n := 18) (S := fun w' => w'.cell? ⟨gb126, 0, none⟩ = some (.int .i64 ((rd_T54 x7_2 x29_3).f0)) ∧ w'.cell? ⟨gb126, 1, none⟩ = some (.int .i64 ((rd_T54 x7_2 x29_3).f1)) ∧ w'.cell? ⟨gb126, 2, none⟩ = some (.int .i64 ((rd_T54 x7_2 x29_3).f2)) ∧ w'.cell? ⟨gb126, 3, none⟩ = some (.int .i64 ((rd_T54 x7_2 x29_3).f3))) (ds := []) #[false, false, false, false, false, false, false, false, false, false, false, false, false, false, false, false, false, false] (by kernel_rfl) rfl rfl ⟨(blk_cell BK126.out 0).trans rfl, (blk_cell BK126.out 1).trans rfl, (blk_cell BK126.out 2).trans rfl, (blk_cell BK126.out 3).trans rfl⟩ (fun hHeld => ?_); refine with_tabW spec_RunClock.tab9 spec_RunClock.bits9 (fun HT_ HW_ => ?_)
              generalize w35.drew = w36 at HO_7 HO_8 HO_27 BK115 BK116 BK126 HB hHeld ⊢
              refine pure_ (i := 0) (N := some 34) (v := ?_) (a' := ?_) #[true, false, false, false, false, false, false, false, false, false, false, false, false, false, false, false, false, false] rfl rfl (any_of HT_.out (by kernel_rfl)) (fun _ _ _ h => h) (Or.inl ⟨by rfl, ?_⟩) ?_ ?_
              rotate_left; (· (intro w'; go_simp; with_reducible rfl)); rotate_left; (· (simp only [Act.put, sp1, sp2, sp3, i64_w, i32_w]; rfl))
              refine pure_ (i := 2) (N := some 36) (v := ?_) (a' := ?_) #[true, false, true, false, false, false, false, false, false, false, false, false, false, false, false, false, false, false] rfl rfl (any_of HT_.out (by kernel_rfl)) (fun _ _ _ h => h) (Or.inl ⟨by rfl, ?_⟩) ?_ ?_
              rotate_left; (· (intro w'; go_simp; with_reducible rfl)); rotate_left; (· (simp only [Act.put, sp1, sp2, sp3, i64_w, i32_w]; rfl))
              refine take_ (i := 1) (N := some 35) (v := ?_) (a' := ?_) #[true, true, true, false, false, false, false, false, false, false, false, false, false, false, false, false, false, false] rfl rfl (take_ofW HT_.out HW_.out (by kernel_rfl)) (fun _ _ _ h => h) (Or.inl ⟨by rfl, ?_⟩) hHeld ?_ ?_
              rotate_left; (· (rintro w' ⟨s0, s1, s2, s3⟩; go_simp; with_reducible rfl)); rotate_left; (· (simp only [Act.put, sp1, sp2, sp3, i64_w, i32_w]; rfl))
              refine pure_ (i := 3) (N := some 37) (v := ?_) (a' := ?_) #[true, true, true, true, false, false, false, false, false, false, false, false, false, false, false, false, false, false] rfl rfl (any_of HT_.out (by kernel_rfl)) (fun _ _ _ h => h) (Or.inl ⟨by rfl, ?_⟩) ?_ ?_
              rotate_left; (· (intro w'; go_simp; with_reducible rfl)); rotate_left; (· (simp only [Act.put, sp1, sp2, sp3, i64_w, i32_w]; rfl))
              refine pure_ (i := 4) (N := some 38) (v := ?_) (a' := ?_) #[true, true, true, true, true, false, false, false, false, false, false, false, false, false, false, false, false, false] rfl rfl (any_of HT_.out (by kernel_rfl)) (fun _ _ _ h => h) (Or.inl ⟨by rfl, ?_⟩) ?_ ?_
              rotate_left; (· (intro w'; go_simp; with_reducible rfl)); rotate_left; (· (simp only [Act.put, sp1, sp2, sp3, i64_w, i32_w]; rfl))
              refine pure_ (i := 5) (N := some 39) (v := ?_) (a' := ?_) #[true, true, true, true, true, true, false, false, false, false, false, false, false, false, false, false, false, false] rfl rfl (any_of HT_.out (by kernel_rfl)) (fun _ _ _ h => h) (Or.inl ⟨by rfl, ?_⟩) ?_ ?_
              rotate_left; (· (intro w'; go_simp; with_reducible rfl)); rotate_left; (· (simp only [Act.put, sp1, sp2, sp3, i64_w, i32_w]; rfl))
              refine pure_ (i := 6) (N := some 40) (v := ?_) (a' := ?_) #[true, true, true, true, true, true, true, false, false, false, false, false, false, false, false, false, false, false] rfl rfl (any_of HT_.out (by kernel_rfl)) (fun _ _ _ h => h) (Or.inl ⟨by rfl, ?_⟩) ?_ ?_
              rotate_left; (· (intro w'; go_simp; with_reducible rfl)); rotate_left; (· (simp only [Act.put, sp1, sp2, sp3, i64_w, i32_w]; rfl))
              refine pure_ (i := 7) (N := some 41) (v := ?_) (a' := ?_) #[true, true, true, true, true, true, true, true, false, false, false, false, false, false, false, false, false, false] rfl rfl (any_of HT_.out (by kernel_rfl)) (fun _ _ _ h => h) (Or.inl ⟨by rfl, ?_⟩) ?_ ?_
              rotate_left; (· (intro w'; go_simp; with_reducible rfl)); rotate_left; (· (simp only [Act.put, sp1, sp2, sp3, i64_w, i32_w]; rfl))
              refine pure_ (i := 8) (N := some 42) (v := undef) (a' := ?_) #[true, true, true, true, true, true, true, true, true, false, false, false, false, false, false, false, false, false] rfl rfl (any_of HT_.out (by kernel_rfl)) (fun _ _ _ h => h) (Or.inr ⟨by rfl, rfl⟩) ?_ ?_
              rotate_left
              ·simp only [Act.put, sp1, sp2, sp3, i64_w, i32_w]
               rfl
              refine pure_ (i := 9) (N := some 43) (v := undef) (a' := ?_) #[true, true, true, true, true, true, true, true, true, true, false, false, false, false, false, false, false, false] rfl rfl (any_of HT_.out (by kernel_rfl)) (fun _ _ _ h => h) (Or.inr ⟨by rfl, rfl⟩) ?_ ?_
              rotate_left
              ·simp only [Act.put, sp1, sp2, sp3, i64_w, i32_w]
               rfl
              refine pure_ (i := 10) (N := some 44) (v := undef) (a' := ?_) #[true, true, true, true, true, true, true, true, true, true, true, false, false, false, false, false, false, false] rfl rfl (any_of HT_.out (by kernel_rfl)) (fun _ _ _ h => h) (Or.inr ⟨by rfl, rfl⟩) ?_ ?_
              rotate_left
              ·simp only [Act.put, sp1, sp2, sp3, i64_w, i32_w]
               rfl
              refine pure_ (i := 11) (N := some 45) (v := undef) (a' := ?_) #[true, true, true, true, true, true, true, true, true, true, true, true, false, false, false, false, false, false] rfl rfl (any_of HT_.out (by kernel_rfl)) (fun _ _ _ h => h) (Or.inr ⟨by rfl, rfl⟩) ?_ ?_
              rotate_left
              ·simp only [Act.put, sp1, sp2, sp3, i64_w, i32_w]
               rfl
              refine pure_ (i := 12) (N := some 46) (v := undef) (a' := ?_) #[true, true, true, true, true, true, true, true, true, true, true, true, true, false, false, false, false, false] rfl rfl (any_of HT_.out (by kernel_rfl)) (fun _ _ _ h => h) (Or.inr ⟨by rfl, rfl⟩) ?_ ?_
              rotate_left
              ·simp only [Act.put, sp1, sp2, sp3, i64_w, i32_w]
               rfl
              refine pure_ (i := 13) (N := some 47) (v := undef) (a' := ?_) #[true, true, true, true, true, true, true, true, true, true, true, true, true, true, false, false, false, false] rfl rfl (any_of HT_.out (by kernel_rfl)) (fun _ _ _ h => h) (Or.inr ⟨by rfl, rfl⟩) ?_ ?_
              rotate_left
              ·simp only [Act.put, sp1, sp2, sp3, i64_w, i32_w]
               rfl
              refine pure_ (i := 14) (N := some 48) (v := undef) (a' := ?_) #[true, true, true, true, true, true, true, true, true, true, true, true, true, true, true, false, false, false] rfl rfl (any_of HT_.out (by kernel_rfl)) (fun _ _ _ h => h) (Or.inr ⟨by rfl, rfl⟩) ?_ ?_
              rotate_left
              ·simp only [Act.put, sp1, sp2, sp3, i64_w, i32_w]
               rfl
              refine pure_ (i := 15) (N := some 49) (v := undef) (a' := ?_) #[true, true, true, true, true, true, true, true, true, true, true, true, true, true, true, true, false, false] rfl rfl (any_of HT_.out (by kernel_rfl)) (fun _ _ _ h => h) (Or.inr ⟨by rfl, rfl⟩) ?_ ?_
              rotate_left
              ·simp only [Act.put, sp1, sp2, sp3, i64_w, i32_w]
               rfl
              refine pure_ (i := 16) (N := some 50) (v := ?_) (a' := ?_) #[true, true, true, true, true, true, true, true, true, true, true, true, true, true, true, true, true, false] rfl rfl (any_of HT_.out (by kernel_rfl)) (fun _ _ _ h => h) (Or.inl ⟨by rfl, ?_⟩) ?_ ?_
              rotate_left; (· (intro w'; go_simp; with_reducible rfl)); rotate_left; (· (simp only [Act.put, sp1, sp2, sp3, i64_w, i32_w]; rfl))
              refine pure_ (i := 17) (N := some 51) (v := ?_) (a' := ?_) #[true, true, true, true, true, true, true, true, true, true, true, true, true, true, true, true, true, true] rfl rfl (any_of HT_.out (by kernel_rfl)) (fun _ _ _ h => h) (Or.inl ⟨by rfl, ?_⟩) ?_ ?_
              rotate_left; (· (intro w'; go_simp; with_reducible rfl)); rotate_left; (· (simp only [Act.put, sp1, sp2, sp3, i64_w, i32_w]; rfl))
              refine done_ (done_of HT_.out (by kernel_rfl)) ?_
              try go_wp2
              go_roundg k3
              case measure => have := HJ2.out; have := HK2.out; have := HK3.out; omega
              case rel => exact ⟨(x29_3), (wrap64 (x29_3 + 1)), (by first | rfl | (simp; done) | (simp [*]; done)), (by first | rfl | (simp; done) | (simp [*]; done)), H', ⟨by have := HJ2.out; have := HK2.out; have := HK3.out; omega⟩, ⟨by (with_reducible repeat (first | apply Kd.R_alloc | apply Kd.R_drewN | apply Kd.R_drew)); exact Kd.R_mono HO_7.out (fun _ hk => trivial)⟩, ⟨by (with_reducible repeat (first | apply Kd.R_alloc | apply Kd.R_drewN | apply Kd.R_drew)); exact HO_8.out⟩, ⟨by (with_reducible repeat (first | apply Kd.R_alloc | apply Kd.R_drewN | apply Kd.R_drew)); exact Kd.R_mono HO_27.out (fun _ hk => trivial)⟩, ⟨by (with_reducible repeat (first | refine blk_drewN ?_ _ | refine blk_drew ?_ | refine blk_alloc ?_ _)); exact BK115.out⟩, ⟨by (with_reducible repeat (first | refine blk_drewN ?_ _ | refine blk_drew ?_ | refine blk_alloc ?_ _)); exact BK116.out⟩, ⟨blw⟩⟩
             ·rw [if_neg c30] at H
              have c30b0 : decide (x9_3 < 0) = false := decide_eq_false c30
              clear c30
              by_cases c37 : 0 ≤ x9_3
              ·rw [if_pos c37] at H
               have c37b0 : decide (0 ≤ x9_3) = true := decide_eq_true c37
               clear c37
               by_cases c38 : x9_3 < (x7_2.length : Int)
               ·rw [if_pos c38] at H
                have c38b0 : decide (x9_3 < (x7_2.length : Int)) = true := decide_eq_true c38
                clear c38
                by_cases c39 : ((rd_T54 x7_2 x29_3).f1) < ((rd_T54 x7_2 x9_3).f1)
                ·rw [if_pos c39] at H
                 have c39b0 : decide (((rd_T54 x7_2 x29_3).f1) < ((rd_T54 x7_2 x9_3).f1)) = true := decide_eq_true c39
                 clear c39
                 have H' := Aside0.mk H
                 clear H
                 have p125 : 0 ≤ (x29_3 : Int) := odt
                 have q125 : x29_3 < (x7_2.length : Int) := odt
                 obtain ⟨ad125, e125, hx125_0, hx125_1, hx125_2, hx125_3⟩ := at_T54 (Kd.R_reads' HO_27.out).2.2 x29_3 p125 q125
                 cases e125
                 replace p125 := eq_true p125
                 replace q125 := eq_true q125
                 try go_wp2_with (first | ((with_reducible refine gate_dst (N := 11) rfl ?_); refine box_event ?hg (N := 11) ?hd (cs := #[.int .i64 0, .int .i64 0, .int .i64 0, .int .i64 0]) (t := 54) ?hr ?_; (case hd => rfl); (case hg => rfl); (case hr => first | (go_simp; done) | (go_simp; rfl)); intro gb126 hg w40 hbox hb; have n0_ := Aside0.mk (Kd.R_below (Kd.R_elderB (by (with_reducible repeat (first | apply Kd.R_alloc | apply Kd.R_drewN | apply Kd.R_drew)); exact HO_7.out) gb126 (Nat.le_of_eq hg.symm)) hb); have n1_ := Aside0.mk (Kd.R_below (by (with_reducible repeat (first | apply Kd.R_alloc | apply Kd.R_drewN | apply Kd.R_drew)); exact HO_8.out) hb); have n2_ := Aside0.mk (Kd.R_below (Kd.R_elderB (by (with_reducible repeat (first | apply Kd.R_alloc | apply Kd.R_drewN | apply Kd.R_drew)); exact HO_27.out) gb126 (Nat.le_of_eq hg.symm)) hb); have n3_ := Aside0.mk (blk_below (g := gb115) (o := .cells #[.int .i64 a0_0, .slice A0_1 l0_1.length c0_1] 31 (0, 0)) bkw hb); have n4_ := Aside0.mk (blk_below (g := gb116) (o := .cells #[.int .i64 x117000_2, .slice none 0 0] 31 (0, 0)) bkw hb); have n5_ := Aside0.mk (below_step blw hb); have n6_ := Aside0.mk (hbox); have n7_ := Aside0.mk ((by rw [hg]; exact (below_size blw) : w.heap.size ≤ gb126)); have n8_ := Aside0.mk ((by rw [hg]; exact (below_size blw) : w.heap.size ≤ gb126)); have n9_ := Aside0.mk ((by rw [hg]; exact Nat.ne_of_lt (blk_lt (g := gb115) (o := .cells #[.int .i64 a0_0, .slice A0_1 l0_1.length c0_1] 31 (0, 0)) bkw) : gb115 ≠ gb126)); have n10_ := Aside0.mk ((by rw [hg]; exact Nat.ne_of_gt (blk_lt (g := gb115) (o := .cells #[.int .i64 a0_0, .slice A0_1 l0_1.length c0_1] 31 (0, 0)) bkw) : gb126 ≠ gb115)); have n11_ := Aside0.mk ((by rw [hg]; exact Nat.ne_of_lt (blk_lt (g := gb116) (o := .cells #[.int .i64 x117000_2, .slice none 0 0] 31 (0, 0)) bkw) : gb116 ≠ gb126)); have n12_ := Aside0.mk ((by rw [hg]; exact Nat.ne_of_gt (blk_lt (g := gb116) (o := .cells #[.int .i64 x117000_2, .slice none 0 0] 31 (0, 0)) bkw) : gb126 ≠ gb116)); clear HO_7; clear HO_8; clear HO_27; clear BK115; clear BK116; clear HB; have HO_7 := n0_; have HO_8 := n1_; have HO_27 := n2_; have BK115 := n3_; have BK116 := n4_; have HB := n5_; have BK126 := n6_; have GW126 := n7_; have GE126 := n8_; have NB115_126 := n9_; have NB126_115 := n10_; have NB116_126 := n11_; have NB126_116 := n12_; clear n0_ n1_ n2_ n3_ n4_ n5_ n6_ n7_ n8_ n9_ n10_ n11_ n12_; clear hb hbox hg; have hnb41 := NB126_115.out; have hnc41 := NB115_126.out; have hnb42 := NB126_116.out; have hnc42 := NB116_126.out; have hcz43_0 : w40.cell? ⟨gb126, 0, none⟩ = some (.int .i64 0) := (blk_cell BK126.out 0).trans rfl; have hcz43_1 : w40.cell? ⟨gb126, 1, none⟩ = some (.int .i64 0) := (blk_cell BK126.out 1).trans rfl; have hcz43_2 : w40.cell? ⟨gb126, 2, none⟩ = some (.int .i64 0) := (blk_cell BK126.out 2).trans rfl; have hcz43_3 : w40.cell? ⟨gb126, 3, none⟩ = some (.int .i64 0) := (blk_cell BK126.out 3).trans rfl; have hfz43_0 := blk_frozen BK126.out 0; have hfz43_1 := blk_frozen BK126.out 1; have hfz43_2 := blk_frozen BK126.out 2; have hfz43_3 := blk_frozen BK126.out 3))
                 have n0_ : Aside0 (Kd.R k54 54 ((((w40.setCell ⟨gb126, 0, none⟩ (.int .i64 ((rd_T54 x7_2 x29_3).f0))).setCell ⟨gb126, 1, none⟩ (.int .i64 ((rd_T54 x7_2 x29_3).f1))).setCell ⟨gb126, 2, none⟩ (.int .i64 ((rd_T54 x7_2 x29_3).f2))).setCell ⟨gb126, 3, none⟩ (.int .i64 ((rd_T54 x7_2 x29_3).f3))) w.heap.size (fun k_ => k_ ≠ gb126) (.slice (some ad125) x7_2.length co25) x7_2) := ⟨by (with_reducible repeat (first | apply Kd.R_alloc | apply Kd.R_drewN | apply Kd.R_drew)); exact Kd.R_mono (Kd.R_far (p := ⟨gb126, 3, none⟩) (Kd.R_far (p := ⟨gb126, 2, none⟩) (Kd.R_far (p := ⟨gb126, 1, none⟩) (Kd.R_far (p := ⟨gb126, 0, none⟩) (Kd.R_mono HO_7.out (fun k_ hk => (⟨hk, hk.2⟩ : _ ∧ k_ ≠ gb126))) (fun _ hk => hk.2) (.int .i64 ((rd_T54 x7_2 x29_3).f0))) (fun _ hk => hk.2) (.int .i64 ((rd_T54 x7_2 x29_3).f1))) (fun _ hk => hk.2) (.int .i64 ((rd_T54 x7_2 x29_3).f2))) (fun _ hk => hk.2) (.int .i64 ((rd_T54 x7_2 x29_3).f3))) (fun _ hk => hk.1.2)⟩
                 have n1_ : Aside0 (Kd.R k56 56 ((((w40.setCell ⟨gb126, 0, none⟩ (.int .i64 ((rd_T54 x7_2 x29_3).f0))).setCell ⟨gb126, 1, none⟩ (.int .i64 ((rd_T54 x7_2 x29_3).f1))).setCell ⟨gb126, 2, none⟩ (.int .i64 ((rd_T54 x7_2 x29_3).f2))).setCell ⟨gb126, 3, none⟩ (.int .i64 ((rd_T54 x7_2 x29_3).f3))) w.heap.size (fun _ => True) u8 x8_2) := ⟨by (with_reducible repeat (first | apply Kd.R_alloc | apply Kd.R_drewN | apply Kd.R_drew)); exact Kd.R_mono (Kd.R_far (p := ⟨gb126, 3, none⟩) (Kd.R_far (p := ⟨gb126, 2, none⟩) (Kd.R_far (p := ⟨gb126, 1, none⟩) (Kd.R_far (p := ⟨gb126, 0, none⟩) (Kd.R_types HO_8.out BK126.out (by decide)) (fun _ hk => hk.2) (.int .i64 ((rd_T54 x7_2 x29_3).f0))) (fun _ hk => hk.2) (.int .i64 ((rd_T54 x7_2 x29_3).f1))) (fun _ hk => hk.2) (.int .i64 ((rd_T54 x7_2 x29_3).f2))) (fun _ hk => hk.2) (.int .i64 ((rd_T54 x7_2 x29_3).f3))) (fun _ hk => trivial)⟩
                 have n2_ : Aside0 (Kd.R k54 54 ((((w40.setCell ⟨gb126, 0, none⟩ (.int .i64 ((rd_T54 x7_2 x29_3).f0))).setCell ⟨gb126, 1, none⟩ (.int .i64 ((rd_T54 x7_2 x29_3).f1))).setCell ⟨gb126, 2, none⟩ (.int .i64 ((rd_T54 x7_2 x29_3).f2))).setCell ⟨gb126, 3, none⟩ (.int .i64 ((rd_T54 x7_2 x29_3).f3))) w.heap.size (fun k_ => k_ ≠ gb126) (.slice (some ad125) x7_2.length co25) x7_2) := ⟨by (with_reducible repeat (first | apply Kd.R_alloc | apply Kd.R_drewN | apply Kd.R_drew)); exact Kd.R_mono (Kd.R_far (p := ⟨gb126, 3, none⟩) (Kd.R_far (p := ⟨gb126, 2, none⟩) (Kd.R_far (p := ⟨gb126, 1, none⟩) (Kd.R_far (p := ⟨gb126, 0, none⟩) (Kd.R_mono HO_27.out (fun k_ hk => (⟨hk, hk.2⟩ : _ ∧ k_ ≠ gb126))) (fun _ hk => hk.2) (.int .i64 ((rd_T54 x7_2 x29_3).f0))) (fun _ hk => hk.2) (.int .i64 ((rd_T54 x7_2 x29_3).f1))) (fun _ hk => hk.2) (.int .i64 ((rd_T54 x7_2 x29_3).f2))) (fun _ hk => hk.2) (.int .i64 ((rd_T54 x7_2 x29_3).f3))) (fun _ hk => hk.1.2)⟩
                 have n3_ : Aside0 (((((w40.setCell ⟨gb126, 0, none⟩ (.int .i64 ((rd_T54 x7_2 x29_3).f0))).setCell ⟨gb126, 1, none⟩ (.int .i64 ((rd_T54 x7_2 x29_3).f1))).setCell ⟨gb126, 2, none⟩ (.int .i64 ((rd_T54 x7_2 x29_3).f2))).setCell ⟨gb126, 3, none⟩ (.int .i64 ((rd_T54 x7_2 x29_3).f3))).heap[gb115]? = some (.cells #[.int .i64 a0_0, .slice A0_1 l0_1.length c0_1] 31 (0, 0))) := ⟨by (with_reducible repeat (first | refine blk_drewN ?_ _ | refine blk_drew ?_ | refine blk_alloc ?_ _)); refine blk_far ?_ NB115_126.out _; (with_reducible repeat (first | refine blk_drewN ?_ _ | refine blk_drew ?_ | refine blk_alloc ?_ _)); refine blk_far ?_ NB115_126.out _; (with_reducible repeat (first | refine blk_drewN ?_ _ | refine blk_drew ?_ | refine blk_alloc ?_ _)); refine blk_far ?_ NB115_126.out _; (with_reducible repeat (first | refine blk_drewN ?_ _ | refine blk_drew ?_ | refine blk_alloc ?_ _)); refine blk_far ?_ NB115_126.out _; (with_reducible repeat (first | refine blk_drewN ?_ _ | refine blk_drew ?_ | refine blk_alloc ?_ _)); exact BK115.out⟩
                 have n4_ : Aside0 (((((w40.setCell ⟨gb126, 0, none⟩ (.int .i64 ((rd_T54 x7_2 x29_3).f0))).setCell ⟨gb126, 1, none⟩ (.int .i64 ((rd_T54 x7_2 x29_3).f1))).setCell ⟨gb126, 2, none⟩ (.int .i64 ((rd_T54 x7_2 x29_3).f2))).setCell ⟨gb126, 3, none⟩ (.int .i64 ((rd_T54 x7_2 x29_3).f3))).heap[gb116]? = some (.cells #[.int .i64 x117000_2, .slice none 0 0] 31 (0, 0))) := ⟨by (with_reducible repeat (first | refine blk_drewN ?_ _ | refine blk_drew ?_ | refine blk_alloc ?_ _)); refine blk_far ?_ NB116_126.out _; (with_reducible repeat (first | refine blk_drewN ?_ _ | refine blk_drew ?_ | refine blk_alloc ?_ _)); refine blk_far ?_ NB116_126.out _; (with_reducible repeat (first | refine blk_drewN ?_ _ | refine blk_drew ?_ | refine blk_alloc ?_ _)); refine blk_far ?_ NB116_126.out _; (with_reducible repeat (first | refine blk_drewN ?_ _ | refine blk_drew ?_ | refine blk_alloc ?_ _)); refine blk_far ?_ NB116_126.out _; (with_reducible repeat (first | refine blk_drewN ?_ _ | refine blk_drew ?_ | refine blk_alloc ?_ _)); exact BK116.out⟩
                 have n5_ : Aside0 (((((w40.setCell ⟨gb126, 0, none⟩ (.int .i64 ((rd_T54 x7_2 x29_3).f0))).setCell ⟨gb126, 1, none⟩ (.int .i64 ((rd_T54 x7_2 x29_3).f1))).setCell ⟨gb126, 2, none⟩ (.int .i64 ((rd_T54 x7_2 x29_3).f2))).setCell ⟨gb126, 3, none⟩ (.int .i64 ((rd_T54 x7_2 x29_3).f3))).heap[gb126]? = some (.cells #[.int .i64 ((rd_T54 x7_2 x29_3).f0), .int .i64 ((rd_T54 x7_2 x29_3).f1), .int .i64 ((rd_T54 x7_2 x29_3).f2), .int .i64 ((rd_T54 x7_2 x29_3).f3)] 54 (0, 0))) := ⟨by (with_reducible repeat (first | refine blk_drewN ?_ _ | refine blk_drew ?_ | refine blk_alloc ?_ _)); refine blk_put (cs := #[.int .i64 ((rd_T54 x7_2 x29_3).f0), .int .i64 ((rd_T54 x7_2 x29_3).f1), .int .i64 ((rd_T54 x7_2 x29_3).f2), .int .i64 0]) ?_ 3 _ rfl; (with_reducible repeat (first | refine blk_drewN ?_ _ | refine blk_drew ?_ | refine blk_alloc ?_ _)); refine blk_put (cs := #[.int .i64 ((rd_T54 x7_2 x29_3).f0), .int .i64 ((rd_T54 x7_2 x29_3).f1), .int .i64 0, .int .i64 0]) ?_ 2 _ rfl; (with_reducible repeat (first | refine blk_drewN ?_ _ | refine blk_drew ?_ | refine blk_alloc ?_ _)); refine blk_put (cs := #[.int .i64 ((rd_T54 x7_2 x29_3).f0), .int .i64 0, .int .i64 0, .int .i64 0]) ?_ 1 _ rfl; (with_reducible repeat (first | refine blk_drewN ?_ _ | refine blk_drew ?_ | refine blk_alloc ?_ _)); refine blk_put (cs := #[.int .i64 0, .int .i64 0, .int .i64 0, .int .i64 0]) ?_ 0 _ rfl; (with_reducible repeat (first | refine blk_drewN ?_ _ | refine blk_drew ?_ | refine blk_alloc ?_ _)); exact BK126.out⟩
                 have n6_ : Aside0 (Below w.heap.size w ((((w40.setCell ⟨gb126, 0, none⟩ (.int .i64 ((rd_T54 x7_2 x29_3).f0))).setCell ⟨gb126, 1, none⟩ (.int .i64 ((rd_T54 x7_2 x29_3).f1))).setCell ⟨gb126, 2, none⟩ (.int .i64 ((rd_T54 x7_2 x29_3).f2))).setCell ⟨gb126, 3, none⟩ (.int .i64 ((rd_T54 x7_2 x29_3).f3)))) := ⟨blw⟩
                 (try clear HO_7)
                 (try clear HO_8)
                 (try clear HO_27)
                 (try clear BK115)
                 (try clear BK116)
                 (try clear BK126)
                 (try clear HB)
                 generalize ((((w40.setCell ⟨gb126, 0, none⟩ (.int .i64 ((rd_T54 x7_2 x29_3).f0))).setCell ⟨gb126, 1, none⟩ (.int .i64 ((rd_T54 x7_2 x29_3).f1))).setCell ⟨gb126, 2, none⟩ (.int .i64 ((rd_T54 x7_2 x29_3).f2))).setCell ⟨gb126, 3, none⟩ (.int .i64 ((rd_T54 x7_2 x29_3).f3))) = w44 at n0_ n1_ n2_ n3_ n4_ n5_ n6_ ⊢
                 have HO_7 := n0_
                 have HO_8 := n1_
                 have HO_27 := n2_
                 have BK115 := n3_
                 have BK116 := n4_
                 have BK126 := n5_
                 have HB := n6_
                 clear n0_ n1_ n2_ n3_ n4_ n5_ n6_
                 have n0_ := Aside0.mk (Kd.R_drew HO_7.out)
                 have n1_ := Aside0.mk (Kd.R_drew HO_8.out)
                 have n2_ := Aside0.mk (Kd.R_drew HO_27.out)
                 have n3_ := Aside0.mk (blk_drew BK115.out)
                 have n4_ := Aside0.mk (blk_drew BK116.out)
                 have n5_ := Aside0.mk (blk_drew BK126.out)
                 have n6_ := Aside0.mk (below_drew1 HB.out)
                 clear HO_7
                 clear HO_8
                 clear HO_27
                 clear BK115
                 clear BK116
                 clear BK126
                 clear HB
                 have HO_7 := n0_
                 have HO_8 := n1_
                 have HO_27 := n2_
                 have BK115 := n3_
                 have BK116 := n4_
                 have BK126 := n5_
                 have HB := n6_
                 clear n0_ n1_ n2_ n3_ n4_ n5_ n6_
                 have p127 : 0 ≤ (x9_3 : Int) := odt
                 have q127 : x9_3 < (x7_2.length : Int) := odt
                 obtain ⟨ad127, e127, hx127_0, hx127_1, hx127_2, hx127_3⟩ := at_T54 (Kd.R_reads' HO_7.out).2.2 x9_3 p127 q127
                 obtain rfl : ad125 = ad127 := (by injection e127)
                 replace p127 := eq_true p127
                 replace q127 := eq_true q127
                 refine start_ (n := 18) (S := fun w' => w'.cell? ⟨gb126, 0, none⟩ = some (.int .i64 ((rd_T54 x7_2 x29_3).f0)) ∧ w'.cell? ⟨gb126, 1, none⟩ = some (.int .i64 ((rd_T54 x7_2 x29_3).f1)) ∧ w'.cell? ⟨gb126, 2, none⟩ = some (.int .i64 ((rd_T54 x7_2 x29_3).f2)) ∧ w'.cell? ⟨gb126, 3, none⟩ = some (.int .i64 ((rd_T54 x7_2 x29_3).f3)) ∧ w'.cell? (ad125.add ((x9_3).toNat * 4)) = some (.int .i64 ((rd_T54 x7_2 x9_3).f0)) ∧ w'.cell? ⟨(ad125.add ((x9_3).toNat * 4)).block, (ad125.add ((x9_3).toNat * 4)).off + 1, none⟩ = some (.int .i64 ((rd_T54 x7_2 x9_3).f1)) ∧ w'.cell? ⟨(ad125.add ((x9_3).toNat * 4)).block, (ad125.add ((x9_3).toNat * 4)).off + 2, none⟩ = some (.int .i64 ((rd_T54 x7_2 x9_3).f2)) ∧ w'.cell? ⟨(ad125.add ((x9_3).toNat * 4)).block, (ad125.add ((x9_3).toNat * 4)).off + 3, none⟩ = some (.int .i64 ((rd_T54 x7_2 x9_3).f3))) (ds := []) #[false, false, false, false, false, false, false, false, false, false, false, false, false, false, false, false, false, false] (by kernel_rfl) rfl rfl ⟨(blk_cell BK126.out 0).trans rfl, (blk_cell BK126.out 1).trans rfl, (blk_cell BK126.out 2).trans rfl, (blk_cell BK126.out 3).trans rfl, hx127_0, hx127_1, hx127_2, hx127_3⟩ (fun hHeld => ?_); refine with_tabW spec_RunClock.tab9 spec_RunClock.bits9 (fun HT_ HW_ => ?_)
                 generalize w44.drew = w45 at HO_7 HO_8 HO_27 BK115 BK116 BK126 HB hx127_0 hx127_1 hx127_2 hx127_3 hHeld ⊢
                 refine pure_ (i := 0) (N := some 34) (v := ?_) (a' := ?_) #[true, false, false, false, false, false, false, false, false, false, false, false, false, false, false, false, false, false] rfl rfl (any_of HT_.out (by kernel_rfl)) (fun _ _ _ h => h) (Or.inl ⟨by rfl, ?_⟩) ?_ ?_
                 rotate_left; (· (intro w'; go_simp; with_reducible rfl)); rotate_left; (· (simp only [Act.put, sp1, sp2, sp3, i64_w, i32_w]; rfl))
                 refine pure_ (i := 2) (N := some 36) (v := ?_) (a' := ?_) #[true, false, true, false, false, false, false, false, false, false, false, false, false, false, false, false, false, false] rfl rfl (any_of HT_.out (by kernel_rfl)) (fun _ _ _ h => h) (Or.inl ⟨by rfl, ?_⟩) ?_ ?_
                 rotate_left; (· (intro w'; go_simp; with_reducible rfl)); rotate_left; (· (simp only [Act.put, sp1, sp2, sp3, i64_w, i32_w]; rfl))
                 refine take_ (i := 1) (N := some 35) (v := ?_) (a' := ?_) #[true, true, true, false, false, false, false, false, false, false, false, false, false, false, false, false, false, false] rfl rfl (take_ofW HT_.out HW_.out (by kernel_rfl)) (fun _ _ _ h => h) (Or.inl ⟨by rfl, ?_⟩) hHeld ?_ ?_
                 rotate_left; (· (rintro w' ⟨s0, s1, s2, s3, s4, s5, s6, s7⟩; go_simp; with_reducible rfl)); rotate_left; (· (simp only [Act.put, sp1, sp2, sp3, i64_w, i32_w]; rfl))
                 refine pure_ (i := 3) (N := some 37) (v := ?_) (a' := ?_) #[true, true, true, true, false, false, false, false, false, false, false, false, false, false, false, false, false, false] rfl rfl (any_of HT_.out (by kernel_rfl)) (fun _ _ _ h => h) (Or.inl ⟨by rfl, ?_⟩) ?_ ?_
                 rotate_left; (· (intro w'; go_simp; with_reducible rfl)); rotate_left; (· (simp only [Act.put, sp1, sp2, sp3, i64_w, i32_w]; rfl))
                 refine pure_ (i := 4) (N := some 38) (v := ?_) (a' := ?_) #[true, true, true, true, true, false, false, false, false, false, false, false, false, false, false, false, false, false] rfl rfl (any_of HT_.out (by kernel_rfl)) (fun _ _ _ h => h) (Or.inl ⟨by rfl, ?_⟩) ?_ ?_
                 rotate_left; (· (intro w'; go_simp; with_reducible rfl)); rotate_left; (· (simp only [Act.put, sp1, sp2, sp3, i64_w, i32_w]; rfl))
                 refine pure_ (i := 5) (N := some 39) (v := ?_) (a' := ?_) #[true, true, true, true, true, true, false, false, false, false, false, false, false, false, false, false, false, false] rfl rfl (any_of HT_.out (by kernel_rfl)) (fun _ _ _ h => h) (Or.inl ⟨by rfl, ?_⟩) ?_ ?_
                 rotate_left; (· (intro w'; go_simp; with_reducible rfl)); rotate_left; (· (simp only [Act.put, sp1, sp2, sp3, i64_w, i32_w]; rfl))
                 refine pure_ (i := 6) (N := some 40) (v := ?_) (a' := ?_) #[true, true, true, true, true, true, true, false, false, false, false, false, false, false, false, false, false, false] rfl rfl (any_of HT_.out (by kernel_rfl)) (fun _ _ _ h => h) (Or.inl ⟨by rfl, ?_⟩) ?_ ?_
                 rotate_left; (· (intro w'; go_simp; with_reducible rfl)); rotate_left; (· (simp only [Act.put, sp1, sp2, sp3, i64_w, i32_w]; rfl))
                 refine pure_ (i := 7) (N := some 41) (v := ?_) (a' := ?_) #[true, true, true, true, true, true, true, true, false, false, false, false, false, false, false, false, false, false] rfl rfl (any_of HT_.out (by kernel_rfl)) (fun _ _ _ h => h) (Or.inl ⟨by rfl, ?_⟩) ?_ ?_
                 rotate_left; (· (intro w'; go_simp; with_reducible rfl)); rotate_left; (· (simp only [Act.put, sp1, sp2, sp3, i64_w, i32_w]; rfl))
                 refine pure_ (i := 8) (N := some 42) (v := ?_) (a' := ?_) #[true, true, true, true, true, true, true, true, true, false, false, false, false, false, false, false, false, false] rfl rfl (any_of HT_.out (by kernel_rfl)) (fun _ _ _ h => h) (Or.inl ⟨by rfl, ?_⟩) ?_ ?_
                 rotate_left; (· (intro w'; go_simp; with_reducible rfl)); rotate_left; (· (simp only [Act.put, sp1, sp2, sp3, i64_w, i32_w]; rfl))
                 refine pure_ (i := 10) (N := some 44) (v := ?_) (a' := ?_) #[true, true, true, true, true, true, true, true, true, false, true, false, false, false, false, false, false, false] rfl rfl (any_of HT_.out (by kernel_rfl)) (fun _ _ _ h => h) (Or.inl ⟨by rfl, ?_⟩) ?_ ?_
                 rotate_left; (· (intro w'; go_simp; with_reducible rfl)); rotate_left; (· (simp only [Act.put, sp1, sp2, sp3, i64_w, i32_w]; rfl))
                 refine pure_ (i := 11) (N := some 45) (v := ?_) (a' := ?_) #[true, true, true, true, true, true, true, true, true, false, true, true, false, false, false, false, false, false] rfl rfl (any_of HT_.out (by kernel_rfl)) (fun _ _ _ h => h) (Or.inl ⟨by rfl, ?_⟩) ?_ ?_
                 rotate_left; (· (intro w'; go_simp; with_reducible rfl)); rotate_left; (· (simp only [Act.put, sp1, sp2, sp3, i64_w, i32_w]; rfl))
                 refine pure_ (i := 12) (N := some 46) (v := ?_) (a' := ?_) #[true, true, true, true, true, true, true, true, true, false, true, true, true, false, false, false, false, false] rfl rfl (any_of HT_.out (by kernel_rfl)) (fun _ _ _ h => h) (Or.inl ⟨by rfl, ?_⟩) ?_ ?_
                 rotate_left; (· (intro w'; go_simp; with_reducible rfl)); rotate_left; (· (simp only [Act.put, sp1, sp2, sp3, i64_w, i32_w]; rfl))
                 refine pure_ (i := 13) (N := some 47) (v := ?_) (a' := ?_) #[true, true, true, true, true, true, true, true, true, false, true, true, true, true, false, false, false, false] rfl rfl (any_of HT_.out (by kernel_rfl)) (fun _ _ _ h => h) (Or.inl ⟨by rfl, ?_⟩) ?_ ?_
                 rotate_left; (· (intro w'; go_simp; with_reducible rfl)); rotate_left; (· (simp only [Act.put, sp1, sp2, sp3, i64_w, i32_w]; rfl))
                 refine take_ (i := 9) (N := some 43) (v := ?_) (a' := ?_) #[true, true, true, true, true, true, true, true, true, true, true, true, true, true, false, false, false, false] rfl rfl (take_ofW HT_.out HW_.out (by kernel_rfl)) (fun _ _ _ h => h) (Or.inl ⟨by rfl, ?_⟩) hHeld ?_ ?_
                 rotate_left; (· (rintro w' ⟨s0, s1, s2, s3, s4, s5, s6, s7⟩; go_simp; with_reducible rfl)); rotate_left; (· (simp only [Act.put, sp1, sp2, sp3, i64_w, i32_w]; rfl))
                 refine take_ (i := 14) (N := some 48) (v := ?_) (a' := ?_) #[true, true, true, true, true, true, true, true, true, true, true, true, true, true, true, false, false, false] rfl rfl (take_ofW HT_.out HW_.out (by kernel_rfl)) (fun _ _ _ h => h) (Or.inl ⟨by rfl, ?_⟩) hHeld ?_ ?_
                 rotate_left; (· (rintro w' ⟨s0, s1, s2, s3, s4, s5, s6, s7⟩; go_simp; with_reducible rfl)); rotate_left; (· (simp only [Act.put, sp1, sp2, sp3, i64_w, i32_w]; rfl))
                 refine pure_ (i := 15) (N := some 49) (v := ?_) (a' := ?_) #[true, true, true, true, true, true, true, true, true, true, true, true, true, true, true, true, false, false] rfl rfl (any_of HT_.out (by kernel_rfl)) (fun _ _ _ h => h) (Or.inl ⟨by rfl, ?_⟩) ?_ ?_
                 rotate_left; (· (intro w'; go_simp; with_reducible rfl)); rotate_left; (· (simp only [Act.put, sp1, sp2, sp3, i64_w, i32_w]; rfl))
                 refine pure_ (i := 16) (N := some 50) (v := ?_) (a' := ?_) #[true, true, true, true, true, true, true, true, true, true, true, true, true, true, true, true, true, false] rfl rfl (any_of HT_.out (by kernel_rfl)) (fun _ _ _ h => h) (Or.inl ⟨by rfl, ?_⟩) ?_ ?_
                 rotate_left; (· (intro w'; go_simp; with_reducible rfl)); rotate_left; (· (simp only [Act.put, sp1, sp2, sp3, i64_w, i32_w]; rfl))
                 refine pure_ (i := 17) (N := some 51) (v := ?_) (a' := ?_) #[true, true, true, true, true, true, true, true, true, true, true, true, true, true, true, true, true, true] rfl rfl (any_of HT_.out (by kernel_rfl)) (fun _ _ _ h => h) (Or.inl ⟨by rfl, ?_⟩) ?_ ?_
                 rotate_left; (· (intro w'; go_simp; with_reducible rfl)); rotate_left; (· (simp only [Act.put, sp1, sp2, sp3, i64_w, i32_w]; rfl))
                 refine done_ (done_of HT_.out (by kernel_rfl)) ?_
                 try go_wp2
                 go_roundg k3
                 case measure => have := HJ2.out; have := HK2.out; have := HK3.out; omega
                 case rel => exact ⟨(x29_3), (wrap64 (x29_3 + 1)), (by first | rfl | (simp; done) | (simp [*]; done)), (by first | rfl | (simp; done) | (simp [*]; done)), H', ⟨by have := HJ2.out; have := HK2.out; have := HK3.out; omega⟩, ⟨by (with_reducible repeat (first | apply Kd.R_alloc | apply Kd.R_drewN | apply Kd.R_drew)); exact Kd.R_mono HO_7.out (fun _ hk => trivial)⟩, ⟨by (with_reducible repeat (first | apply Kd.R_alloc | apply Kd.R_drewN | apply Kd.R_drew)); exact HO_8.out⟩, ⟨by (with_reducible repeat (first | apply Kd.R_alloc | apply Kd.R_drewN | apply Kd.R_drew)); exact Kd.R_mono HO_27.out (fun _ hk => trivial)⟩, ⟨by (with_reducible repeat (first | refine blk_drewN ?_ _ | refine blk_drew ?_ | refine blk_alloc ?_ _)); exact BK115.out⟩, ⟨by (with_reducible repeat (first | refine blk_drewN ?_ _ | refine blk_drew ?_ | refine blk_alloc ?_ _)); exact BK116.out⟩, ⟨blw⟩⟩
                ·rw [if_neg c39] at H
                 have c39b0 : decide (((rd_T54 x7_2 x29_3).f1) < ((rd_T54 x7_2 x9_3).f1)) = false := decide_eq_false c39
                 clear c39
                 have H' := Aside0.mk H
                 clear H
                 have p125 : 0 ≤ (x29_3 : Int) := odt
                 have q125 : x29_3 < (x7_2.length : Int) := odt
                 obtain ⟨ad125, e125, hx125_0, hx125_1, hx125_2, hx125_3⟩ := at_T54 (Kd.R_reads' HO_27.out).2.2 x29_3 p125 q125
                 cases e125
                 replace p125 := eq_true p125
                 replace q125 := eq_true q125
                 try go_wp2_with (first | ((with_reducible refine gate_dst (N := 11) rfl ?_); refine box_event ?hg (N := 11) ?hd (cs := #[.int .i64 0, .int .i64 0, .int .i64 0, .int .i64 0]) (t := 54) ?hr ?_; (case hd => rfl); (case hg => rfl); (case hr => first | (go_simp; done) | (go_simp; rfl)); intro gb126 hg w46 hbox hb; have n0_ := Aside0.mk (Kd.R_below (Kd.R_elderB (by (with_reducible repeat (first | apply Kd.R_alloc | apply Kd.R_drewN | apply Kd.R_drew)); exact HO_7.out) gb126 (Nat.le_of_eq hg.symm)) hb); have n1_ := Aside0.mk (Kd.R_below (by (with_reducible repeat (first | apply Kd.R_alloc | apply Kd.R_drewN | apply Kd.R_drew)); exact HO_8.out) hb); have n2_ := Aside0.mk (Kd.R_below (Kd.R_elderB (by (with_reducible repeat (first | apply Kd.R_alloc | apply Kd.R_drewN | apply Kd.R_drew)); exact HO_27.out) gb126 (Nat.le_of_eq hg.symm)) hb); have n3_ := Aside0.mk (blk_below (g := gb115) (o := .cells #[.int .i64 a0_0, .slice A0_1 l0_1.length c0_1] 31 (0, 0)) bkw hb); have n4_ := Aside0.mk (blk_below (g := gb116) (o := .cells #[.int .i64 x117000_2, .slice none 0 0] 31 (0, 0)) bkw hb); have n5_ := Aside0.mk (below_step blw hb); have n6_ := Aside0.mk (hbox); have n7_ := Aside0.mk ((by rw [hg]; exact (below_size blw) : w.heap.size ≤ gb126)); have n8_ := Aside0.mk ((by rw [hg]; exact (below_size blw) : w.heap.size ≤ gb126)); have n9_ := Aside0.mk ((by rw [hg]; exact Nat.ne_of_lt (blk_lt (g := gb115) (o := .cells #[.int .i64 a0_0, .slice A0_1 l0_1.length c0_1] 31 (0, 0)) bkw) : gb115 ≠ gb126)); have n10_ := Aside0.mk ((by rw [hg]; exact Nat.ne_of_gt (blk_lt (g := gb115) (o := .cells #[.int .i64 a0_0, .slice A0_1 l0_1.length c0_1] 31 (0, 0)) bkw) : gb126 ≠ gb115)); have n11_ := Aside0.mk ((by rw [hg]; exact Nat.ne_of_lt (blk_lt (g := gb116) (o := .cells #[.int .i64 x117000_2, .slice none 0 0] 31 (0, 0)) bkw) : gb116 ≠ gb126)); have n12_ := Aside0.mk ((by rw [hg]; exact Nat.ne_of_gt (blk_lt (g := gb116) (o := .cells #[.int .i64 x117000_2, .slice none 0 0] 31 (0, 0)) bkw) : gb126 ≠ gb116)); clear HO_7; clear HO_8; clear HO_27; clear BK115; clear BK116; clear HB; have HO_7 := n0_; have HO_8 := n1_; have HO_27 := n2_; have BK115 := n3_; have BK116 := n4_; have HB := n5_; have BK126 := n6_; have GW126 := n7_; have GE126 := n8_; have NB115_126 := n9_; have NB126_115 := n10_; have NB116_126 := n11_; have NB126_116 := n12_; clear n0_ n1_ n2_ n3_ n4_ n5_ n6_ n7_ n8_ n9_ n10_ n11_ n12_; clear hb hbox hg; have hnb47 := NB126_115.out; have hnc47 := NB115_126.out; have hnb48 := NB126_116.out; have hnc48 := NB116_126.out; have hcz49_0 : w46.cell? ⟨gb126, 0, none⟩ = some (.int .i64 0) := (blk_cell BK126.out 0).trans rfl; have hcz49_1 : w46.cell? ⟨gb126, 1, none⟩ = some (.int .i64 0) := (blk_cell BK126.out 1).trans rfl; have hcz49_2 : w46.cell? ⟨gb126, 2, none⟩ = some (.int .i64 0) := (blk_cell BK126.out 2).trans rfl; have hcz49_3 : w46.cell? ⟨gb126, 3, none⟩ = some (.int .i64 0) := (blk_cell BK126.out 3).trans rfl; have hfz49_0 := blk_frozen BK126.out 0; have hfz49_1 := blk_frozen BK126.out 1; have hfz49_2 := blk_frozen BK126.out 2; have hfz49_3 := blk_frozen BK126.out 3))
                 have n0_ : Aside0 (Kd.R k54 54 ((((w46.setCell ⟨gb126, 0, none⟩ (.int .i64 ((rd_T54 x7_2 x29_3).f0))).setCell ⟨gb126, 1, none⟩ (.int .i64 ((rd_T54 x7_2 x29_3).f1))).setCell ⟨gb126, 2, none⟩ (.int .i64 ((rd_T54 x7_2 x29_3).f2))).setCell ⟨gb126, 3, none⟩ (.int .i64 ((rd_T54 x7_2 x29_3).f3))) w.heap.size (fun k_ => k_ ≠ gb126) (.slice (some ad125) x7_2.length co25) x7_2) := ⟨by (with_reducible repeat (first | apply Kd.R_alloc | apply Kd.R_drewN | apply Kd.R_drew)); exact Kd.R_mono (Kd.R_far (p := ⟨gb126, 3, none⟩) (Kd.R_far (p := ⟨gb126, 2, none⟩) (Kd.R_far (p := ⟨gb126, 1, none⟩) (Kd.R_far (p := ⟨gb126, 0, none⟩) (Kd.R_mono HO_7.out (fun k_ hk => (⟨hk, hk.2⟩ : _ ∧ k_ ≠ gb126))) (fun _ hk => hk.2) (.int .i64 ((rd_T54 x7_2 x29_3).f0))) (fun _ hk => hk.2) (.int .i64 ((rd_T54 x7_2 x29_3).f1))) (fun _ hk => hk.2) (.int .i64 ((rd_T54 x7_2 x29_3).f2))) (fun _ hk => hk.2) (.int .i64 ((rd_T54 x7_2 x29_3).f3))) (fun _ hk => hk.1.2)⟩
                 have n1_ : Aside0 (Kd.R k56 56 ((((w46.setCell ⟨gb126, 0, none⟩ (.int .i64 ((rd_T54 x7_2 x29_3).f0))).setCell ⟨gb126, 1, none⟩ (.int .i64 ((rd_T54 x7_2 x29_3).f1))).setCell ⟨gb126, 2, none⟩ (.int .i64 ((rd_T54 x7_2 x29_3).f2))).setCell ⟨gb126, 3, none⟩ (.int .i64 ((rd_T54 x7_2 x29_3).f3))) w.heap.size (fun _ => True) u8 x8_2) := ⟨by (with_reducible repeat (first | apply Kd.R_alloc | apply Kd.R_drewN | apply Kd.R_drew)); exact Kd.R_mono (Kd.R_far (p := ⟨gb126, 3, none⟩) (Kd.R_far (p := ⟨gb126, 2, none⟩) (Kd.R_far (p := ⟨gb126, 1, none⟩) (Kd.R_far (p := ⟨gb126, 0, none⟩) (Kd.R_types HO_8.out BK126.out (by decide)) (fun _ hk => hk.2) (.int .i64 ((rd_T54 x7_2 x29_3).f0))) (fun _ hk => hk.2) (.int .i64 ((rd_T54 x7_2 x29_3).f1))) (fun _ hk => hk.2) (.int .i64 ((rd_T54 x7_2 x29_3).f2))) (fun _ hk => hk.2) (.int .i64 ((rd_T54 x7_2 x29_3).f3))) (fun _ hk => trivial)⟩
                 have n2_ : Aside0 (Kd.R k54 54 ((((w46.setCell ⟨gb126, 0, none⟩ (.int .i64 ((rd_T54 x7_2 x29_3).f0))).setCell ⟨gb126, 1, none⟩ (.int .i64 ((rd_T54 x7_2 x29_3).f1))).setCell ⟨gb126, 2, none⟩ (.int .i64 ((rd_T54 x7_2 x29_3).f2))).setCell ⟨gb126, 3, none⟩ (.int .i64 ((rd_T54 x7_2 x29_3).f3))) w.heap.size (fun k_ => k_ ≠ gb126) (.slice (some ad125) x7_2.length co25) x7_2) := ⟨by (with_reducible repeat (first | apply Kd.R_alloc | apply Kd.R_drewN | apply Kd.R_drew)); exact Kd.R_mono (Kd.R_far (p := ⟨gb126, 3, none⟩) (Kd.R_far (p := ⟨gb126, 2, none⟩) (Kd.R_far (p := ⟨gb126, 1, none⟩) (Kd.R_far (p := ⟨gb126, 0, none⟩) (Kd.R_mono HO_27.out (fun k_ hk => (⟨hk, hk.2⟩ : _ ∧ k_ ≠ gb126))) (fun _ hk => hk.2) (.int .i64 ((rd_T54 x7_2 x29_3).f0))) (fun _ hk => hk.2) (.int .i64 ((rd_T54 x7_2 x29_3).f1))) (fun _ hk => hk.2) (.int .i64 ((rd_T54 x7_2 x29_3).f2))) (fun _ hk => hk.2) (.int .i64 ((rd_T54 x7_2 x29_3).f3))) (fun _ hk => hk.1.2)⟩
                 have n3_ : Aside0 (((((w46.setCell ⟨gb126, 0, none⟩ (.int .i64 ((rd_T54 x7_2 x29_3).f0))).setCell ⟨gb126, 1, none⟩ (.int .i64 ((rd_T54 x7_2 x29_3).f1))).setCell ⟨gb126, 2, none⟩ (.int .i64 ((rd_T54 x7_2 x29_3).f2))).setCell ⟨gb126, 3, none⟩ (.int .i64 ((rd_T54 x7_2 x29_3).f3))).heap[gb115]? = some (.cells #[.int .i64 a0_0, .slice A0_1 l0_1.length c0_1] 31 (0, 0))) := ⟨by (with_reducible repeat (first | refine blk_drewN ?_ _ | refine blk_drew ?_ | refine blk_alloc ?_ _)); refine blk_far ?_ NB115_126.out _; (with_reducible repeat (first | refine blk_drewN ?_ _ | refine blk_drew ?_ | refine blk_alloc ?_ _)); refine blk_far ?_ NB115_126.out _; (with_reducible repeat (first | refine blk_drewN ?_ _ | refine blk_drew ?_ | refine blk_alloc ?_ _)); refine blk_far ?_ NB115_126.out _; (with_reducible repeat (first | refine blk_drewN ?_ _ | refine blk_drew ?_ | refine blk_alloc ?_ _)); refine blk_far ?_ NB115_126.out _; (with_reducible repeat (first | refine blk_drewN ?_ _ | refine blk_drew ?_ | refine blk_alloc ?_ _)); exact BK115.out⟩
                 have n4_ : Aside0 (((((w46.setCell ⟨gb126, 0, none⟩ (.int .i64 ((rd_T54 x7_2 x29_3).f0))).setCell ⟨gb126, 1, none⟩ (.int .i64 ((rd_T54 x7_2 x29_3).f1))).setCell ⟨gb126, 2, none⟩ (.int .i64 ((rd_T54 x7_2 x29_3).f2))).setCell ⟨gb126, 3, none⟩ (.int .i64 ((rd_T54 x7_2 x29_3).f3))).heap[gb116]? = some (.cells #[.int .i64 x117000_2, .slice none 0 0] 31 (0, 0))) := ⟨by (with_reducible repeat (first | refine blk_drewN ?_ _ | refine blk_drew ?_ | refine blk_alloc ?_ _)); refine blk_far ?_ NB116_126.out _; (with_reducible repeat (first | refine blk_drewN ?_ _ | refine blk_drew ?_ | refine blk_alloc ?_ _)); refine blk_far ?_ NB116_126.out _; (with_reducible repeat (first | refine blk_drewN ?_ _ | refine blk_drew ?_ | refine blk_alloc ?_ _)); refine blk_far ?_ NB116_126.out _; (with_reducible repeat (first | refine blk_drewN ?_ _ | refine blk_drew ?_ | refine blk_alloc ?_ _)); refine blk_far ?_ NB116_126.out _; (with_reducible repeat (first | refine blk_drewN ?_ _ | refine blk_drew ?_ | refine blk_alloc ?_ _)); exact BK116.out⟩
                 have n5_ : Aside0 (((((w46.setCell ⟨gb126, 0, none⟩ (.int .i64 ((rd_T54 x7_2 x29_3).f0))).setCell ⟨gb126, 1, none⟩ (.int .i64 ((rd_T54 x7_2 x29_3).f1))).setCell ⟨gb126, 2, none⟩ (.int .i64 ((rd_T54 x7_2 x29_3).f2))).setCell ⟨gb126, 3, none⟩ (.int .i64 ((rd_T54 x7_2 x29_3).f3))).heap[gb126]? = some (.cells #[.int .i64 ((rd_T54 x7_2 x29_3).f0), .int .i64 ((rd_T54 x7_2 x29_3).f1), .int .i64 ((rd_T54 x7_2 x29_3).f2), .int .i64 ((rd_T54 x7_2 x29_3).f3)] 54 (0, 0))) := ⟨by (with_reducible repeat (first | refine blk_drewN ?_ _ | refine blk_drew ?_ | refine blk_alloc ?_ _)); refine blk_put (cs := #[.int .i64 ((rd_T54 x7_2 x29_3).f0), .int .i64 ((rd_T54 x7_2 x29_3).f1), .int .i64 ((rd_T54 x7_2 x29_3).f2), .int .i64 0]) ?_ 3 _ rfl; (with_reducible repeat (first | refine blk_drewN ?_ _ | refine blk_drew ?_ | refine blk_alloc ?_ _)); refine blk_put (cs := #[.int .i64 ((rd_T54 x7_2 x29_3).f0), .int .i64 ((rd_T54 x7_2 x29_3).f1), .int .i64 0, .int .i64 0]) ?_ 2 _ rfl; (with_reducible repeat (first | refine blk_drewN ?_ _ | refine blk_drew ?_ | refine blk_alloc ?_ _)); refine blk_put (cs := #[.int .i64 ((rd_T54 x7_2 x29_3).f0), .int .i64 0, .int .i64 0, .int .i64 0]) ?_ 1 _ rfl; (with_reducible repeat (first | refine blk_drewN ?_ _ | refine blk_drew ?_ | refine blk_alloc ?_ _)); refine blk_put (cs := #[.int .i64 0, .int .i64 0, .int .i64 0, .int .i64 0]) ?_ 0 _ rfl; (with_reducible repeat (first | refine blk_drewN ?_ _ | refine blk_drew ?_ | refine blk_alloc ?_ _)); exact BK126.out⟩
                 have n6_ : Aside0 (Below w.heap.size w ((((w46.setCell ⟨gb126, 0, none⟩ (.int .i64 ((rd_T54 x7_2 x29_3).f0))).setCell ⟨gb126, 1, none⟩ (.int .i64 ((rd_T54 x7_2 x29_3).f1))).setCell ⟨gb126, 2, none⟩ (.int .i64 ((rd_T54 x7_2 x29_3).f2))).setCell ⟨gb126, 3, none⟩ (.int .i64 ((rd_T54 x7_2 x29_3).f3)))) := ⟨blw⟩
                 (try clear HO_7)
                 (try clear HO_8)
                 (try clear HO_27)
                 (try clear BK115)
                 (try clear BK116)
                 (try clear BK126)
                 (try clear HB)
                 generalize ((((w46.setCell ⟨gb126, 0, none⟩ (.int .i64 ((rd_T54 x7_2 x29_3).f0))).setCell ⟨gb126, 1, none⟩ (.int .i64 ((rd_T54 x7_2 x29_3).f1))).setCell ⟨gb126, 2, none⟩ (.int .i64 ((rd_T54 x7_2 x29_3).f2))).setCell ⟨gb126, 3, none⟩ (.int .i64 ((rd_T54 x7_2 x29_3).f3))) = w50 at n0_ n1_ n2_ n3_ n4_ n5_ n6_ ⊢
                 have HO_7 := n0_
                 have HO_8 := n1_
                 have HO_27 := n2_
                 have BK115 := n3_
                 have BK116 := n4_
                 have BK126 := n5_
                 have HB := n6_
                 clear n0_ n1_ n2_ n3_ n4_ n5_ n6_
                 have n0_ := Aside0.mk (Kd.R_drew HO_7.out)
                 have n1_ := Aside0.mk (Kd.R_drew HO_8.out)
                 have n2_ := Aside0.mk (Kd.R_drew HO_27.out)
                 have n3_ := Aside0.mk (blk_drew BK115.out)
                 have n4_ := Aside0.mk (blk_drew BK116.out)
                 have n5_ := Aside0.mk (blk_drew BK126.out)
                 have n6_ := Aside0.mk (below_drew1 HB.out)
                 clear HO_7
                 clear HO_8
                 clear HO_27
                 clear BK115
                 clear BK116
                 clear BK126
                 clear HB
                 have HO_7 := n0_
                 have HO_8 := n1_
                 have HO_27 := n2_
                 have BK115 := n3_
                 have BK116 := n4_
                 have BK126 := n5_
                 have HB := n6_
                 clear n0_ n1_ n2_ n3_ n4_ n5_ n6_
                 have p127 : 0 ≤ (x9_3 : Int) := odt
                 have q127 : x9_3 < (x7_2.length : Int) := odt
                 obtain ⟨ad127, e127, hx127_0, hx127_1, hx127_2, hx127_3⟩ := at_T54 (Kd.R_reads' HO_7.out).2.2 x9_3 p127 q127
                 obtain rfl : ad125 = ad127 := (by injection e127)
                 replace p127 := eq_true p127
                 replace q127 := eq_true q127
                 refine start_ (n := 18) (S := fun w' => w'.cell? ⟨gb126, 0, none⟩ = some (.int .i64 ((rd_T54 x7_2 x29_3).f0)) ∧ w'.cell? ⟨gb126, 1, none⟩ = some (.int .i64 ((rd_T54 x7_2 x29_3).f1)) ∧ w'.cell? ⟨gb126, 2, none⟩ = some (.int .i64 ((rd_T54 x7_2 x29_3).f2)) ∧ w'.cell? ⟨gb126, 3, none⟩ = some (.int .i64 ((rd_T54 x7_2 x29_3).f3)) ∧ w'.cell? (ad125.add ((x9_3).toNat * 4)) = some (.int .i64 ((rd_T54 x7_2 x9_3).f0)) ∧ w'.cell? ⟨(ad125.add ((x9_3).toNat * 4)).block, (ad125.add ((x9_3).toNat * 4)).off + 1, none⟩ = some (.int .i64 ((rd_T54 x7_2 x9_3).f1)) ∧ w'.cell? ⟨(ad125.add ((x9_3).toNat * 4)).block, (ad125.add ((x9_3).toNat * 4)).off + 2, none⟩ = some (.int .i64 ((rd_T54 x7_2 x9_3).f2)) ∧ w'.cell? ⟨(ad125.add ((x9_3).toNat * 4)).block, (ad125.add ((x9_3).toNat * 4)).off + 3, none⟩ = some (.int .i64 ((rd_T54 x7_2 x9_3).f3))) (ds := []) #[false, false, false, false, false, false, false, false, false, false, false, false, false, false, false, false, false, false] (by kernel_rfl) rfl rfl ⟨(blk_cell BK126.out 0).trans rfl, (blk_cell BK126.out 1).trans rfl, (blk_cell BK126.out 2).trans rfl, (blk_cell BK126.out 3).trans rfl, hx127_0, hx127_1, hx127_2, hx127_3⟩ (fun hHeld => ?_); refine with_tabW spec_RunClock.tab9 spec_RunClock.bits9 (fun HT_ HW_ => ?_)
                 generalize w50.drew = w51 at HO_7 HO_8 HO_27 BK115 BK116 BK126 HB hx127_0 hx127_1 hx127_2 hx127_3 hHeld ⊢
                 refine pure_ (i := 0) (N := some 34) (v := ?_) (a' := ?_) #[true, false, false, false, false, false, false, false, false, false, false, false, false, false, false, false, false, false] rfl rfl (any_of HT_.out (by kernel_rfl)) (fun _ _ _ h => h) (Or.inl ⟨by rfl, ?_⟩) ?_ ?_
                 rotate_left; (· (intro w'; go_simp; with_reducible rfl)); rotate_left; (· (simp only [Act.put, sp1, sp2, sp3, i64_w, i32_w]; rfl))
                 refine pure_ (i := 2) (N := some 36) (v := ?_) (a' := ?_) #[true, false, true, false, false, false, false, false, false, false, false, false, false, false, false, false, false, false] rfl rfl (any_of HT_.out (by kernel_rfl)) (fun _ _ _ h => h) (Or.inl ⟨by rfl, ?_⟩) ?_ ?_
                 rotate_left; (· (intro w'; go_simp; with_reducible rfl)); rotate_left; (· (simp only [Act.put, sp1, sp2, sp3, i64_w, i32_w]; rfl))
                 refine take_ (i := 1) (N := some 35) (v := ?_) (a' := ?_) #[true, true, true, false, false, false, false, false, false, false, false, false, false, false, false, false, false, false] rfl rfl (take_ofW HT_.out HW_.out (by kernel_rfl)) (fun _ _ _ h => h) (Or.inl ⟨by rfl, ?_⟩) hHeld ?_ ?_
                 rotate_left; (· (rintro w' ⟨s0, s1, s2, s3, s4, s5, s6, s7⟩; go_simp; with_reducible rfl)); rotate_left; (· (simp only [Act.put, sp1, sp2, sp3, i64_w, i32_w]; rfl))
                 refine pure_ (i := 3) (N := some 37) (v := ?_) (a' := ?_) #[true, true, true, true, false, false, false, false, false, false, false, false, false, false, false, false, false, false] rfl rfl (any_of HT_.out (by kernel_rfl)) (fun _ _ _ h => h) (Or.inl ⟨by rfl, ?_⟩) ?_ ?_
                 rotate_left; (· (intro w'; go_simp; with_reducible rfl)); rotate_left; (· (simp only [Act.put, sp1, sp2, sp3, i64_w, i32_w]; rfl))
                 refine pure_ (i := 4) (N := some 38) (v := ?_) (a' := ?_) #[true, true, true, true, true, false, false, false, false, false, false, false, false, false, false, false, false, false] rfl rfl (any_of HT_.out (by kernel_rfl)) (fun _ _ _ h => h) (Or.inl ⟨by rfl, ?_⟩) ?_ ?_
                 rotate_left; (· (intro w'; go_simp; with_reducible rfl)); rotate_left; (· (simp only [Act.put, sp1, sp2, sp3, i64_w, i32_w]; rfl))
                 refine pure_ (i := 5) (N := some 39) (v := ?_) (a' := ?_) #[true, true, true, true, true, true, false, false, false, false, false, false, false, false, false, false, false, false] rfl rfl (any_of HT_.out (by kernel_rfl)) (fun _ _ _ h => h) (Or.inl ⟨by rfl, ?_⟩) ?_ ?_
                 rotate_left; (· (intro w'; go_simp; with_reducible rfl)); rotate_left; (· (simp only [Act.put, sp1, sp2, sp3, i64_w, i32_w]; rfl))
                 refine pure_ (i := 6) (N := some 40) (v := ?_) (a' := ?_) #[true, true, true, true, true, true, true, false, false, false, false, false, false, false, false, false, false, false] rfl rfl (any_of HT_.out (by kernel_rfl)) (fun _ _ _ h => h) (Or.inl ⟨by rfl, ?_⟩) ?_ ?_
                 rotate_left; (· (intro w'; go_simp; with_reducible rfl)); rotate_left; (· (simp only [Act.put, sp1, sp2, sp3, i64_w, i32_w]; rfl))
                 refine pure_ (i := 7) (N := some 41) (v := ?_) (a' := ?_) #[true, true, true, true, true, true, true, true, false, false, false, false, false, false, false, false, false, false] rfl rfl (any_of HT_.out (by kernel_rfl)) (fun _ _ _ h => h) (Or.inl ⟨by rfl, ?_⟩) ?_ ?_
                 rotate_left; (· (intro w'; go_simp; with_reducible rfl)); rotate_left; (· (simp only [Act.put, sp1, sp2, sp3, i64_w, i32_w]; rfl))
                 refine pure_ (i := 8) (N := some 42) (v := ?_) (a' := ?_) #[true, true, true, true, true, true, true, true, true, false, false, false, false, false, false, false, false, false] rfl rfl (any_of HT_.out (by kernel_rfl)) (fun _ _ _ h => h) (Or.inl ⟨by rfl, ?_⟩) ?_ ?_
                 rotate_left; (· (intro w'; go_simp; with_reducible rfl)); rotate_left; (· (simp only [Act.put, sp1, sp2, sp3, i64_w, i32_w]; rfl))
                 refine pure_ (i := 10) (N := some 44) (v := ?_) (a' := ?_) #[true, true, true, true, true, true, true, true, true, false, true, false, false, false, false, false, false, false] rfl rfl (any_of HT_.out (by kernel_rfl)) (fun _ _ _ h => h) (Or.inl ⟨by rfl, ?_⟩) ?_ ?_
                 rotate_left; (· (intro w'; go_simp; with_reducible rfl)); rotate_left; (· (simp only [Act.put, sp1, sp2, sp3, i64_w, i32_w]; rfl))
                 refine pure_ (i := 11) (N := some 45) (v := ?_) (a' := ?_) #[true, true, true, true, true, true, true, true, true, false, true, true, false, false, false, false, false, false] rfl rfl (any_of HT_.out (by kernel_rfl)) (fun _ _ _ h => h) (Or.inl ⟨by rfl, ?_⟩) ?_ ?_
                 rotate_left; (· (intro w'; go_simp; with_reducible rfl)); rotate_left; (· (simp only [Act.put, sp1, sp2, sp3, i64_w, i32_w]; rfl))
                 refine pure_ (i := 12) (N := some 46) (v := ?_) (a' := ?_) #[true, true, true, true, true, true, true, true, true, false, true, true, true, false, false, false, false, false] rfl rfl (any_of HT_.out (by kernel_rfl)) (fun _ _ _ h => h) (Or.inl ⟨by rfl, ?_⟩) ?_ ?_
                 rotate_left; (· (intro w'; go_simp; with_reducible rfl)); rotate_left; (· (simp only [Act.put, sp1, sp2, sp3, i64_w, i32_w]; rfl))
                 refine pure_ (i := 13) (N := some 47) (v := ?_) (a' := ?_) #[true, true, true, true, true, true, true, true, true, false, true, true, true, true, false, false, false, false] rfl rfl (any_of HT_.out (by kernel_rfl)) (fun _ _ _ h => h) (Or.inl ⟨by rfl, ?_⟩) ?_ ?_
                 rotate_left; (· (intro w'; go_simp; with_reducible rfl)); rotate_left; (· (simp only [Act.put, sp1, sp2, sp3, i64_w, i32_w]; rfl))
                 refine take_ (i := 9) (N := some 43) (v := ?_) (a' := ?_) #[true, true, true, true, true, true, true, true, true, true, true, true, true, true, false, false, false, false] rfl rfl (take_ofW HT_.out HW_.out (by kernel_rfl)) (fun _ _ _ h => h) (Or.inl ⟨by rfl, ?_⟩) hHeld ?_ ?_
                 rotate_left; (· (rintro w' ⟨s0, s1, s2, s3, s4, s5, s6, s7⟩; go_simp; with_reducible rfl)); rotate_left; (· (simp only [Act.put, sp1, sp2, sp3, i64_w, i32_w]; rfl))
                 refine take_ (i := 14) (N := some 48) (v := ?_) (a' := ?_) #[true, true, true, true, true, true, true, true, true, true, true, true, true, true, true, false, false, false] rfl rfl (take_ofW HT_.out HW_.out (by kernel_rfl)) (fun _ _ _ h => h) (Or.inl ⟨by rfl, ?_⟩) hHeld ?_ ?_
                 rotate_left; (· (rintro w' ⟨s0, s1, s2, s3, s4, s5, s6, s7⟩; go_simp; with_reducible rfl)); rotate_left; (· (simp only [Act.put, sp1, sp2, sp3, i64_w, i32_w]; rfl))
                 refine pure_ (i := 15) (N := some 49) (v := ?_) (a' := ?_) #[true, true, true, true, true, true, true, true, true, true, true, true, true, true, true, true, false, false] rfl rfl (any_of HT_.out (by kernel_rfl)) (fun _ _ _ h => h) (Or.inl ⟨by rfl, ?_⟩) ?_ ?_
                 rotate_left; (· (intro w'; go_simp; with_reducible rfl)); rotate_left; (· (simp only [Act.put, sp1, sp2, sp3, i64_w, i32_w]; rfl))
                 refine pure_ (i := 16) (N := some 50) (v := ?_) (a' := ?_) #[true, true, true, true, true, true, true, true, true, true, true, true, true, true, true, true, true, false] rfl rfl (any_of HT_.out (by kernel_rfl)) (fun _ _ _ h => h) (Or.inl ⟨by rfl, ?_⟩) ?_ ?_
                 rotate_left; (· (intro w'; go_simp; with_reducible rfl)); rotate_left; (· (simp only [Act.put, sp1, sp2, sp3, i64_w, i32_w]; rfl))
                 refine pure_ (i := 17) (N := some 51) (v := ?_) (a' := ?_) #[true, true, true, true, true, true, true, true, true, true, true, true, true, true, true, true, true, true] rfl rfl (any_of HT_.out (by kernel_rfl)) (fun _ _ _ h => h) (Or.inl ⟨by rfl, ?_⟩) ?_ ?_
                 rotate_left; (· (intro w'; go_simp; with_reducible rfl)); rotate_left; (· (simp only [Act.put, sp1, sp2, sp3, i64_w, i32_w]; rfl))
                 refine done_ (done_of HT_.out (by kernel_rfl)) ?_
                 try go_wp2
                 go_roundg k3
                 case measure => have := HJ2.out; have := HK2.out; have := HK3.out; omega
                 case rel => exact ⟨(x9_3), (wrap64 (x29_3 + 1)), (by first | rfl | (simp; done) | (simp [*]; done)), (by first | rfl | (simp; done) | (simp [*]; done)), H', ⟨by have := HJ2.out; have := HK2.out; have := HK3.out; omega⟩, ⟨by (with_reducible repeat (first | apply Kd.R_alloc | apply Kd.R_drewN | apply Kd.R_drew)); exact Kd.R_mono HO_7.out (fun _ hk => trivial)⟩, ⟨by (with_reducible repeat (first | apply Kd.R_alloc | apply Kd.R_drewN | apply Kd.R_drew)); exact HO_8.out⟩, ⟨by (with_reducible repeat (first | apply Kd.R_alloc | apply Kd.R_drewN | apply Kd.R_drew)); exact Kd.R_mono HO_27.out (fun _ hk => trivial)⟩, ⟨by (with_reducible repeat (first | refine blk_drewN ?_ _ | refine blk_drew ?_ | refine blk_alloc ?_ _)); exact BK115.out⟩, ⟨by (with_reducible repeat (first | refine blk_drewN ?_ _ | refine blk_drew ?_ | refine blk_alloc ?_ _)); exact BK116.out⟩, ⟨blw⟩⟩
               ·rw [if_neg c38] at H
                exact absurd H (by simp)
              ·rw [if_neg c37] at H
               exact absurd H (by simp)
            ·rw [if_neg c29] at H
             have c29b0 : decide (((rd_T54 x7_2 x29_3).f1) ≤ a1) = false := decide_eq_false c29
             clear c29
             have H' := Aside0.mk H
             clear H
             have p125 : 0 ≤ (x29_3 : Int) := odt
             have q125 : x29_3 < (x7_2.length : Int) := odt
             obtain ⟨ad125, e125, hx125_0, hx125_1, hx125_2, hx125_3⟩ := at_T54 (Kd.R_reads' HO_27.out).2.2 x29_3 p125 q125
             cases e125
             replace p125 := eq_true p125
             replace q125 := eq_true q125
             try go_wp2_with (first | ((with_reducible refine gate_dst (N := 11) rfl ?_); refine box_event ?hg (N := 11) ?hd (cs := #[.int .i64 0, .int .i64 0, .int .i64 0, .int .i64 0]) (t := 54) ?hr ?_; (case hd => rfl); (case hg => rfl); (case hr => first | (go_simp; done) | (go_simp; rfl)); intro gb126 hg w52 hbox hb; have n0_ := Aside0.mk (Kd.R_below (Kd.R_elderB (by (with_reducible repeat (first | apply Kd.R_alloc | apply Kd.R_drewN | apply Kd.R_drew)); exact HO_7.out) gb126 (Nat.le_of_eq hg.symm)) hb); have n1_ := Aside0.mk (Kd.R_below (by (with_reducible repeat (first | apply Kd.R_alloc | apply Kd.R_drewN | apply Kd.R_drew)); exact HO_8.out) hb); have n2_ := Aside0.mk (Kd.R_below (Kd.R_elderB (by (with_reducible repeat (first | apply Kd.R_alloc | apply Kd.R_drewN | apply Kd.R_drew)); exact HO_27.out) gb126 (Nat.le_of_eq hg.symm)) hb); have n3_ := Aside0.mk (blk_below (g := gb115) (o := .cells #[.int .i64 a0_0, .slice A0_1 l0_1.length c0_1] 31 (0, 0)) bkw hb); have n4_ := Aside0.mk (blk_below (g := gb116) (o := .cells #[.int .i64 x117000_2, .slice none 0 0] 31 (0, 0)) bkw hb); have n5_ := Aside0.mk (below_step blw hb); have n6_ := Aside0.mk (hbox); have n7_ := Aside0.mk ((by rw [hg]; exact (below_size blw) : w.heap.size ≤ gb126)); have n8_ := Aside0.mk ((by rw [hg]; exact (below_size blw) : w.heap.size ≤ gb126)); have n9_ := Aside0.mk ((by rw [hg]; exact Nat.ne_of_lt (blk_lt (g := gb115) (o := .cells #[.int .i64 a0_0, .slice A0_1 l0_1.length c0_1] 31 (0, 0)) bkw) : gb115 ≠ gb126)); have n10_ := Aside0.mk ((by rw [hg]; exact Nat.ne_of_gt (blk_lt (g := gb115) (o := .cells #[.int .i64 a0_0, .slice A0_1 l0_1.length c0_1] 31 (0, 0)) bkw) : gb126 ≠ gb115)); have n11_ := Aside0.mk ((by rw [hg]; exact Nat.ne_of_lt (blk_lt (g := gb116) (o := .cells #[.int .i64 x117000_2, .slice none 0 0] 31 (0, 0)) bkw) : gb116 ≠ gb126)); have n12_ := Aside0.mk ((by rw [hg]; exact Nat.ne_of_gt (blk_lt (g := gb116) (o := .cells #[.int .i64 x117000_2, .slice none 0 0] 31 (0, 0)) bkw) : gb126 ≠ gb116)); clear HO_7; clear HO_8; clear HO_27; clear BK115; clear BK116; clear HB; have HO_7 := n0_; have HO_8 := n1_; have HO_27 := n2_; have BK115 := n3_; have BK116 := n4_; have HB := n5_; have BK126 := n6_; have GW126 := n7_; have GE126 := n8_; have NB115_126 := n9_; have NB126_115 := n10_; have NB116_126 := n11_; have NB126_116 := n12_; clear n0_ n1_ n2_ n3_ n4_ n5_ n6_ n7_ n8_ n9_ n10_ n11_ n12_; clear hb hbox hg; have hnb53 := NB126_115.out; have hnc53 := NB115_126.out; have hnb54 := NB126_116.out; have hnc54 := NB116_126.out; have hcz55_0 : w52.cell? ⟨gb126, 0, none⟩ = some (.int .i64 0) := (blk_cell BK126.out 0).trans rfl; have hcz55_1 : w52.cell? ⟨gb126, 1, none⟩ = some (.int .i64 0) := (blk_cell BK126.out 1).trans rfl; have hcz55_2 : w52.cell? ⟨gb126, 2, none⟩ = some (.int .i64 0) := (blk_cell BK126.out 2).trans rfl; have hcz55_3 : w52.cell? ⟨gb126, 3, none⟩ = some (.int .i64 0) := (blk_cell BK126.out 3).trans rfl; have hfz55_0 := blk_frozen BK126.out 0; have hfz55_1 := blk_frozen BK126.out 1; have hfz55_2 := blk_frozen BK126.out 2; have hfz55_3 := blk_frozen BK126.out 3))
             have n0_ : Aside0 (Kd.R k54 54 ((((w52.setCell ⟨gb126, 0, none⟩ (.int .i64 ((rd_T54 x7_2 x29_3).f0))).setCell ⟨gb126, 1, none⟩ (.int .i64 ((rd_T54 x7_2 x29_3).f1))).setCell ⟨gb126, 2, none⟩ (.int .i64 ((rd_T54 x7_2 x29_3).f2))).setCell ⟨gb126, 3, none⟩ (.int .i64 ((rd_T54 x7_2 x29_3).f3))) w.heap.size (fun k_ => k_ ≠ gb126) (.slice (some ad125) x7_2.length co25) x7_2) := ⟨by (with_reducible repeat (first | apply Kd.R_alloc | apply Kd.R_drewN | apply Kd.R_drew)); exact Kd.R_mono (Kd.R_far (p := ⟨gb126, 3, none⟩) (Kd.R_far (p := ⟨gb126, 2, none⟩) (Kd.R_far (p := ⟨gb126, 1, none⟩) (Kd.R_far (p := ⟨gb126, 0, none⟩) (Kd.R_mono HO_7.out (fun k_ hk => (⟨hk, hk.2⟩ : _ ∧ k_ ≠ gb126))) (fun _ hk => hk.2) (.int .i64 ((rd_T54 x7_2 x29_3).f0))) (fun _ hk => hk.2) (.int .i64 ((rd_T54 x7_2 x29_3).f1))) (fun _ hk => hk.2) (.int .i64 ((rd_T54 x7_2 x29_3).f2))) (fun _ hk => hk.2) (.int .i64 ((rd_T54 x7_2 x29_3).f3))) (fun _ hk => hk.1.2)⟩
             have n1_ : Aside0 (Kd.R k56 56 ((((w52.setCell ⟨gb126, 0, none⟩ (.int .i64 ((rd_T54 x7_2 x29_3).f0))).setCell ⟨gb126, 1, none⟩ (.int .i64 ((rd_T54 x7_2 x29_3).f1))).setCell ⟨gb126, 2, none⟩ (.int .i64 ((rd_T54 x7_2 x29_3).f2))).setCell ⟨gb126, 3, none⟩ (.int .i64 ((rd_T54 x7_2 x29_3).f3))) w.heap.size (fun _ => True) u8 x8_2) := ⟨by (with_reducible repeat (first | apply Kd.R_alloc | apply Kd.R_drewN | apply Kd.R_drew)); exact Kd.R_mono (Kd.R_far (p := ⟨gb126, 3, none⟩) (Kd.R_far (p := ⟨gb126, 2, none⟩) (Kd.R_far (p := ⟨gb126, 1, none⟩) (Kd.R_far (p := ⟨gb126, 0, none⟩) (Kd.R_types HO_8.out BK126.out (by decide)) (fun _ hk => hk.2) (.int .i64 ((rd_T54 x7_2 x29_3).f0))) (fun _ hk => hk.2) (.int .i64 ((rd_T54 x7_2 x29_3).f1))) (fun _ hk => hk.2) (.int .i64 ((rd_T54 x7_2 x29_3).f2))) (fun _ hk => hk.2) (.int .i64 ((rd_T54 x7_2 x29_3).f3))) (fun _ hk => trivial)⟩
             have n2_ : Aside0 (Kd.R k54 54 ((((w52.setCell ⟨gb126, 0, none⟩ (.int .i64 ((rd_T54 x7_2 x29_3).f0))).setCell ⟨gb126, 1, none⟩ (.int .i64 ((rd_T54 x7_2 x29_3).f1))).setCell ⟨gb126, 2, none⟩ (.int .i64 ((rd_T54 x7_2 x29_3).f2))).setCell ⟨gb126, 3, none⟩ (.int .i64 ((rd_T54 x7_2 x29_3).f3))) w.heap.size (fun k_ => k_ ≠ gb126) (.slice (some ad125) x7_2.length co25) x7_2) := ⟨by (with_reducible repeat (first | apply Kd.R_alloc | apply Kd.R_drewN | apply Kd.R_drew)); exact Kd.R_mono (Kd.R_far (p := ⟨gb126, 3, none⟩) (Kd.R_far (p := ⟨gb126, 2, none⟩) (Kd.R_far (p := ⟨gb126, 1, none⟩) (Kd.R_far (p := ⟨gb126, 0, none⟩) (Kd.R_mono HO_27.out (fun k_ hk => (⟨hk, hk.2⟩ : _ ∧ k_ ≠ gb126))) (fun _ hk => hk.2) (.int .i64 ((rd_T54 x7_2 x29_3).f0))) (fun _ hk => hk.2) (.int .i64 ((rd_T54 x7_2 x29_3).f1))) (fun _ hk => hk.2) (.int .i64 ((rd_T54 x7_2 x29_3).f2))) (fun _ hk => hk.2) (.int .i64 ((rd_T54 x7_2 x29_3).f3))) (fun _ hk => hk.1.2)⟩
             have n3_ : Aside0 (((((w52.setCell ⟨gb126, 0, none⟩ (.int .i64 ((rd_T54 x7_2 x29_3).f0))).setCell ⟨gb126, 1, none⟩ (.int .i64 ((rd_T54 x7_2 x29_3).f1))).setCell ⟨gb126, 2, none⟩ (.int .i64 ((rd_T54 x7_2 x29_3).f2))).setCell ⟨gb126, 3, none⟩ (.int .i64 ((rd_T54 x7_2 x29_3).f3))).heap[gb115]? = some (.cells #[.int .i64 a0_0, .slice A0_1 l0_1.length c0_1] 31 (0, 0))) := ⟨by (with_reducible repeat (first | refine blk_drewN ?_ _ | refine blk_drew ?_ | refine blk_alloc ?_ _)); refine blk_far ?_ NB115_126.out _; (with_reducible repeat (first | refine blk_drewN ?_ _ | refine blk_drew ?_ | refine blk_alloc ?_ _)); refine blk_far ?_ NB115_126.out _; (with_reducible repeat (first | refine blk_drewN ?_ _ | refine blk_drew ?_ | refine blk_alloc ?_ _)); refine blk_far ?_ NB115_126.out _; (with_reducible repeat (first | refine blk_drewN ?_ _ | refine blk_drew ?_ | refine blk_alloc ?_ _)); refine blk_far ?_ NB115_126.out _; (with_reducible repeat (first | refine blk_drewN ?_ _ | refine blk_drew ?_ | refine blk_alloc ?_ _)); exact BK115.out⟩
             have n4_ : Aside0 (((((w52.setCell ⟨gb126, 0, none⟩ (.int .i64 ((rd_T54 x7_2 x29_3).f0))).setCell ⟨gb126, 1, none⟩ (.int .i64 ((rd_T54 x7_2 x29_3).f1))).setCell ⟨gb126, 2, none⟩ (.int .i64 ((rd_T54 x7_2 x29_3).f2))).setCell ⟨gb126, 3, none⟩ (.int .i64 ((rd_T54 x7_2 x29_3).f3))).heap[gb116]? = some (.cells #[.int .i64 x117000_2, .slice none 0 0] 31 (0, 0))) := ⟨by (with_reducible repeat (first | refine blk_drewN ?_ _ | refine blk_drew ?_ | refine blk_alloc ?_ _)); refine blk_far ?_ NB116_126.out _; (with_reducible repeat (first | refine blk_drewN ?_ _ | refine blk_drew ?_ | refine blk_alloc ?_ _)); refine blk_far ?_ NB116_126.out _; (with_reducible repeat (first | refine blk_drewN ?_ _ | refine blk_drew ?_ | refine blk_alloc ?_ _)); refine blk_far ?_ NB116_126.out _; (with_reducible repeat (first | refine blk_drewN ?_ _ | refine blk_drew ?_ | refine blk_alloc ?_ _)); refine blk_far ?_ NB116_126.out _; (with_reducible repeat (first | refine blk_drewN ?_ _ | refine blk_drew ?_ | refine blk_alloc ?_ _)); exact BK116.out⟩
             have n5_ : Aside0 (((((w52.setCell ⟨gb126, 0, none⟩ (.int .i64 ((rd_T54 x7_2 x29_3).f0))).setCell ⟨gb126, 1, none⟩ (.int .i64 ((rd_T54 x7_2 x29_3).f1))).setCell ⟨gb126, 2, none⟩ (.int .i64 ((rd_T54 x7_2 x29_3).f2))).setCell ⟨gb126, 3, none⟩ (.int .i64 ((rd_T54 x7_2 x29_3).f3))).heap[gb126]? = some (.cells #[.int .i64 ((rd_T54 x7_2 x29_3).f0), .int .i64 ((rd_T54 x7_2 x29_3).f1), .int .i64 ((rd_T54 x7_2 x29_3).f2), .int .i64 ((rd_T54 x7_2 x29_3).f3)] 54 (0, 0))) := ⟨by (with_reducible repeat (first | refine blk_drewN ?_ _ | refine blk_drew ?_ | refine blk_alloc ?_ _)); refine blk_put (cs := #[.int .i64 ((rd_T54 x7_2 x29_3).f0), .int .i64 ((rd_T54 x7_2 x29_3).f1), .int .i64 ((rd_T54 x7_2 x29_3).f2), .int .i64 0]) ?_ 3 _ rfl; (with_reducible repeat (first | refine blk_drewN ?_ _ | refine blk_drew ?_ | refine blk_alloc ?_ _)); refine blk_put (cs := #[.int .i64 ((rd_T54 x7_2 x29_3).f0), .int .i64 ((rd_T54 x7_2 x29_3).f1), .int .i64 0, .int .i64 0]) ?_ 2 _ rfl; (with_reducible repeat (first | refine blk_drewN ?_ _ | refine blk_drew ?_ | refine blk_alloc ?_ _)); refine blk_put (cs := #[.int .i64 ((rd_T54 x7_2 x29_3).f0), .int .i64 0, .int .i64 0, .int .i64 0]) ?_ 1 _ rfl; (with_reducible repeat (first | refine blk_drewN ?_ _ | refine blk_drew ?_ | refine blk_alloc ?_ _)); refine blk_put (cs := #[.int .i64 0, .int .i64 0, .int .i64 0, .int .i64 0]) ?_ 0 _ rfl; (with_reducible repeat (first | refine blk_drewN ?_ _ | refine blk_drew ?_ | refine blk_alloc ?_ _)); exact BK126.out⟩
             have n6_ : Aside0 (Below w.heap.size w ((((w52.setCell ⟨gb126, 0, none⟩ (.int .i64 ((rd_T54 x7_2 x29_3).f0))).setCell ⟨gb126, 1, none⟩ (.int .i64 ((rd_T54 x7_2 x29_3).f1))).setCell ⟨gb126, 2, none⟩ (.int .i64 ((rd_T54 x7_2 x29_3).f2))).setCell ⟨gb126, 3, none⟩ (.int .i64 ((rd_T54 x7_2 x29_3).f3)))) := ⟨blw⟩
             (try clear HO_7)
             (try clear HO_8)
             (try clear HO_27)
             (try clear BK115)
             (try clear BK116)
             (try clear BK126)
             (try clear HB)
             generalize ((((w52.setCell ⟨gb126, 0, none⟩ (.int .i64 ((rd_T54 x7_2 x29_3).f0))).setCell ⟨gb126, 1, none⟩ (.int .i64 ((rd_T54 x7_2 x29_3).f1))).setCell ⟨gb126, 2, none⟩ (.int .i64 ((rd_T54 x7_2 x29_3).f2))).setCell ⟨gb126, 3, none⟩ (.int .i64 ((rd_T54 x7_2 x29_3).f3))) = w56 at n0_ n1_ n2_ n3_ n4_ n5_ n6_ ⊢
             have HO_7 := n0_
             have HO_8 := n1_
             have HO_27 := n2_
             have BK115 := n3_
             have BK116 := n4_
             have BK126 := n5_
             have HB := n6_
             clear n0_ n1_ n2_ n3_ n4_ n5_ n6_
             have n0_ := Aside0.mk (Kd.R_drew HO_7.out)
             have n1_ := Aside0.mk (Kd.R_drew HO_8.out)
             have n2_ := Aside0.mk (Kd.R_drew HO_27.out)
             have n3_ := Aside0.mk (blk_drew BK115.out)
             have n4_ := Aside0.mk (blk_drew BK116.out)
             have n5_ := Aside0.mk (blk_drew BK126.out)
             have n6_ := Aside0.mk (below_drew1 HB.out)
             clear HO_7
             clear HO_8
             clear HO_27
             clear BK115
             clear BK116
             clear BK126
             clear HB
             have HO_7 := n0_
             have HO_8 := n1_
             have HO_27 := n2_
             have BK115 := n3_
             have BK116 := n4_
             have BK126 := n5_
             have HB := n6_
             clear n0_ n1_ n2_ n3_ n4_ n5_ n6_
             refine start_ (n := 18) (S := fun w' => w'.cell? ⟨gb126, 0, none⟩ = some (.int .i64 ((rd_T54 x7_2 x29_3).f0)) ∧ w'.cell? ⟨gb126, 1, none⟩ = some (.int .i64 ((rd_T54 x7_2 x29_3).f1)) ∧ w'.cell? ⟨gb126, 2, none⟩ = some (.int .i64 ((rd_T54 x7_2 x29_3).f2)) ∧ w'.cell? ⟨gb126, 3, none⟩ = some (.int .i64 ((rd_T54 x7_2 x29_3).f3))) (ds := []) #[false, false, false, false, false, false, false, false, false, false, false, false, false, false, false, false, false, false] (by kernel_rfl) rfl rfl ⟨(blk_cell BK126.out 0).trans rfl, (blk_cell BK126.out 1).trans rfl, (blk_cell BK126.out 2).trans rfl, (blk_cell BK126.out 3).trans rfl⟩ (fun hHeld => ?_); refine with_tabW spec_RunClock.tab9 spec_RunClock.bits9 (fun HT_ HW_ => ?_)
             generalize w56.drew = w57 at HO_7 HO_8 HO_27 BK115 BK116 BK126 HB hHeld ⊢
             refine pure_ (i := 0) (N := some 34) (v := ?_) (a' := ?_) #[true, false, false, false, false, false, false, false, false, false, false, false, false, false, false, false, false, false] rfl rfl (any_of HT_.out (by kernel_rfl)) (fun _ _ _ h => h) (Or.inl ⟨by rfl, ?_⟩) ?_ ?_
             rotate_left; (· (intro w'; go_simp; with_reducible rfl)); rotate_left; (· (simp only [Act.put, sp1, sp2, sp3, i64_w, i32_w]; rfl))
             refine pure_ (i := 2) (N := some 36) (v := ?_) (a' := ?_) #[true, false, true, false, false, false, false, false, false, false, false, false, false, false, false, false, false, false] rfl rfl (any_of HT_.out (by kernel_rfl)) (fun _ _ _ h => h) (Or.inl ⟨by rfl, ?_⟩) ?_ ?_
             rotate_left; (· (intro w'; go_simp; with_reducible rfl)); rotate_left; (· (simp only [Act.put, sp1, sp2, sp3, i64_w, i32_w]; rfl))
             refine take_ (i := 1) (N := some 35) (v := ?_) (a' := ?_) #[true, true, true, false, false, false, false, false, false, false, false, false, false, false, false, false, false, false] rfl rfl (take_ofW HT_.out HW_.out (by kernel_rfl)) (fun _ _ _ h => h) (Or.inl ⟨by rfl, ?_⟩) hHeld ?_ ?_
             rotate_left; (· (rintro w' ⟨s0, s1, s2, s3⟩; go_simp; with_reducible rfl)); rotate_left; (· (simp only [Act.put, sp1, sp2, sp3, i64_w, i32_w]; rfl))
             refine pure_ (i := 3) (N := some 37) (v := ?_) (a' := ?_) #[true, true, true, true, false, false, false, false, false, false, false, false, false, false, false, false, false, false] rfl rfl (any_of HT_.out (by kernel_rfl)) (fun _ _ _ h => h) (Or.inl ⟨by rfl, ?_⟩) ?_ ?_
             rotate_left; (· (intro w'; go_simp; with_reducible rfl)); rotate_left; (· (simp only [Act.put, sp1, sp2, sp3, i64_w, i32_w]; rfl))
             refine pure_ (i := 4) (N := some 38) (v := ?_) (a' := ?_) #[true, true, true, true, true, false, false, false, false, false, false, false, false, false, false, false, false, false] rfl rfl (any_of HT_.out (by kernel_rfl)) (fun _ _ _ h => h) (Or.inl ⟨by rfl, ?_⟩) ?_ ?_
             rotate_left; (· (intro w'; go_simp; with_reducible rfl)); rotate_left; (· (simp only [Act.put, sp1, sp2, sp3, i64_w, i32_w]; rfl))
             refine pure_ (i := 5) (N := some 39) (v := undef) (a' := ?_) #[true, true, true, true, true, true, false, false, false, false, false, false, false, false, false, false, false, false] rfl rfl (any_of HT_.out (by kernel_rfl)) (fun _ _ _ h => h) (Or.inr ⟨by rfl, rfl⟩) ?_ ?_
             rotate_left
             ·simp only [Act.put, sp1, sp2, sp3, i64_w, i32_w]
              rfl
             refine pure_ (i := 6) (N := some 40) (v := undef) (a' := ?_) #[true, true, true, true, true, true, true, false, false, false, false, false, false, false, false, false, false, false] rfl rfl (any_of HT_.out (by kernel_rfl)) (fun _ _ _ h => h) (Or.inr ⟨by rfl, rfl⟩) ?_ ?_
             rotate_left
             ·simp only [Act.put, sp1, sp2, sp3, i64_w, i32_w]
              rfl
             refine pure_ (i := 7) (N := some 41) (v := undef) (a' := ?_) #[true, true, true, true, true, true, true, true, false, false, false, false, false, false, false, false, false, false] rfl rfl (any_of HT_.out (by kernel_rfl)) (fun _ _ _ h => h) (Or.inr ⟨by rfl, rfl⟩) ?_ ?_
             rotate_left
             ·simp only [Act.put, sp1, sp2, sp3, i64_w, i32_w]
              rfl
             refine pure_ (i := 8) (N := some 42) (v := undef) (a' := ?_) #[true, true, true, true, true, true, true, true, true, false, false, false, false, false, false, false, false, false] rfl rfl (any_of HT_.out (by kernel_rfl)) (fun _ _ _ h => h) (Or.inr ⟨by rfl, rfl⟩) ?_ ?_
             rotate_left
             ·simp only [Act.put, sp1, sp2, sp3, i64_w, i32_w]
              rfl
             refine pure_ (i := 9) (N := some 43) (v := undef) (a' := ?_) #[true, true, true, true, true, true, true, true, true, true, false, false, false, false, false, false, false, false] rfl rfl (any_of HT_.out (by kernel_rfl)) (fun _ _ _ h => h) (Or.inr ⟨by rfl, rfl⟩) ?_ ?_
             rotate_left
             ·simp only [Act.put, sp1, sp2, sp3, i64_w, i32_w]
              rfl
             refine pure_ (i := 10) (N := some 44) (v := undef) (a' := ?_) #[true, true, true, true, true, true, true, true, true, true, true, false, false, false, false, false, false, false] rfl rfl (any_of HT_.out (by kernel_rfl)) (fun _ _ _ h => h) (Or.inr ⟨by rfl, rfl⟩) ?_ ?_
             rotate_left
             ·simp only [Act.put, sp1, sp2, sp3, i64_w, i32_w]
              rfl
             refine pure_ (i := 11) (N := some 45) (v := undef) (a' := ?_) #[true, true, true, true, true, true, true, true, true, true, true, true, false, false, false, false, false, false] rfl rfl (any_of HT_.out (by kernel_rfl)) (fun _ _ _ h => h) (Or.inr ⟨by rfl, rfl⟩) ?_ ?_
             rotate_left
             ·simp only [Act.put, sp1, sp2, sp3, i64_w, i32_w]
              rfl
             refine pure_ (i := 12) (N := some 46) (v := undef) (a' := ?_) #[true, true, true, true, true, true, true, true, true, true, true, true, true, false, false, false, false, false] rfl rfl (any_of HT_.out (by kernel_rfl)) (fun _ _ _ h => h) (Or.inr ⟨by rfl, rfl⟩) ?_ ?_
             rotate_left
             ·simp only [Act.put, sp1, sp2, sp3, i64_w, i32_w]
              rfl
             refine pure_ (i := 13) (N := some 47) (v := undef) (a' := ?_) #[true, true, true, true, true, true, true, true, true, true, true, true, true, true, false, false, false, false] rfl rfl (any_of HT_.out (by kernel_rfl)) (fun _ _ _ h => h) (Or.inr ⟨by rfl, rfl⟩) ?_ ?_
             rotate_left
             ·simp only [Act.put, sp1, sp2, sp3, i64_w, i32_w]
              rfl
             refine pure_ (i := 14) (N := some 48) (v := undef) (a' := ?_) #[true, true, true, true, true, true, true, true, true, true, true, true, true, true, true, false, false, false] rfl rfl (any_of HT_.out (by kernel_rfl)) (fun _ _ _ h => h) (Or.inr ⟨by rfl, rfl⟩) ?_ ?_
             rotate_left
             ·simp only [Act.put, sp1, sp2, sp3, i64_w, i32_w]
              rfl
             refine pure_ (i := 15) (N := some 49) (v := undef) (a' := ?_) #[true, true, true, true, true, true, true, true, true, true, true, true, true, true, true, true, false, false] rfl rfl (any_of HT_.out (by kernel_rfl)) (fun _ _ _ h => h) (Or.inr ⟨by rfl, rfl⟩) ?_ ?_
             rotate_left
             ·simp only [Act.put, sp1, sp2, sp3, i64_w, i32_w]
              rfl
             refine pure_ (i := 16) (N := some 50) (v := undef) (a' := ?_) #[true, true, true, true, true, true, true, true, true, true, true, true, true, true, true, true, true, false] rfl rfl (any_of HT_.out (by kernel_rfl)) (fun _ _ _ h => h) (Or.inr ⟨by rfl, rfl⟩) ?_ ?_
             rotate_left
             ·simp only [Act.put, sp1, sp2, sp3, i64_w, i32_w]
              rfl
             refine pure_ (i := 17) (N := some 51) (v := ?_) (a' := ?_) #[true, true, true, true, true, true, true, true, true, true, true, true, true, true, true, true, true, true] rfl rfl (any_of HT_.out (by kernel_rfl)) (fun _ _ _ h => h) (Or.inl ⟨by rfl, ?_⟩) ?_ ?_
             rotate_left; (· (intro w'; go_simp; with_reducible rfl)); rotate_left; (· (simp only [Act.put, sp1, sp2, sp3, i64_w, i32_w]; rfl))
             refine done_ (done_of HT_.out (by kernel_rfl)) ?_
             try go_wp2
             go_roundg k3
             case measure => have := HJ2.out; have := HK2.out; have := HK3.out; omega
             case rel => exact ⟨(x9_3), (wrap64 (x29_3 + 1)), (by first | rfl | (simp; done) | (simp [*]; done)), (by first | rfl | (simp; done) | (simp [*]; done)), H', ⟨by have := HJ2.out; have := HK2.out; have := HK3.out; omega⟩, ⟨by (with_reducible repeat (first | apply Kd.R_alloc | apply Kd.R_drewN | apply Kd.R_drew)); exact Kd.R_mono HO_7.out (fun _ hk => trivial)⟩, ⟨by (with_reducible repeat (first | apply Kd.R_alloc | apply Kd.R_drewN | apply Kd.R_drew)); exact HO_8.out⟩, ⟨by (with_reducible repeat (first | apply Kd.R_alloc | apply Kd.R_drewN | apply Kd.R_drew)); exact Kd.R_mono HO_27.out (fun _ hk => trivial)⟩, ⟨by (with_reducible repeat (first | refine blk_drewN ?_ _ | refine blk_drew ?_ | refine blk_alloc ?_ _)); exact BK115.out⟩, ⟨by (with_reducible repeat (first | refine blk_drewN ?_ _ | refine blk_drew ?_ | refine blk_alloc ?_ _)); exact BK116.out⟩, ⟨blw⟩⟩
           ·rw [if_neg c28] at H
            exact absurd H (by simp)
          ·rw [if_neg c27] at H
           exact absurd H (by simp)
         ·rw [if_neg c26] at H
          have c26b0 : decide (x29_3 < (x7_2.length : Int)) = false := decide_eq_false c26
          clear c26
          by_cases c58 : x9_3 < 0
          ·rw [if_pos c58] at H
           have c58b0 : decide (x9_3 < 0) = true := decide_eq_true c58
           clear c58
           simp only [Option.some.injEq, Prod.mk.injEq] at H
           obtain ⟨rfl, rfl, rfl, rfl⟩ := H
           have hnb59 := NB116_115.out
           have hnc59 := NB115_116.out
           have hcz60_0 : wr.cell? ⟨gb116, 0, none⟩ = some (.int .i64 x117000_2) := (blk_cell BK116.out 0).trans rfl
           have hcz60_1 : wr.cell? ⟨gb116, 1, none⟩ = some (.slice none 0 0) := (blk_cell BK116.out 1).trans rfl
           have hfz60_0 := blk_frozen BK116.out 0
           have hfz60_1 := blk_frozen BK116.out 1
           go_wp2
           refine bodyPost_ret (results_ctt rfl _ _ gb116 31 #[.int .i64 a1, .slice Ao25 x7_2.length co25] (0, 0) _ rfl (by (with_reducible repeat (first | refine blk_drewN ?_ _ | refine blk_drew ?_ | refine blk_alloc ?_ _)); refine blk_put (cs := #[.int .i64 a1, .slice none 0 0]) ?_ 1 _ rfl; (with_reducible repeat (first | refine blk_drewN ?_ _ | refine blk_drew ?_ | refine blk_alloc ?_ _)); refine blk_put (cs := #[.int .i64 x117000_2, .slice none 0 0]) ?_ 0 _ rfl; (with_reducible repeat (first | refine blk_drewN ?_ _ | refine blk_drew ?_ | refine blk_alloc ?_ _)); exact BK116.out) Try.underlying31 rfl (by kernel_rfl)) rfl ?_
           exact ⟨_, _, by first | rfl | (simp [errW_none, errW_some] <;> rfl) | (simp [*, errW_none, errW_some] <;> rfl), by (with_reducible repeat (first | apply Kd.R_alloc | apply Kd.R_drewN | apply Kd.R_drew)); exact Kd.R_mono (Kd.R_far (p := ⟨gb116, 1, none⟩) (Kd.R_far (p := ⟨gb116, 0, none⟩) (Kd.R_types HO_7.out BK116.out (by decide)) (fun _ hk => hk.2) (.int .i64 a1)) (fun _ hk => hk.2) (.slice Ao25 x7_2.length co25)) (fun _ hk => trivial), by (with_reducible repeat (first | apply Kd.R_alloc | apply Kd.R_drewN | apply Kd.R_drew)); exact Kd.R_mono (Kd.R_far (p := ⟨gb116, 1, none⟩) (Kd.R_far (p := ⟨gb116, 0, none⟩) (Kd.R_types HO_8.out BK116.out (by decide)) (fun _ hk => hk.2) (.int .i64 a1)) (fun _ hk => hk.2) (.slice Ao25 x7_2.length co25)) (fun _ hk => trivial), blw⟩
          ·rw [if_neg c58] at H
           have c58b0 : decide (x9_3 < 0) = false := decide_eq_false c58
           clear c58
           by_cases c61 : (x8_2.length : Int) = 2000
           ·rw [if_pos c61] at H
            have c61b0 : ((x8_2.length : Int) == 2000) = true := beq_iff_eq.mpr c61
            have c61b1 : ((x8_2.length : Int) != 2000) = false := bne_eq_false_iff_eq.mpr c61
            clear c61
            simp only [Option.some.injEq, Prod.mk.injEq] at H
            obtain ⟨rfl, rfl, rfl, rfl⟩ := H
            obtain ⟨Ao62, co62, eo62⟩ := Kd.R_slice HO_8.out
            subst eo62
            have hnb63 := NB116_115.out
            have hnc63 := NB115_116.out
            have hcz64_0 : wr.cell? ⟨gb116, 0, none⟩ = some (.int .i64 x117000_2) := (blk_cell BK116.out 0).trans rfl
            have hcz64_1 : wr.cell? ⟨gb116, 1, none⟩ = some (.slice none 0 0) := (blk_cell BK116.out 1).trans rfl
            have hfz64_0 := blk_frozen BK116.out 0
            have hfz64_1 := blk_frozen BK116.out 1
            go_wp2
            refine bodyPost_ret (results_ctt rfl _ _ gb116 31 #[.int .i64 0, .slice none 0 0] (0, 0) _ rfl (by (with_reducible repeat (first | refine blk_drewN ?_ _ | refine blk_drew ?_ | refine blk_alloc ?_ _)); refine blk_put (cs := #[.int .i64 0, .slice none 0 0]) ?_ 1 _ rfl; (with_reducible repeat (first | refine blk_drewN ?_ _ | refine blk_drew ?_ | refine blk_alloc ?_ _)); refine blk_put (cs := #[.int .i64 x117000_2, .slice none 0 0]) ?_ 0 _ rfl; (with_reducible repeat (first | refine blk_drewN ?_ _ | refine blk_drew ?_ | refine blk_alloc ?_ _)); exact BK116.out) Try.underlying31 rfl (by kernel_rfl)) rfl ?_
            exact ⟨_, _, by first | rfl | (simp [errW_none, errW_some] <;> rfl) | (simp [*, errW_none, errW_some] <;> rfl), by first | exact Kd.R_nil _ _ _ _ _ | exact Kd.N_nil _ _ _ _ _ | exact Kd.V_nil _ _ _ _ _ | exact Kd.Q_nil _ _ _ _ _ | exact Kd.S_nil _ _ _ _ _, by first | exact Kd.R_nil _ _ _ _ _ | exact Kd.N_nil _ _ _ _ _ | exact Kd.V_nil _ _ _ _ _ | exact Kd.Q_nil _ _ _ _ _ | exact Kd.S_nil _ _ _ _ _, blw⟩
           ·rw [if_neg c61] at H
            have c61b0 : ((x8_2.length : Int) == 2000) = false := beq_eq_false_iff_ne.mpr c61
            have c61b1 : ((x8_2.length : Int) != 2000) = true := bne_iff_ne.mpr c61
            by_cases c65 : 0 ≤ x9_3
            ·rw [if_pos c65] at H
             have c65b0 : decide (0 ≤ x9_3) = true := decide_eq_true c65
             clear c65
             by_cases c66 : x9_3 < (x7_2.length : Int)
             ·rw [if_pos c66] at H
              have c66b0 : decide (x9_3 < (x7_2.length : Int)) = true := decide_eq_true c66
              clear c66
              by_cases c67 : x8_2.length < 8796093022208
              ·rw [if_pos c67] at H
               have LMc67 := Aside0.mk c67
               clear c67
               obtain ⟨y130, hy130⟩ : ∃ y_ : List (S56), y_ = (x8_2 ++ [(⟨(rd_T54 x7_2 x9_3).f1, (rd_T54 x7_2 x9_3).f0⟩ : S56)]) := ⟨_, rfl⟩
               replace H : (if ((rd_T54 x7_2 x9_3).f2) > 0 then (if ((rd_T54 x7_2 x9_3).f3) > 1 then ((some (x7_2.set (x9_3 : Int).toNat (⟨(rd_T54 x7_2 x9_3).f0, (rd_T54 x7_2 x9_3).f1, (rd_T54 x7_2 x9_3).f2, wrap64 (((rd_T54 x7_2 x9_3).f3) - 1)⟩ : S54) : List (S54))).bind fun y136 => (spec_RunClock.l0 k3 a1 (y136.set (x9_3 : Int).toNat (⟨(rd_T54 y136 x9_3).f0, wrap64 (((rd_T54 y136 x9_3).f1) + ((rd_T54 y136 x9_3).f2)), (rd_T54 y136 x9_3).f2, (rd_T54 y136 x9_3).f3⟩ : S54)) y130)) else (if x9_3 ≤ (x7_2.length : Int) then (if 0 ≤ (wrap64 (x9_3 + 1)) then (if (wrap64 (x9_3 + 1)) ≤ (x7_2.length : Int) then (spec_RunClock.l0 k3 a1 (x7_2.eraseIdx (x9_3 : Int).toNat) y130) else (none)) else (none)) else (none))) else (if x9_3 ≤ (x7_2.length : Int) then (if 0 ≤ (wrap64 (x9_3 + 1)) then (if (wrap64 (x9_3 + 1)) ≤ (x7_2.length : Int) then (spec_RunClock.l0 k3 a1 (x7_2.eraseIdx (x9_3 : Int).toNat) y130) else (none)) else (none)) else (none))) = some (r1, r2, r3, r4) := by first | (rw [hy130]; with_reducible exact H) | (have H2_ := (Option.bind_some _ _).symm.trans H; rw [hy130]; with_reducible exact H2_) | (have H2_ := (Option.bind_some _ _).symm.trans H; with_reducible exact H2_) | with_reducible exact H | (rw [hy130]; exact H) | exact H
               have Ny130 := Aside0.mk hy130
               clear hy130
               by_cases c68 : ((rd_T54 x7_2 x9_3).f2) > 0
               ·rw [if_pos c68] at H
                have c68b0 : decide (0 < ((rd_T54 x7_2 x9_3).f2)) = true := decide_eq_true c68
                clear c68
                by_cases c69 : ((rd_T54 x7_2 x9_3).f3) > 1
                ·rw [if_pos c69] at H
                 have c69b0 : decide (1 < ((rd_T54 x7_2 x9_3).f3)) = true := decide_eq_true c69
                 clear c69
                 obtain ⟨y136, hy136⟩ : ∃ y_ : List (S54), y_ = (x7_2.set (x9_3 : Int).toNat (⟨(rd_T54 x7_2 x9_3).f0, (rd_T54 x7_2 x9_3).f1, (rd_T54 x7_2 x9_3).f2, wrap64 (((rd_T54 x7_2 x9_3).f3) - 1)⟩ : S54)) := ⟨_, rfl⟩
                 replace H : (spec_RunClock.l0 k3 a1 (y136.set (x9_3 : Int).toNat (⟨(rd_T54 y136 x9_3).f0, wrap64 (((rd_T54 y136 x9_3).f1) + ((rd_T54 y136 x9_3).f2)), (rd_T54 y136 x9_3).f2, (rd_T54 y136 x9_3).f3⟩ : S54)) y130) = some (r1, r2, r3, r4) := by first | (rw [hy136]; with_reducible exact H) | (have H2_ := (Option.bind_some _ _).symm.trans H; rw [hy136]; with_reducible exact H2_) | (have H2_ := (Option.bind_some _ _).symm.trans H; with_reducible exact H2_) | with_reducible exact H | (rw [hy136]; exact H) | exact H
                 have Ny136 := Aside0.mk hy136
                 clear hy136
                 obtain ⟨y139, hy139⟩ : ∃ y_ : List (S54), y_ = (y136.set (x9_3 : Int).toNat (⟨(rd_T54 y136 x9_3).f0, wrap64 (((rd_T54 y136 x9_3).f1) + ((rd_T54 y136 x9_3).f2)), (rd_T54 y136 x9_3).f2, (rd_T54 y136 x9_3).f3⟩ : S54)) := ⟨_, rfl⟩
                 replace H : (spec_RunClock.l0 k3 a1 y139 y130) = some (r1, r2, r3, r4) := by first | (rw [hy139]; with_reducible exact H) | (have H2_ := (Option.bind_some _ _).symm.trans H; rw [hy139]; with_reducible exact H2_) | (have H2_ := (Option.bind_some _ _).symm.trans H; with_reducible exact H2_) | with_reducible exact H | (rw [hy139]; exact H) | exact H
                 have Ny139 := Aside0.mk hy139
                 clear hy139
                 have H' := Aside0.mk H
                 clear H
                 obtain ⟨Ao72, co72, eo72⟩ := Kd.R_slice HO_8.out
                 subst eo72
                 try go_wp2
                 have n0_ := Aside0.mk (Kd.R_drew HO_7.out)
                 have n1_ := Aside0.mk (Kd.R_drew HO_8.out)
                 have n2_ := Aside0.mk (Kd.R_drew HO_27.out)
                 have n3_ := Aside0.mk (blk_drew BK115.out)
                 have n4_ := Aside0.mk (blk_drew BK116.out)
                 have n5_ := Aside0.mk (below_drew1 HB.out)
                 clear HO_7
                 clear HO_8
                 clear HO_27
                 clear BK115
                 clear BK116
                 clear HB
                 have HO_7 := n0_
                 have HO_8 := n1_
                 have HO_27 := n2_
                 have BK115 := n3_
                 have BK116 := n4_
                 have HB := n5_
                 clear n0_ n1_ n2_ n3_ n4_ n5_
                 have p128 : 0 ≤ (x9_3 : Int) := odt
                 have q128 : x9_3 < (x7_2.length : Int) := odt
                 obtain ⟨ad128, e128, hx128_0, hx128_1, hx128_2, hx128_3⟩ := at_T54 (Kd.R_reads' HO_7.out).2.2 x9_3 p128 q128
                 cases e128
                 replace p128 := eq_true p128
                 replace q128 := eq_true q128
                 have p129 : 0 ≤ (x9_3 : Int) := odt
                 have q129 : x9_3 < (x7_2.length : Int) := odt
                 obtain ⟨ad129, e129, hx129_0, hx129_1, hx129_2, hx129_3⟩ := at_T54 (Kd.R_reads' HO_7.out).2.2 x9_3 p129 q129
                 obtain rfl : ad128 = ad129 := (by injection e129)
                 replace p129 := eq_true p129
                 replace q129 := eq_true q129
                 refine start_ (n := 15) (S := fun w' => w'.cell? (ad128.add ((x9_3).toNat * 4)) = some (.int .i64 ((rd_T54 x7_2 x9_3).f0)) ∧ w'.cell? ⟨(ad128.add ((x9_3).toNat * 4)).block, (ad128.add ((x9_3).toNat * 4)).off + 1, none⟩ = some (.int .i64 ((rd_T54 x7_2 x9_3).f1)) ∧ w'.cell? ⟨(ad128.add ((x9_3).toNat * 4)).block, (ad128.add ((x9_3).toNat * 4)).off + 2, none⟩ = some (.int .i64 ((rd_T54 x7_2 x9_3).f2)) ∧ w'.cell? ⟨(ad128.add ((x9_3).toNat * 4)).block, (ad128.add ((x9_3).toNat * 4)).off + 3, none⟩ = some (.int .i64 ((rd_T54 x7_2 x9_3).f3)) ∧ w'.cell? (ad128.add ((x9_3).toNat * 4)) = some (.int .i64 ((rd_T54 x7_2 x9_3).f0)) ∧ w'.cell? ⟨(ad128.add ((x9_3).toNat * 4)).block, (ad128.add ((x9_3).toNat * 4)).off + 1, none⟩ = some (.int .i64 ((rd_T54 x7_2 x9_3).f1)) ∧ w'.cell? ⟨(ad128.add ((x9_3).toNat * 4)).block, (ad128.add ((x9_3).toNat * 4)).off + 2, none⟩ = some (.int .i64 ((rd_T54 x7_2 x9_3).f2)) ∧ w'.cell? ⟨(ad128.add ((x9_3).toNat * 4)).block, (ad128.add ((x9_3).toNat * 4)).off + 3, none⟩ = some (.int .i64 ((rd_T54 x7_2 x9_3).f3))) (ds := [12, 13]) #[false, false, false, false, false, false, false, false, false, false, false, false, false, false, false] (by kernel_rfl) rfl rfl ⟨hx128_0, hx128_1, hx128_2, hx128_3, hx129_0, hx129_1, hx129_2, hx129_3⟩ (fun hHeld => ?_); refine with_tabW spec_RunClock.tab16 spec_RunClock.bits16 (fun HT_ HW_ => ?_)
                 generalize wr.drew = w73 at HO_7 HO_8 HO_27 BK115 BK116 HB hx128_0 hx128_1 hx128_2 hx128_3 hx129_0 hx129_1 hx129_2 hx129_3 hHeld ⊢
                 refine pure_ (i := 0) (N := some 64) (v := ?_) (a' := ?_) #[true, false, false, false, false, false, false, false, false, false, false, false, false, false, false] rfl rfl (any_of HT_.out (by kernel_rfl)) (fun _ _ _ h => h) (Or.inl ⟨by rfl, ?_⟩) ?_ ?_
                 rotate_left; (· (intro w'; go_simp; with_reducible rfl)); rotate_left; (· (simp only [Act.put, sp1, sp2, sp3, i64_w, i32_w]; rfl))
                 refine pure_ (i := 1) (N := some 65) (v := ?_) (a' := ?_) #[true, true, false, false, false, false, false, false, false, false, false, false, false, false, false] rfl rfl (any_of HT_.out (by kernel_rfl)) (fun _ _ _ h => h) (Or.inl ⟨by rfl, ?_⟩) ?_ ?_
                 rotate_left; (· (intro w'; go_simp; with_reducible rfl)); rotate_left; (· (simp only [Act.put, sp1, sp2, sp3, i64_w, i32_w]; rfl))
                 refine pure_ (i := 2) (N := some 66) (v := ?_) (a' := ?_) #[true, true, true, false, false, false, false, false, false, false, false, false, false, false, false] rfl rfl (any_of HT_.out (by kernel_rfl)) (fun _ _ _ h => h) (Or.inl ⟨by rfl, ?_⟩) ?_ ?_
                 rotate_left; (· (intro w'; go_simp; with_reducible rfl)); rotate_left; (· (simp only [Act.put, sp1, sp2, sp3, i64_w, i32_w]; rfl))
                 refine pure_ (i := 3) (N := some 67) (v := ?_) (a' := ?_) #[true, true, true, true, false, false, false, false, false, false, false, false, false, false, false] rfl rfl (any_of HT_.out (by kernel_rfl)) (fun _ _ _ h => h) (Or.inl ⟨by rfl, ?_⟩) ?_ ?_
                 rotate_left; (· (intro w'; go_simp; with_reducible rfl)); rotate_left; (· (simp only [Act.put, sp1, sp2, sp3, i64_w, i32_w]; rfl))
                 refine pure_ (i := 4) (N := some 68) (v := ?_) (a' := ?_) #[true, true, true, true, true, false, false, false, false, false, false, false, false, false, false] rfl rfl (any_of HT_.out (by kernel_rfl)) (fun _ _ _ h => h) (Or.inl ⟨by rfl, ?_⟩) ?_ ?_
                 rotate_left; (· (intro w'; go_simp; with_reducible rfl)); rotate_left; (· (simp only [Act.put, sp1, sp2, sp3, i64_w, i32_w]; rfl))
                 refine pure_ (i := 6) (N := some 70) (v := ?_) (a' := ?_) #[true, true, true, true, true, false, true, false, false, false, false, false, false, false, false] rfl rfl (any_of HT_.out (by kernel_rfl)) (fun _ _ _ h => h) (Or.inl ⟨by rfl, ?_⟩) ?_ ?_
                 rotate_left; (· (intro w'; go_simp; with_reducible rfl)); rotate_left; (· (simp only [Act.put, sp1, sp2, sp3, i64_w, i32_w]; rfl))
                 refine pure_ (i := 7) (N := some 71) (v := ?_) (a' := ?_) #[true, true, true, true, true, false, true, true, false, false, false, false, false, false, false] rfl rfl (any_of HT_.out (by kernel_rfl)) (fun _ _ _ h => h) (Or.inl ⟨by rfl, ?_⟩) ?_ ?_
                 rotate_left; (· (intro w'; go_simp; with_reducible rfl)); rotate_left; (· (simp only [Act.put, sp1, sp2, sp3, i64_w, i32_w]; rfl))
                 refine pure_ (i := 8) (N := some 72) (v := ?_) (a' := ?_) #[true, true, true, true, true, false, true, true, true, false, false, false, false, false, false] rfl rfl (any_of HT_.out (by kernel_rfl)) (fun _ _ _ h => h) (Or.inl ⟨by rfl, ?_⟩) ?_ ?_
                 rotate_left; (· (intro w'; go_simp; with_reducible rfl)); rotate_left; (· (simp only [Act.put, sp1, sp2, sp3, i64_w, i32_w]; rfl))
                 refine pure_ (i := 9) (N := some 73) (v := ?_) (a' := ?_) #[true, true, true, true, true, false, true, true, true, true, false, false, false, false, false] rfl rfl (any_of HT_.out (by kernel_rfl)) (fun _ _ _ h => h) (Or.inl ⟨by rfl, ?_⟩) ?_ ?_
                 rotate_left; (· (intro w'; go_simp; with_reducible rfl)); rotate_left; (· (simp only [Act.put, sp1, sp2, sp3, i64_w, i32_w]; rfl))
                 refine take_ (i := 5) (N := some 69) (v := ?_) (a' := ?_) #[true, true, true, true, true, true, true, true, true, true, false, false, false, false, false] rfl rfl (take_ofW HT_.out HW_.out (by kernel_rfl)) (fun _ _ _ h => h) (Or.inl ⟨by rfl, ?_⟩) hHeld ?_ ?_
                 rotate_left; (· (rintro w' ⟨s0, s1, s2, s3, s4, s5, s6, s7⟩; go_simp; with_reducible rfl)); rotate_left; (· (simp only [Act.put, sp1, sp2, sp3, i64_w, i32_w]; rfl))
                 refine take_ (i := 10) (N := some 74) (v := ?_) (a' := ?_) #[true, true, true, true, true, true, true, true, true, true, true, false, false, false, false] rfl rfl (take_ofW HT_.out HW_.out (by kernel_rfl)) (fun _ _ _ h => h) (Or.inl ⟨by rfl, ?_⟩) hHeld ?_ ?_
                 rotate_left; (· (rintro w' ⟨s0, s1, s2, s3, s4, s5, s6, s7⟩; go_simp; with_reducible rfl)); rotate_left; (· (simp only [Act.put, sp1, sp2, sp3, i64_w, i32_w]; rfl))
                 refine pure_ (i := 11) (N := some 75) (v := ?_) (a' := ?_) #[true, true, true, true, true, true, true, true, true, true, true, true, false, false, false] rfl rfl (any_of HT_.out (by kernel_rfl)) (fun _ _ _ h => h) (Or.inl ⟨by rfl, ?_⟩) ?_ ?_
                 rotate_left; (· (intro w'; go_simp; with_reducible rfl)); rotate_left; (· (simp only [Act.put, sp1, sp2, sp3, i64_w, i32_w]; rfl))
                 refine last_ (i := 12) (N := some 76) #[true, true, true, true, true, true, true, true, true, true, true, true, true, false, false] rfl rfl (one_of HT_.out (by kernel_rfl)) (by decide) (fun K hK => ?_)
                 refine value_ (w1 := ?_) (v := ?_) (by rfl) rfl ?_ ?_
                 rotate_left 2
                 ·go_simp
                  constructor
                  ·rfl
                  ·rfl
                 refine hK.out _ _ ?_
                 clear hK K
                 refine norm_ (a' := ?_) ?_ ?_
                 rotate_left
                 ·show Act.put _ (some 76) _ = _
                  simp only [Act.put, sp1, sp2, sp3, i64_w, i32_w]
                  rfl
                 refine last_ (i := 13) (N := some 77) #[true, true, true, true, true, true, true, true, true, true, true, true, true, true, false] rfl rfl (one_of HT_.out (by kernel_rfl)) (by decide) (fun K hK => ?_)
                 refine Kd.R_append_step k56 (w0 := w) w.heap.size (by rfl) (.tmp 64) (.tmp 76) 32 56 (.agg #[(.int .i64 0), (.int .i64 0)]) 16 rfl Try.underlying32 info56 rfl (by decide) (by omega) (.slice Ao72 x8_2.length co72) x8_2 (⟨(rd_T54 x7_2 x9_3).f1, (rd_T54 x7_2 x9_3).f0⟩ : S56) [.int .i64 ((rd_T54 x7_2 x9_3).f1), .int .i64 ((rd_T54 x7_2 x9_3).f0)] (fun _ => True) (fun _ => False) rfl rfl ?aP (fun _ hk => hk.elim) ?aF ?aO ?aB ?aS ?aL ?_
                 (case aP => exact k56_mkM _ _ _ (⟨(rd_T54 x7_2 x9_3).f1, (rd_T54 x7_2 x9_3).f0⟩ : S56))
                 (case aB => exact blw)
                 (case aF => exact (fun _ _ => trivial))
                 (case aO => exact (by (with_reducible repeat (first | apply Kd.R_alloc | apply Kd.R_drewN | apply Kd.R_drew)); exact HO_8.out))
                 (case aS => exact (below_size blw))
                 (case aL => have := LMc67.out; omega)
                 intro v131 w74 ho hb hg hat
                 rw [← Ny130.out] at ho
                 have n0_ := Aside0.mk (Kd.R_over' (by (with_reducible repeat (first | apply Kd.R_alloc | apply Kd.R_drewN | apply Kd.R_drew)); exact HO_7.out) (Kd.R_typed (by (with_reducible repeat (first | apply Kd.R_alloc | apply Kd.R_drewN | apply Kd.R_drew)); exact HO_8.out)) (by decide) hg)
                 have n1_ := Aside0.mk (Kd.R_over' (by (with_reducible repeat (first | apply Kd.R_alloc | apply Kd.R_drewN | apply Kd.R_drew)); exact HO_27.out) (Kd.R_typed (by (with_reducible repeat (first | apply Kd.R_alloc | apply Kd.R_drewN | apply Kd.R_drew)); exact HO_8.out)) (by decide) hg)
                 have n2_ := Aside0.mk (blk_grown (g := gb115) (o := .cells #[.int .i64 a0_0, .slice A0_1 l0_1.length c0_1] 31 (0, 0)) bkw hg (Kd.R_ne HO_8.out BK115.out (by decide)))
                 have n3_ := Aside0.mk (blk_grown (g := gb116) (o := .cells #[.int .i64 x117000_2, .slice none 0 0] 31 (0, 0)) bkw hg (Kd.R_ne HO_8.out BK116.out (by decide)))
                 have n4_ := Aside0.mk (hb)
                 have n5_ := Aside0.mk (ho)
                 clear HO_7
                 clear HO_27
                 clear BK115
                 clear BK116
                 clear HB
                 clear HO_8
                 have HO_7 := n0_
                 have HO_27 := n1_
                 have BK115 := n2_
                 have BK116 := n3_
                 have HB := n4_
                 have HO132 := n5_
                 clear n0_ n1_ n2_ n3_ n4_ n5_
                 clear ho hb hg hat
                 refine hK.out _ _ ?_
                 clear hK K
                 refine norm_ (a' := ?_) ?_ ?_
                 rotate_left
                 ·show Act.put _ (some 77) _ = _
                  simp only [Act.put, sp1, sp2, sp3, i64_w, i32_w]
                  rfl
                 refine pure_ (i := 14) (N := some 8) (v := ?_) (a' := ?_) #[true, true, true, true, true, true, true, true, true, true, true, true, true, true, true] rfl rfl (any_of HT_.out (by kernel_rfl)) (fun _ _ _ h => h) (Or.inl ⟨by rfl, ?_⟩) ?_ ?_
                 rotate_left; (· (intro w'; go_simp; with_reducible rfl)); rotate_left; (· (simp only [Act.put, sp1, sp2, sp3, i64_w, i32_w]; rfl))
                 refine done_ (done_of HT_.out (by kernel_rfl)) ?_
                 have p133 : 0 ≤ (x9_3 : Int) := odt
                 have q133 : x9_3 < (x7_2.length : Int) := odt
                 obtain ⟨ad133, e133, hx133_0, hx133_1, hx133_2, hx133_3⟩ := at_T54 (Kd.R_reads' HO_7.out).2.2 x9_3 p133 q133
                 obtain rfl : ad128 = ad133 := (by injection e133)
                 replace p133 := eq_true p133
                 replace q133 := eq_true q133
                 have p134 : 0 ≤ (x9_3 : Int) := odt
                 have q134 : x9_3 < (x7_2.length : Int) := odt
                 obtain ⟨ad134, e134, hx134_0, hx134_1, hx134_2, hx134_3⟩ := at_T54 (Kd.R_reads' HO_7.out).2.2 x9_3 p134 q134
                 obtain rfl : ad128 = ad134 := (by injection e134)
                 replace p134 := eq_true p134
                 replace q134 := eq_true q134
                 have p135 : 0 ≤ (x9_3 : Int) := odt
                 have q135 : x9_3 < (x7_2.length : Int) := odt
                 obtain ⟨ad135, e135, hx135_0, hx135_1, hx135_2, hx135_3⟩ := at_T54 (Kd.R_reads' HO_7.out).2.2 x9_3 p135 q135
                 obtain rfl : ad128 = ad135 := (by injection e135)
                 replace p135 := eq_true p135
                 replace q135 := eq_true q135
                 have p70 : 0 ≤ (x9_3 : Int) := odt
                 have q70 : (x9_3 : Int) < ((x7_2.length : Int) : Int) := odt
                 obtain ⟨go70, co70, eo70, gb70, gl70, cl70, HG70⟩ := Kd.R_form HO_7.out (by omega)
                 (first | cases eo70 | (injection eo70 with ea_ en_ ec_; (first | subst ea_ | (injection ea_ with ea_; subst ea_)); subst ec_; clear en_))
                 have GB70 := Aside0.mk gb70
                 have GG70 := Aside0.mk HG70
                 clear gb70 gl70 HG70
                 (first | simp only [add_plain] at hx128_0 | skip)
                 (first | simp only [add_plain] at hx128_1 | skip)
                 (first | simp only [add_plain] at hx128_2 | skip)
                 (first | simp only [add_plain] at hx128_3 | skip)
                 (first | simp only [add_plain] at hx129_0 | skip)
                 (first | simp only [add_plain] at hx129_1 | skip)
                 (first | simp only [add_plain] at hx129_2 | skip)
                 (first | simp only [add_plain] at hx129_3 | skip)
                 (first | simp only [add_plain] at hx133_0 | skip)
                 (first | simp only [add_plain] at hx133_1 | skip)
                 (first | simp only [add_plain] at hx133_2 | skip)
                 (first | simp only [add_plain] at hx133_3 | skip)
                 (first | simp only [add_plain] at hx134_0 | skip)
                 (first | simp only [add_plain] at hx134_1 | skip)
                 (first | simp only [add_plain] at hx134_2 | skip)
                 (first | simp only [add_plain] at hx134_3 | skip)
                 (first | simp only [add_plain] at hx135_0 | skip)
                 (first | simp only [add_plain] at hx135_1 | skip)
                 (first | simp only [add_plain] at hx135_2 | skip)
                 (first | simp only [add_plain] at hx135_3 | skip)
                 obtain ⟨ce70, hcl70, hM70, hcc70, hfr70⟩ := Kd.R_elem HO_7.out z54 (x9_3 : Int) p70 q70
                 obtain rfl := k54_openM hM70
                 have hx70_0 : w74.cell? ⟨go70, (x9_3 : Int).toNat * 4, none⟩ = some (.int .i64 ((rd_T54 x7_2 x9_3).f0)) := hcc70 0 _ rfl
                 have hx70_1 : w74.cell? ⟨go70, (x9_3 : Int).toNat * 4 + 1, none⟩ = some (.int .i64 ((rd_T54 x7_2 x9_3).f1)) := hcc70 1 _ rfl
                 have hx70_2 : w74.cell? ⟨go70, (x9_3 : Int).toNat * 4 + 2, none⟩ = some (.int .i64 ((rd_T54 x7_2 x9_3).f2)) := hcc70 2 _ rfl
                 have hx70_3 : w74.cell? ⟨go70, (x9_3 : Int).toNat * 4 + 3, none⟩ = some (.int .i64 ((rd_T54 x7_2 x9_3).f3)) := hcc70 3 _ rfl
                 have hf70_0 : w74.frozen? ⟨go70, (x9_3 : Int).toNat * 4, none⟩ = false := hfr70 0
                 have hf70_1 : w74.frozen? ⟨go70, (x9_3 : Int).toNat * 4 + 1, none⟩ = false := hfr70 1
                 have hf70_2 : w74.frozen? ⟨go70, (x9_3 : Int).toNat * 4 + 2, none⟩ = false := hfr70 2
                 have hf70_3 : w74.frozen? ⟨go70, (x9_3 : Int).toNat * 4 + 3, none⟩ = false := hfr70 3
                 clear hcl70 hcc70 hfr70 hM70
                 replace p70 := eq_true p70
                 replace q70 := eq_true q70
                 have HX75 := Aside0.mk (show Kd.R k54 54 w74 w.heap.size (fun _ => True) (.slice (some ⟨go70, 0, none⟩) x7_2.length co25) x7_2 from (by (with_reducible repeat (first | apply Kd.R_alloc | apply Kd.R_drewN | apply Kd.R_drew)); exact HO_7.out))
                 obtain ⟨ce75, hcl75, hM75, hcc75, hfr75⟩ := Kd.R_elem HX75.out z54 (x9_3 : Int) odt (by have h_ : (x9_3 : Int) < ((x7_2.length : Int) : Int) := odt; first | exact h_ | (have e_ := (Kd.R_reads' HO_7.out).1; omega) | simpa using h_)
                 obtain rfl := k54_openM hM75
                 have HP75 := Kd.R_seg HX75.out (x9_3 : Int) odt (by have h_ : (x9_3 : Int) < ((x7_2.length : Int) : Int) := odt; first | exact h_ | (have e_ := (Kd.R_reads' HO_7.out).1; omega) | simpa using h_) (seg := [.int .i64 (wrap64 (((rd_T54 x7_2 x9_3).f3) - 1))]) (j := 3) hcl75 hcc75 (show 4 ≤ 4 from by decide) (x' := (⟨(rd_T54 x7_2 x9_3).f0, (rd_T54 x7_2 x9_3).f1, (rd_T54 x7_2 x9_3).f2, wrap64 (((rd_T54 x7_2 x9_3).f3) - 1)⟩ : S54)) (k54_mkM _ _ _ (⟨(rd_T54 x7_2 x9_3).f0, (rd_T54 x7_2 x9_3).f1, (rd_T54 x7_2 x9_3).f2, wrap64 (((rd_T54 x7_2 x9_3).f3) - 1)⟩ : S54) ) (fun _ hk => hk)
                 have hx75_3 := hcc75 3 _ rfl
                 (try simp only [show (k54).sz = 4 from rfl, Nat.mul_one, Nat.add_zero] at hx75_3)
                 have hf75_3 := hfr75 3
                 (try simp only [show (k54).sz = 4 from rfl, Nat.mul_one, Nat.add_zero] at hf75_3)
                 clear hcl75 hcc75 hfr75 hM75
                 try go_wp2_with (first | ((with_reducible refine gate_store (t := 3) (p := 99) rfl ?_); refine store_event (t := 3) (p := 99) (v := ?vo_w76) (w1 := (w74.setCell ⟨go70, (x9_3 : Int).toNat * 4 + 3, none⟩ (.int .i64 (wrap64 (((rd_T54 x7_2 x9_3).f3) - 1))))) ?hg ?ho ?hn ?hr ?_; (case ho => rfl); (case hg => rfl); (case hn => rfl); (case hr => first | (go_simp; done) | (go_simp; rfl)); intro w76 hw; have hg : w74.grownBy w76 (some go70) := (by rw [hw]; exact HP75.2); have hp_ : Kd.R k54 54 w76 w.heap.size (fun _ => True) (.slice (some ⟨go70, 0, none⟩) x7_2.length co25) y136 := (by rw [hw, Ny136.out]; exact HP75.1); clear HP75; have n0_ := Aside0.mk (hp_); have n1_ := Aside0.mk (HO_27.out); have n2_ := Aside0.mk (blk_grown (g := gb115) (o := .cells #[.int .i64 a0_0, .slice A0_1 l0_1.length c0_1] 31 (0, 0)) bkw hg (Kd.R_ne HO_7.out BK115.out (by decide))); have n3_ := Aside0.mk (blk_grown (g := gb116) (o := .cells #[.int .i64 x117000_2, .slice none 0 0] 31 (0, 0)) bkw hg (Kd.R_ne HO_7.out BK116.out (by decide))); have n4_ := Aside0.mk (Kd.R_over' (v := (.slice (some ⟨go70, 0, none⟩) x7_2.length co25)) (by (with_reducible repeat (first | apply Kd.R_alloc | apply Kd.R_drewN | apply Kd.R_drew)); exact HO132.out) (Kd.R_typed HO_7.out) (by decide) hg); have n5_ := Aside0.mk ((by rw [hw]; exact below_set (HB.out) GB70.out : Below w.heap.size w w76)); clear HO_7; clear HO_27; clear BK115; clear BK116; clear HO132; clear HB; have HO_7 := n0_; have HO_27 := n1_; have BK115 := n2_; have BK116 := n3_; have HO132 := n4_; have HB := n5_; clear n0_ n1_ n2_ n3_ n4_ n5_; clear hg hw hp_))
                 have n0_ := Aside0.mk (Kd.R_drew HO_7.out)
                 have n1_ := Aside0.mk (Kd.R_drew HO_27.out)
                 have n2_ := Aside0.mk (Kd.R_drew HO132.out)
                 have n3_ := Aside0.mk (blk_drew BK115.out)
                 have n4_ := Aside0.mk (blk_drew BK116.out)
                 have n5_ := Aside0.mk (below_drew1 HB.out)
                 clear HO_7
                 clear HO_27
                 clear HO132
                 clear BK115
                 clear BK116
                 clear HB
                 have HO_7 := n0_
                 have HO_27 := n1_
                 have HO132 := n2_
                 have BK115 := n3_
                 have BK116 := n4_
                 have HB := n5_
                 clear n0_ n1_ n2_ n3_ n4_ n5_
                 have p137 : 0 ≤ (x9_3 : Int) := odt
                 have q137 : x9_3 < (y136.length : Int) := (by have h_ : (x9_3 : Int) < ((x7_2.length : Int) : Int) := odt; first | (have e_ := (Kd.R_reads' HO_7.out).1; omega) | simpa only [Ny136.out, List.length_set] using h_)
                 have ql137 : ((x9_3 : Int) < ((x7_2.length : Int) : Int)) = True := eq_true odt
                 obtain ⟨ad137, e137, hx137_0, hx137_1, hx137_2, hx137_3⟩ := at_T54 (Kd.R_reads' HO_7.out).2.2 x9_3 p137 q137
                 obtain rfl : (⟨go70, 0, none⟩ : Addr) = ad137 := (by injection e137)
                 (first | simp only [add_plain] at hx137_0 | simp only [add_at] at hx137_0 | simp only [Addr.add, Nat.zero_add] at hx137_0 | skip)
                 (first | simp only [add_plain] at hx137_1 | simp only [add_at] at hx137_1 | simp only [Addr.add, Nat.zero_add] at hx137_1 | skip)
                 (first | simp only [add_plain] at hx137_2 | simp only [add_at] at hx137_2 | simp only [Addr.add, Nat.zero_add] at hx137_2 | skip)
                 (first | simp only [add_plain] at hx137_3 | simp only [add_at] at hx137_3 | simp only [Addr.add, Nat.zero_add] at hx137_3 | skip)
                 replace p137 := eq_true p137
                 replace q137 := eq_true q137
                 have p138 : 0 ≤ (x9_3 : Int) := odt
                 have q138 : x9_3 < (y136.length : Int) := (by have h_ : (x9_3 : Int) < ((x7_2.length : Int) : Int) := odt; first | (have e_ := (Kd.R_reads' HO_7.out).1; omega) | simpa only [Ny136.out, List.length_set] using h_)
                 have ql138 : ((x9_3 : Int) < ((x7_2.length : Int) : Int)) = True := eq_true odt
                 obtain ⟨ad138, e138, hx138_0, hx138_1, hx138_2, hx138_3⟩ := at_T54 (Kd.R_reads' HO_7.out).2.2 x9_3 p138 q138
                 obtain rfl : (⟨go70, 0, none⟩ : Addr) = ad138 := (by injection e138)
                 (first | simp only [add_plain] at hx138_0 | simp only [add_at] at hx138_0 | simp only [Addr.add, Nat.zero_add] at hx138_0 | skip)
                 (first | simp only [add_plain] at hx138_1 | simp only [add_at] at hx138_1 | simp only [Addr.add, Nat.zero_add] at hx138_1 | skip)
                 (first | simp only [add_plain] at hx138_2 | simp only [add_at] at hx138_2 | simp only [Addr.add, Nat.zero_add] at hx138_2 | skip)
                 (first | simp only [add_plain] at hx138_3 | simp only [add_at] at hx138_3 | simp only [Addr.add, Nat.zero_add] at hx138_3 | skip)
                 replace p138 := eq_true p138
                 replace q138 := eq_true q138
                 have p71 : 0 ≤ (x9_3 : Int) := odt
                 have q71 : (x9_3 : Int) < ((x7_2.length : Int) : Int) := odt
                 obtain ⟨ce71, hcl71, hM71, hcc71, hfr71⟩ := Kd.R_elem HO_7.out z54 (x9_3 : Int) p71 q71
                 obtain rfl := k54_openM hM71
                 have hx71_0 : World.cell? _ ⟨go70, (x9_3 : Int).toNat * 4, none⟩ = some (.int .i64 ((rd_T54 y136 x9_3).f0)) := hcc71 0 _ rfl
                 have hx71_1 : World.cell? _ ⟨go70, (x9_3 : Int).toNat * 4 + 1, none⟩ = some (.int .i64 ((rd_T54 y136 x9_3).f1)) := hcc71 1 _ rfl
                 have hx71_2 : World.cell? _ ⟨go70, (x9_3 : Int).toNat * 4 + 2, none⟩ = some (.int .i64 ((rd_T54 y136 x9_3).f2)) := hcc71 2 _ rfl
                 have hx71_3 : World.cell? _ ⟨go70, (x9_3 : Int).toNat * 4 + 3, none⟩ = some (.int .i64 ((rd_T54 y136 x9_3).f3)) := hcc71 3 _ rfl
                 have hf71_0 : World.frozen? _ ⟨go70, (x9_3 : Int).toNat * 4, none⟩ = false := hfr71 0
                 have hf71_1 : World.frozen? _ ⟨go70, (x9_3 : Int).toNat * 4 + 1, none⟩ = false := hfr71 1
                 have hf71_2 : World.frozen? _ ⟨go70, (x9_3 : Int).toNat * 4 + 2, none⟩ = false := hfr71 2
                 have hf71_3 : World.frozen? _ ⟨go70, (x9_3 : Int).toNat * 4 + 3, none⟩ = false := hfr71 3
                 clear hcl71 hcc71 hfr71 hM71
                 replace p71 := eq_true p71
                 replace q71 := eq_true q71
                 obtain ⟨ce78, hcl78, hM78, hcc78, hfr78⟩ := Kd.R_elem HO_7.out z54 (x9_3 : Int) odt (by have h_ : (x9_3 : Int) < ((x7_2.length : Int) : Int) := odt; first | exact h_ | (have e_ := (Kd.R_reads' HO_7.out).1; omega) | simpa using h_)
                 obtain rfl := k54_openM hM78
                 have HP78 := (Kd.R_seg HO_7.out (x9_3 : Int) odt (by have h_ : (x9_3 : Int) < ((x7_2.length : Int) : Int) := odt; first | exact h_ | (have e_ := (Kd.R_reads' HO_7.out).1; omega) | simpa using h_) (seg := [.int .i64 (wrap64 (((rd_T54 y136 x9_3).f1) + ((rd_T54 y136 x9_3).f2)))]) (j := 1) hcl78 hcc78 (show 2 ≤ 4 from by decide) (x' := (⟨(rd_T54 y136 x9_3).f0, wrap64 (((rd_T54 y136 x9_3).f1) + ((rd_T54 y136 x9_3).f2)), (rd_T54 y136 x9_3).f2, (rd_T54 y136 x9_3).f3⟩ : S54)) (k54_mkM _ _ _ (⟨(rd_T54 y136 x9_3).f0, wrap64 (((rd_T54 y136 x9_3).f1) + ((rd_T54 y136 x9_3).f2)), (rd_T54 y136 x9_3).f2, (rd_T54 y136 x9_3).f3⟩ : S54) ) (fun _ hk => hk)).1
                 rw [← Ny139.out] at HP78
                 have HQ78 := Aside0.mk HP78
                 clear hcl78 hcc78 hfr78 hM78 HP78
                 refine start_ (n := 14) (S := fun w' => w'.cell? ⟨go70, (x9_3).toNat * 4, none⟩ = some (.int .i64 ((rd_T54 y136 x9_3).f0)) ∧ w'.cell? ⟨go70, (x9_3).toNat * 4 + 1, none⟩ = some (.int .i64 ((rd_T54 y136 x9_3).f1)) ∧ w'.cell? ⟨go70, (x9_3).toNat * 4 + 2, none⟩ = some (.int .i64 ((rd_T54 y136 x9_3).f2)) ∧ w'.cell? ⟨go70, (x9_3).toNat * 4 + 3, none⟩ = some (.int .i64 ((rd_T54 y136 x9_3).f3)) ∧ w'.cell? ⟨go70, (x9_3).toNat * 4, none⟩ = some (.int .i64 ((rd_T54 y136 x9_3).f0)) ∧ w'.cell? ⟨go70, (x9_3).toNat * 4 + 1, none⟩ = some (.int .i64 ((rd_T54 y136 x9_3).f1)) ∧ w'.cell? ⟨go70, (x9_3).toNat * 4 + 2, none⟩ = some (.int .i64 ((rd_T54 y136 x9_3).f2)) ∧ w'.cell? ⟨go70, (x9_3).toNat * 4 + 3, none⟩ = some (.int .i64 ((rd_T54 y136 x9_3).f3))) (ds := [13]) #[false, false, false, false, false, false, false, false, false, false, false, false, false, false] (by kernel_rfl) rfl rfl ⟨hx137_0, hx137_1, hx137_2, hx137_3, hx138_0, hx138_1, hx138_2, hx138_3⟩ (fun hHeld => ?_); refine with_tabW spec_RunClock.tab19 spec_RunClock.bits19 (fun HT_ HW_ => ?_)
                 generalize w76.drew = w77 at HO_7 HO_27 HO132 BK115 BK116 HB HQ78 hf71_0 hf71_1 hf71_2 hf71_3 hx137_0 hx137_1 hx137_2 hx137_3 hx138_0 hx138_1 hx138_2 hx138_3 hx71_0 hx71_1 hx71_2 hx71_3 hHeld ⊢
                 refine pure_ (i := 0) (N := some 100) (v := ?_) (a' := ?_) #[true, false, false, false, false, false, false, false, false, false, false, false, false, false] rfl rfl (any_of HT_.out (by kernel_rfl)) (fun _ _ _ h => h) (Or.inl ⟨by rfl, ?_⟩) ?_ ?_
                 rotate_left; (· (intro w'; go_simp; with_reducible rfl)); rotate_left; (· (simp only [Act.put, sp1, sp2, sp3, i64_w, i32_w]; rfl))
                 refine pure_ (i := 1) (N := some 101) (v := ?_) (a' := ?_) #[true, true, false, false, false, false, false, false, false, false, false, false, false, false] rfl rfl (any_of HT_.out (by kernel_rfl)) (fun _ _ _ h => h) (Or.inl ⟨by rfl, ?_⟩) ?_ ?_
                 rotate_left; (· (intro w'; go_simp; with_reducible rfl)); rotate_left; (· (simp only [Act.put, sp1, sp2, sp3, i64_w, i32_w]; rfl))
                 refine pure_ (i := 2) (N := some 102) (v := ?_) (a' := ?_) #[true, true, true, false, false, false, false, false, false, false, false, false, false, false] rfl rfl (any_of HT_.out (by kernel_rfl)) (fun _ _ _ h => h) (Or.inl ⟨by rfl, ?_⟩) ?_ ?_
                 rotate_left; (· (intro w'; go_simp; with_reducible rfl)); rotate_left; (· (simp only [Act.put, sp1, sp2, sp3, i64_w, i32_w]; rfl))
                 refine pure_ (i := 3) (N := some 103) (v := ?_) (a' := ?_) #[true, true, true, true, false, false, false, false, false, false, false, false, false, false] rfl rfl (any_of HT_.out (by kernel_rfl)) (fun _ _ _ h => h) (Or.inl ⟨by rfl, ?_⟩) ?_ ?_
                 rotate_left; (· (intro w'; go_simp; with_reducible rfl)); rotate_left; (· (simp only [Act.put, sp1, sp2, sp3, i64_w, i32_w]; rfl))
                 refine pure_ (i := 5) (N := some 105) (v := ?_) (a' := ?_) #[true, true, true, true, false, true, false, false, false, false, false, false, false, false] rfl rfl (any_of HT_.out (by kernel_rfl)) (fun _ _ _ h => h) (Or.inl ⟨by rfl, ?_⟩) ?_ ?_
                 rotate_left; (· (intro w'; go_simp; with_reducible rfl)); rotate_left; (· (simp only [Act.put, sp1, sp2, sp3, i64_w, i32_w]; rfl))
                 refine pure_ (i := 6) (N := some 106) (v := ?_) (a' := ?_) #[true, true, true, true, false, true, true, false, false, false, false, false, false, false] rfl rfl (any_of HT_.out (by kernel_rfl)) (fun _ _ _ h => h) (Or.inl ⟨by rfl, ?_⟩) ?_ ?_
                 rotate_left; (· (intro w'; go_simp; with_reducible rfl)); rotate_left; (· (simp only [Act.put, sp1, sp2, sp3, i64_w, i32_w]; rfl))
                 refine pure_ (i := 7) (N := some 107) (v := ?_) (a' := ?_) #[true, true, true, true, false, true, true, true, false, false, false, false, false, false] rfl rfl (any_of HT_.out (by kernel_rfl)) (fun _ _ _ h => h) (Or.inl ⟨by rfl, ?_⟩) ?_ ?_
                 rotate_left; (· (intro w'; go_simp; with_reducible rfl)); rotate_left; (· (simp only [Act.put, sp1, sp2, sp3, i64_w, i32_w]; rfl))
                 refine pure_ (i := 8) (N := some 108) (v := ?_) (a' := ?_) #[true, true, true, true, false, true, true, true, true, false, false, false, false, false] rfl rfl (any_of HT_.out (by kernel_rfl)) (fun _ _ _ h => h) (Or.inl ⟨by rfl, ?_⟩) ?_ ?_
                 rotate_left; (· (intro w'; go_simp; with_reducible rfl)); rotate_left; (· (simp only [Act.put, sp1, sp2, sp3, i64_w, i32_w]; rfl))
                 refine take_ (i := 4) (N := some 104) (v := ?_) (a' := ?_) #[true, true, true, true, true, true, true, true, true, false, false, false, false, false] rfl rfl (take_ofW HT_.out HW_.out (by kernel_rfl)) (fun _ _ _ h => h) (Or.inl ⟨by rfl, ?_⟩) hHeld ?_ ?_
                 rotate_left; (· (rintro w' ⟨s0, s1, s2, s3, s4, s5, s6, s7⟩; go_simp; with_reducible rfl)); rotate_left; (· (simp only [Act.put, sp1, sp2, sp3, i64_w, i32_w]; rfl))
                 refine take_ (i := 9) (N := some 109) (v := ?_) (a' := ?_) #[true, true, true, true, true, true, true, true, true, true, false, false, false, false] rfl rfl (take_ofW HT_.out HW_.out (by kernel_rfl)) (fun _ _ _ h => h) (Or.inl ⟨by rfl, ?_⟩) hHeld ?_ ?_
                 rotate_left; (· (rintro w' ⟨s0, s1, s2, s3, s4, s5, s6, s7⟩; go_simp; with_reducible rfl)); rotate_left; (· (simp only [Act.put, sp1, sp2, sp3, i64_w, i32_w]; rfl))
                 refine pure_ (i := 10) (N := some 110) (v := ?_) (a' := ?_) #[true, true, true, true, true, true, true, true, true, true, true, false, false, false] rfl rfl (any_of HT_.out (by kernel_rfl)) (fun _ _ _ h => h) (Or.inl ⟨by rfl, ?_⟩) ?_ ?_
                 rotate_left; (· (intro w'; go_simp; with_reducible rfl)); rotate_left; (· (simp only [Act.put, sp1, sp2, sp3, i64_w, i32_w]; rfl))
                 refine pure_ (i := 11) (N := some 111) (v := ?_) (a' := ?_) #[true, true, true, true, true, true, true, true, true, true, true, true, false, false] rfl rfl (any_of HT_.out (by kernel_rfl)) (fun _ _ _ h => h) (Or.inl ⟨by rfl, ?_⟩) ?_ ?_
                 rotate_left; (· (intro w'; go_simp; with_reducible rfl)); rotate_left; (· (simp only [Act.put, sp1, sp2, sp3, i64_w, i32_w]; rfl))
                 refine pure_ (i := 12) (N := some 112) (v := ?_) (a' := ?_) #[true, true, true, true, true, true, true, true, true, true, true, true, true, false] rfl rfl (any_of HT_.out (by kernel_rfl)) (fun _ _ _ h => h) (Or.inl ⟨by rfl, ?_⟩) ?_ ?_
                 rotate_left; (· (intro w'; go_simp; with_reducible rfl)); rotate_left; (· (simp only [Act.put, sp1, sp2, sp3, i64_w, i32_w]; rfl))
                 refine last_ (i := 13) (N := none) #[true, true, true, true, true, true, true, true, true, true, true, true, true, true] rfl rfl (one_of HT_.out (by kernel_rfl)) (by decide) (fun K hK => ?_)
                 refine skip_ (w1 := ?_) (by rfl) rfl ?_ ?_
                 rotate_left
                 ·go_simp
                  rfl
                 refine hK.out _ _ ?_
                 clear hK K
                 refine done_ (done_of HT_.out (by kernel_rfl)) ?_
                 try go_wp2
                 obtain ⟨gx_, cx_, ex_, _, _, clx_, HGx_⟩ := Kd.R_form HO_7.out (by have h_ := of_eq_true q138; have p_ := of_eq_true p138; omega)
                 have hx_ : gx_ = go70 := (by injection ex_ with ea_; injection ea_ with ea_; injection ea_ with ea_; exact ea_.symm)
                 rw [hx_] at HGx_
                 go_roundg k3
                 case measure => have := HJ2.out; have := HK2.out; have := HK3.out; omega
                 case rel => exact ⟨(y139), (y130), (x117000_2), H', ⟨by have := HJ2.out; have := HK2.out; have := HK3.out; omega⟩, ⟨by (with_reducible repeat (first | apply Kd.R_alloc | apply Kd.R_drewN | apply Kd.R_drew)); exact HQ78.out⟩, ⟨by (with_reducible repeat (first | apply Kd.R_alloc | apply Kd.R_drewN | apply Kd.R_drew)); exact Kd.R_mono (Kd.R_far (p := ⟨go70, (x9_3 : Int).toNat * 4 + 1, none⟩) (Kd.R_types HO132.out HGx_ (by decide)) (fun _ hk => hk.2) (.int .i64 (wrap64 (((rd_T54 y136 x9_3).f1) + ((rd_T54 y136 x9_3).f2))))) (fun _ hk => trivial)⟩, ⟨by (with_reducible repeat (first | refine blk_drewN ?_ _ | refine blk_drew ?_ | refine blk_alloc ?_ _)); refine blk_far ?_ (by have h_ := Kd.R_ne HO_7.out BK115.out (by decide); intro e_; exact h_ (by rw [e_]; rfl)) _; (with_reducible repeat (first | refine blk_drewN ?_ _ | refine blk_drew ?_ | refine blk_alloc ?_ _)); exact BK115.out⟩, ⟨by (with_reducible repeat (first | refine blk_drewN ?_ _ | refine blk_drew ?_ | refine blk_alloc ?_ _)); refine blk_far ?_ (by have h_ := Kd.R_ne HO_7.out BK116.out (by decide); intro e_; exact h_ (by rw [e_]; rfl)) _; (with_reducible repeat (first | refine blk_drewN ?_ _ | refine blk_drew ?_ | refine blk_alloc ?_ _)); exact BK116.out⟩, ⟨blw⟩⟩
                ·rw [if_neg c69] at H
                 have c69b0 : decide (1 < ((rd_T54 x7_2 x9_3).f3)) = false := decide_eq_false c69
                 clear c69
                 have c79b0 := eq_true (odt : 0 ≤ x9_3)
                 by_cases c80 : x9_3 ≤ (x7_2.length : Int)
                 ·rw [if_pos c80] at H
                  have c80b0 := eq_true c80
                  have c80b1 : decide (x9_3 ≤ (x7_2.length : Int)) = true := decide_eq_true c80
                  clear c80
                  obtain ⟨y140, hy140⟩ : ∃ y_ : List (S54), y_ = (x7_2.take (x9_3 : Int).toNat) := ⟨_, rfl⟩
                  replace H : (if 0 ≤ (wrap64 (x9_3 + 1)) then (if (wrap64 (x9_3 + 1)) ≤ (x7_2.length : Int) then (spec_RunClock.l0 k3 a1 (x7_2.eraseIdx (x9_3 : Int).toNat) y130) else (none)) else (none)) = some (r1, r2, r3, r4) := by first | (rw [hy140]; with_reducible exact H) | (have H2_ := (Option.bind_some _ _).symm.trans H; rw [hy140]; with_reducible exact H2_) | (have H2_ := (Option.bind_some _ _).symm.trans H; with_reducible exact H2_) | with_reducible exact H | (rw [hy140]; exact H) | exact H
                  have Ny140 := Aside0.mk hy140
                  clear hy140
                  obtain ⟨ji81, hji81⟩ : ∃ j_ : Int, (wrap64 (x9_3 + 1)) = j_ := ⟨_, rfl⟩
                  replace H : (if 0 ≤ (ji81) then (if (ji81) ≤ (x7_2.length : Int) then (spec_RunClock.l0 k3 a1 (x7_2.eraseIdx (x9_3 : Int).toNat) y130) else (none)) else (none)) = some (r1, r2, r3, r4) := by first | (rw [hji81] at H; exact H) | (simp only [hji81] at H ⊢; exact H)
                  have hji81w : (IntKind.i64.wrap (x9_3 + 1)) = ji81 := (i64_w _).trans hji81
                  by_cases c82 : 0 ≤ (ji81)
                  ·rw [if_pos c82] at H
                   have c82b0 := eq_true c82
                   have c82b1 : decide (0 ≤ (ji81)) = true := decide_eq_true c82
                   clear c82
                   by_cases c83 : (ji81) ≤ (x7_2.length : Int)
                   ·rw [if_pos c83] at H
                    have c83b0 := eq_true c83
                    have c83b1 : decide ((ji81) ≤ (x7_2.length : Int)) = true := decide_eq_true c83
                    clear c83
                    obtain ⟨y144, hy144⟩ : ∃ y_ : List (S54), y_ = (x7_2.drop ((ji81) : Int).toNat) := ⟨_, rfl⟩
                    replace H : (spec_RunClock.l0 k3 a1 (x7_2.eraseIdx (x9_3 : Int).toNat) y130) = some (r1, r2, r3, r4) := by first | (rw [hy144]; with_reducible exact H) | (have H2_ := (Option.bind_some _ _).symm.trans H; rw [hy144]; with_reducible exact H2_) | (have H2_ := (Option.bind_some _ _).symm.trans H; with_reducible exact H2_) | with_reducible exact H | (rw [hy144]; exact H) | exact H
                    have Ny144 := Aside0.mk hy144
                    clear hy144
                    obtain ⟨y148, hy148⟩ : ∃ y_ : List (S54), y_ = (x7_2.eraseIdx (x9_3 : Int).toNat) := ⟨_, rfl⟩
                    replace H : (spec_RunClock.l0 k3 a1 y148 y130) = some (r1, r2, r3, r4) := by first | (rw [hy148]; with_reducible exact H) | (have H2_ := (Option.bind_some _ _).symm.trans H; rw [hy148]; with_reducible exact H2_) | (have H2_ := (Option.bind_some _ _).symm.trans H; with_reducible exact H2_) | with_reducible exact H | (rw [hy148]; exact H) | exact H
                    have Ny148 := Aside0.mk hy148
                    clear hy148
                    have H' := Aside0.mk H
                    clear H
                    obtain ⟨Ao84, co84, eo84⟩ := Kd.R_slice HO_8.out
                    subst eo84
                    try go_wp2
                    have n0_ := Aside0.mk (Kd.R_drew HO_7.out)
                    have n1_ := Aside0.mk (Kd.R_drew HO_8.out)
                    have n2_ := Aside0.mk (Kd.R_drew HO_27.out)
                    have n3_ := Aside0.mk (blk_drew BK115.out)
                    have n4_ := Aside0.mk (blk_drew BK116.out)
                    have n5_ := Aside0.mk (below_drew1 HB.out)
                    clear HO_7
                    clear HO_8
                    clear HO_27
                    clear BK115
                    clear BK116
                    clear HB
                    have HO_7 := n0_
                    have HO_8 := n1_
                    have HO_27 := n2_
                    have BK115 := n3_
                    have BK116 := n4_
                    have HB := n5_
                    clear n0_ n1_ n2_ n3_ n4_ n5_
                    have p128 : 0 ≤ (x9_3 : Int) := odt
                    have q128 : x9_3 < (x7_2.length : Int) := odt
                    obtain ⟨ad128, e128, hx128_0, hx128_1, hx128_2, hx128_3⟩ := at_T54 (Kd.R_reads' HO_7.out).2.2 x9_3 p128 q128
                    cases e128
                    replace p128 := eq_true p128
                    replace q128 := eq_true q128
                    have p129 : 0 ≤ (x9_3 : Int) := odt
                    have q129 : x9_3 < (x7_2.length : Int) := odt
                    obtain ⟨ad129, e129, hx129_0, hx129_1, hx129_2, hx129_3⟩ := at_T54 (Kd.R_reads' HO_7.out).2.2 x9_3 p129 q129
                    obtain rfl : ad128 = ad129 := (by injection e129)
                    replace p129 := eq_true p129
                    replace q129 := eq_true q129
                    refine start_ (n := 15) (S := fun w' => w'.cell? (ad128.add ((x9_3).toNat * 4)) = some (.int .i64 ((rd_T54 x7_2 x9_3).f0)) ∧ w'.cell? ⟨(ad128.add ((x9_3).toNat * 4)).block, (ad128.add ((x9_3).toNat * 4)).off + 1, none⟩ = some (.int .i64 ((rd_T54 x7_2 x9_3).f1)) ∧ w'.cell? ⟨(ad128.add ((x9_3).toNat * 4)).block, (ad128.add ((x9_3).toNat * 4)).off + 2, none⟩ = some (.int .i64 ((rd_T54 x7_2 x9_3).f2)) ∧ w'.cell? ⟨(ad128.add ((x9_3).toNat * 4)).block, (ad128.add ((x9_3).toNat * 4)).off + 3, none⟩ = some (.int .i64 ((rd_T54 x7_2 x9_3).f3)) ∧ w'.cell? (ad128.add ((x9_3).toNat * 4)) = some (.int .i64 ((rd_T54 x7_2 x9_3).f0)) ∧ w'.cell? ⟨(ad128.add ((x9_3).toNat * 4)).block, (ad128.add ((x9_3).toNat * 4)).off + 1, none⟩ = some (.int .i64 ((rd_T54 x7_2 x9_3).f1)) ∧ w'.cell? ⟨(ad128.add ((x9_3).toNat * 4)).block, (ad128.add ((x9_3).toNat * 4)).off + 2, none⟩ = some (.int .i64 ((rd_T54 x7_2 x9_3).f2)) ∧ w'.cell? ⟨(ad128.add ((x9_3).toNat * 4)).block, (ad128.add ((x9_3).toNat * 4)).off + 3, none⟩ = some (.int .i64 ((rd_T54 x7_2 x9_3).f3))) (ds := [12, 13]) #[false, false, false, false, false, false, false, false, false, false, false, false, false, false, false] (by kernel_rfl) rfl rfl ⟨hx128_0, hx128_1, hx128_2, hx128_3, hx129_0, hx129_1, hx129_2, hx129_3⟩ (fun hHeld => ?_); refine with_tabW spec_RunClock.tab16 spec_RunClock.bits16 (fun HT_ HW_ => ?_)
                    generalize wr.drew = w85 at HO_7 HO_8 HO_27 BK115 BK116 HB hx128_0 hx128_1 hx128_2 hx128_3 hx129_0 hx129_1 hx129_2 hx129_3 hHeld ⊢
                    refine pure_ (i := 0) (N := some 64) (v := ?_) (a' := ?_) #[true, false, false, false, false, false, false, false, false, false, false, false, false, false, false] rfl rfl (any_of HT_.out (by kernel_rfl)) (fun _ _ _ h => h) (Or.inl ⟨by rfl, ?_⟩) ?_ ?_
                    rotate_left; (· (intro w'; go_simp; with_reducible rfl)); rotate_left; (· (simp only [Act.put, sp1, sp2, sp3, i64_w, i32_w]; rfl))
                    refine pure_ (i := 1) (N := some 65) (v := ?_) (a' := ?_) #[true, true, false, false, false, false, false, false, false, false, false, false, false, false, false] rfl rfl (any_of HT_.out (by kernel_rfl)) (fun _ _ _ h => h) (Or.inl ⟨by rfl, ?_⟩) ?_ ?_
                    rotate_left; (· (intro w'; go_simp; with_reducible rfl)); rotate_left; (· (simp only [Act.put, sp1, sp2, sp3, i64_w, i32_w]; rfl))
                    refine pure_ (i := 2) (N := some 66) (v := ?_) (a' := ?_) #[true, true, true, false, false, false, false, false, false, false, false, false, false, false, false] rfl rfl (any_of HT_.out (by kernel_rfl)) (fun _ _ _ h => h) (Or.inl ⟨by rfl, ?_⟩) ?_ ?_
                    rotate_left; (· (intro w'; go_simp; with_reducible rfl)); rotate_left; (· (simp only [Act.put, sp1, sp2, sp3, i64_w, i32_w]; rfl))
                    refine pure_ (i := 3) (N := some 67) (v := ?_) (a' := ?_) #[true, true, true, true, false, false, false, false, false, false, false, false, false, false, false] rfl rfl (any_of HT_.out (by kernel_rfl)) (fun _ _ _ h => h) (Or.inl ⟨by rfl, ?_⟩) ?_ ?_
                    rotate_left; (· (intro w'; go_simp; with_reducible rfl)); rotate_left; (· (simp only [Act.put, sp1, sp2, sp3, i64_w, i32_w]; rfl))
                    refine pure_ (i := 4) (N := some 68) (v := ?_) (a' := ?_) #[true, true, true, true, true, false, false, false, false, false, false, false, false, false, false] rfl rfl (any_of HT_.out (by kernel_rfl)) (fun _ _ _ h => h) (Or.inl ⟨by rfl, ?_⟩) ?_ ?_
                    rotate_left; (· (intro w'; go_simp; with_reducible rfl)); rotate_left; (· (simp only [Act.put, sp1, sp2, sp3, i64_w, i32_w]; rfl))
                    refine pure_ (i := 6) (N := some 70) (v := ?_) (a' := ?_) #[true, true, true, true, true, false, true, false, false, false, false, false, false, false, false] rfl rfl (any_of HT_.out (by kernel_rfl)) (fun _ _ _ h => h) (Or.inl ⟨by rfl, ?_⟩) ?_ ?_
                    rotate_left; (· (intro w'; go_simp; with_reducible rfl)); rotate_left; (· (simp only [Act.put, sp1, sp2, sp3, i64_w, i32_w]; rfl))
                    refine pure_ (i := 7) (N := some 71) (v := ?_) (a' := ?_) #[true, true, true, true, true, false, true, true, false, false, false, false, false, false, false] rfl rfl (any_of HT_.out (by kernel_rfl)) (fun _ _ _ h => h) (Or.inl ⟨by rfl, ?_⟩) ?_ ?_
                    rotate_left; (· (intro w'; go_simp; with_reducible rfl)); rotate_left; (· (simp only [Act.put, sp1, sp2, sp3, i64_w, i32_w]; rfl))
                    refine pure_ (i := 8) (N := some 72) (v := ?_) (a' := ?_) #[true, true, true, true, true, false, true, true, true, false, false, false, false, false, false] rfl rfl (any_of HT_.out (by kernel_rfl)) (fun _ _ _ h => h) (Or.inl ⟨by rfl, ?_⟩) ?_ ?_
                    rotate_left; (· (intro w'; go_simp; with_reducible rfl)); rotate_left; (· (simp only [Act.put, sp1, sp2, sp3, i64_w, i32_w]; rfl))
                    refine pure_ (i := 9) (N := some 73) (v := ?_) (a' := ?_) #[true, true, true, true, true, false, true, true, true, true, false, false, false, false, false] rfl rfl (any_of HT_.out (by kernel_rfl)) (fun _ _ _ h => h) (Or.inl ⟨by rfl, ?_⟩) ?_ ?_
                    rotate_left; (· (intro w'; go_simp; with_reducible rfl)); rotate_left; (· (simp only [Act.put, sp1, sp2, sp3, i64_w, i32_w]; rfl))
                    refine take_ (i := 5) (N := some 69) (v := ?_) (a' := ?_) #[true, true, true, true, true, true, true, true, true, true, false, false, false, false, false] rfl rfl (take_ofW HT_.out HW_.out (by kernel_rfl)) (fun _ _ _ h => h) (Or.inl ⟨by rfl, ?_⟩) hHeld ?_ ?_
                    rotate_left; (· (rintro w' ⟨s0, s1, s2, s3, s4, s5, s6, s7⟩; go_simp; with_reducible rfl)); rotate_left; (· (simp only [Act.put, sp1, sp2, sp3, i64_w, i32_w]; rfl))
                    refine take_ (i := 10) (N := some 74) (v := ?_) (a' := ?_) #[true, true, true, true, true, true, true, true, true, true, true, false, false, false, false] rfl rfl (take_ofW HT_.out HW_.out (by kernel_rfl)) (fun _ _ _ h => h) (Or.inl ⟨by rfl, ?_⟩) hHeld ?_ ?_
                    rotate_left; (· (rintro w' ⟨s0, s1, s2, s3, s4, s5, s6, s7⟩; go_simp; with_reducible rfl)); rotate_left; (· (simp only [Act.put, sp1, sp2, sp3, i64_w, i32_w]; rfl))
                    refine pure_ (i := 11) (N := some 75) (v := ?_) (a' := ?_) #[true, true, true, true, true, true, true, true, true, true, true, true, false, false, false] rfl rfl (any_of HT_.out (by kernel_rfl)) (fun _ _ _ h => h) (Or.inl ⟨by rfl, ?_⟩) ?_ ?_
                    rotate_left; (· (intro w'; go_simp; with_reducible rfl)); rotate_left; (· (simp only [Act.put, sp1, sp2, sp3, i64_w, i32_w]; rfl))
                    refine last_ (i := 12) (N := some 76) #[true, true, true, true, true, true, true, true, true, true, true, true, true, false, false] rfl rfl (one_of HT_.out (by kernel_rfl)) (by decide) (fun K hK => ?_)
                    refine value_ (w1 := ?_) (v := ?_) (by rfl) rfl ?_ ?_
                    rotate_left 2
                    ·go_simp
                     constructor
                     ·rfl
                     ·rfl
                    refine hK.out _ _ ?_
                    clear hK K
                    refine norm_ (a' := ?_) ?_ ?_
                    rotate_left
                    ·show Act.put _ (some 76) _ = _
                     simp only [Act.put, sp1, sp2, sp3, i64_w, i32_w]
                     rfl
                    refine last_ (i := 13) (N := some 77) #[true, true, true, true, true, true, true, true, true, true, true, true, true, true, false] rfl rfl (one_of HT_.out (by kernel_rfl)) (by decide) (fun K hK => ?_)
                    refine Kd.R_append_step k56 (w0 := w) w.heap.size (by rfl) (.tmp 64) (.tmp 76) 32 56 (.agg #[(.int .i64 0), (.int .i64 0)]) 16 rfl Try.underlying32 info56 rfl (by decide) (by omega) (.slice Ao84 x8_2.length co84) x8_2 (⟨(rd_T54 x7_2 x9_3).f1, (rd_T54 x7_2 x9_3).f0⟩ : S56) [.int .i64 ((rd_T54 x7_2 x9_3).f1), .int .i64 ((rd_T54 x7_2 x9_3).f0)] (fun _ => True) (fun _ => False) rfl rfl ?aP (fun _ hk => hk.elim) ?aF ?aO ?aB ?aS ?aL ?_
                    (case aP => exact k56_mkM _ _ _ (⟨(rd_T54 x7_2 x9_3).f1, (rd_T54 x7_2 x9_3).f0⟩ : S56))
                    (case aB => exact blw)
                    (case aF => exact (fun _ _ => trivial))
                    (case aO => exact (by (with_reducible repeat (first | apply Kd.R_alloc | apply Kd.R_drewN | apply Kd.R_drew)); exact HO_8.out))
                    (case aS => exact (below_size blw))
                    (case aL => have := LMc67.out; omega)
                    intro v131 w86 ho hb hg hat
                    rw [← Ny130.out] at ho
                    have n0_ := Aside0.mk (Kd.R_over' (by (with_reducible repeat (first | apply Kd.R_alloc | apply Kd.R_drewN | apply Kd.R_drew)); exact HO_7.out) (Kd.R_typed (by (with_reducible repeat (first | apply Kd.R_alloc | apply Kd.R_drewN | apply Kd.R_drew)); exact HO_8.out)) (by decide) hg)
                    have n1_ := Aside0.mk (Kd.R_over' (by (with_reducible repeat (first | apply Kd.R_alloc | apply Kd.R_drewN | apply Kd.R_drew)); exact HO_27.out) (Kd.R_typed (by (with_reducible repeat (first | apply Kd.R_alloc | apply Kd.R_drewN | apply Kd.R_drew)); exact HO_8.out)) (by decide) hg)
                    have n2_ := Aside0.mk (blk_grown (g := gb115) (o := .cells #[.int .i64 a0_0, .slice A0_1 l0_1.length c0_1] 31 (0, 0)) bkw hg (Kd.R_ne HO_8.out BK115.out (by decide)))
                    have n3_ := Aside0.mk (blk_grown (g := gb116) (o := .cells #[.int .i64 x117000_2, .slice none 0 0] 31 (0, 0)) bkw hg (Kd.R_ne HO_8.out BK116.out (by decide)))
                    have n4_ := Aside0.mk (hb)
                    have n5_ := Aside0.mk (ho)
                    clear HO_7
                    clear HO_27
                    clear BK115
                    clear BK116
                    clear HB
                    clear HO_8
                    have HO_7 := n0_
                    have HO_27 := n1_
                    have BK115 := n2_
                    have BK116 := n3_
                    have HB := n4_
                    have HO132 := n5_
                    clear n0_ n1_ n2_ n3_ n4_ n5_
                    clear ho hb hg hat
                    refine hK.out _ _ ?_
                    clear hK K
                    refine norm_ (a' := ?_) ?_ ?_
                    rotate_left
                    ·show Act.put _ (some 77) _ = _
                     simp only [Act.put, sp1, sp2, sp3, i64_w, i32_w]
                     rfl
                    refine pure_ (i := 14) (N := some 8) (v := ?_) (a' := ?_) #[true, true, true, true, true, true, true, true, true, true, true, true, true, true, true] rfl rfl (any_of HT_.out (by kernel_rfl)) (fun _ _ _ h => h) (Or.inl ⟨by rfl, ?_⟩) ?_ ?_
                    rotate_left; (· (intro w'; go_simp; with_reducible rfl)); rotate_left; (· (simp only [Act.put, sp1, sp2, sp3, i64_w, i32_w]; rfl))
                    refine done_ (done_of HT_.out (by kernel_rfl)) ?_
                    have p133 : 0 ≤ (x9_3 : Int) := odt
                    have q133 : x9_3 < (x7_2.length : Int) := odt
                    obtain ⟨ad133, e133, hx133_0, hx133_1, hx133_2, hx133_3⟩ := at_T54 (Kd.R_reads' HO_7.out).2.2 x9_3 p133 q133
                    obtain rfl : ad128 = ad133 := (by injection e133)
                    replace p133 := eq_true p133
                    replace q133 := eq_true q133
                    have p134 : 0 ≤ (x9_3 : Int) := odt
                    have q134 : x9_3 < (x7_2.length : Int) := odt
                    obtain ⟨ad134, e134, hx134_0, hx134_1, hx134_2, hx134_3⟩ := at_T54 (Kd.R_reads' HO_7.out).2.2 x9_3 p134 q134
                    obtain rfl : ad128 = ad134 := (by injection e134)
                    replace p134 := eq_true p134
                    replace q134 := eq_true q134
                    try go_wp2
                    have n0_ := Aside0.mk (Kd.R_drew HO_7.out)
                    have n1_ := Aside0.mk (Kd.R_drew HO_27.out)
                    have n2_ := Aside0.mk (Kd.R_drew HO132.out)
                    have n3_ := Aside0.mk (blk_drew BK115.out)
                    have n4_ := Aside0.mk (blk_drew BK116.out)
                    have n5_ := Aside0.mk (below_drew1 HB.out)
                    clear HO_7
                    clear HO_27
                    clear HO132
                    clear BK115
                    clear BK116
                    clear HB
                    have HO_7 := n0_
                    have HO_27 := n1_
                    have HO132 := n2_
                    have BK115 := n3_
                    have BK116 := n4_
                    have HB := n5_
                    clear n0_ n1_ n2_ n3_ n4_ n5_
                    have q88 : (x9_3 : Int) ≤ ((x7_2.length : Int) : Int) := odt
                    obtain ⟨i088, hi088, _, hsz88, _⟩ := info_parts info54
                    have hroom88 : x7_2.length ≤ co25 := (Kd.R_reads' HO_7.out).2.1
                    have hC88 : Kd.C k54 _ (some ad128) x7_2.length x7_2 := (Kd.R_reads' HO_7.out).2.2
                    have hcut88 := cut_to (P := Try.prog) 29 54 .i64 Try.underlying29 hi088 (some ad128) x7_2.length co25 x9_3 odt q88 hroom88
                    have hr88 := Kd.C_take (m := (x9_3 : Int).toNat) hC88 (by omega)
                    have hy88 : y140.length = (x9_3 : Int).toNat := (by rw [Ny140.out, List.length_take]; omega)
                    rw [← Ny140.out] at hr88
                    rw [← hy88] at hcut88
                    have HR143 := Aside0.mk hr88
                    have HC143 := Aside0.mk (show y140.length ≤ co25 from by omega)
                    clear hr88 hC88 hroom88 hi088 hsz88
                    have KY88 := Aside0.mk hy88
                    clear hy88
                    have KL88 := Aside0.mk (show (x9_3 : Int).toNat ≤ x7_2.length from by omega)
                    replace q88 := eq_true q88
                    have q89 : ((ji81) : Int) ≤ ((x7_2.length : Int) : Int) := odt
                    obtain ⟨i089, hi089, _, hsz89, _⟩ := info_parts info54
                    have hroom89 : x7_2.length ≤ co25 := (Kd.R_reads' HO_7.out).2.1
                    have hC89 : Kd.C k54 _ (some ad128) x7_2.length x7_2 := (Kd.R_reads' HO_7.out).2.2
                    have q089 : (0 : Int) ≤ ((ji81) : Int) := odt
                    have hcut89 := cut_from (P := Try.prog) 29 54 .i64 Try.underlying29 hi089 4 hsz89 (some ad128) x7_2.length co25 (ji81) q089 q89
                    have hr89 := Kd.C_drop (m := ((ji81) : Int).toNat) (c := co25) hC89 (by omega) hroom89
                    obtain ⟨A89, hA89⟩ : ∃ A1, A1 = (if co25 = ((ji81) : Int).toNat then (some ad128) else ((some ad128) : Option Addr).map (·.add (((ji81) : Int).toNat * 4))) := ⟨_, rfl⟩
                    obtain ⟨c89, hc89⟩ : ∃ c1, c1 = co25 - ((ji81) : Int).toNat := ⟨_, rfl⟩
                    have hy89 : y144.length = x7_2.length - ((ji81) : Int).toNat := (by rw [Ny144.out, List.length_drop] <;> omega)
                    rw [show (x7_2).drop ((ji81) : Int).toNat = y144 from Ny144.out.symm] at hr89
                    replace hr89 : Kd.C k54 _ A89 y144.length y144 := (by rw [hA89]; exact hr89)
                    rw [← hy89, ← hA89, ← hc89] at hcut89
                    have HR147 := Aside0.mk hr89
                    have HC147 := Aside0.mk (show y144.length ≤ c89 from by rw [hy89, hc89]; exact Nat.sub_le_sub_right hroom89 _)
                    clear hr89 hC89 hroom89 hi089 hsz89 hc89
                    have KY89 := Aside0.mk hy89
                    have KA89 := Aside0.mk hA89
                    clear hy89 hA89
                    have KL89 := Aside0.mk (show ((ji81) : Int).toNat ≤ x7_2.length from by omega)
                    replace q89 := eq_true q89
                    obtain ⟨go91, co91, eo91, gb91, gl91, cl91, HG91⟩ := Kd.R_form HO_7.out (by have hj_ : 0 ≤ (x9_3 : Int) := odt; have hl_ : (ji81 : Int) ≤ (x7_2.length : Int) := odt; have hh_ : (x9_3 : Int) ≤ (x7_2.length : Int) := odt; rw [← hji81] at hl_; unfold wrap64 at hl_; omega)
                    (first | cases eo91 | (injection eo91 with ea_ en_ ec_; (first | subst ea_ | (injection ea_ with ea_; subst ea_)); subst ec_; clear en_))
                    have GB91 := Aside0.mk gb91
                    have GG91 := Aside0.mk HG91
                    clear gb91 gl91 HG91
                    (first | simp only [add_plain] at hx128_0 | skip)
                    (first | simp only [add_plain] at hx128_1 | skip)
                    (first | simp only [add_plain] at hx128_2 | skip)
                    (first | simp only [add_plain] at hx128_3 | skip)
                    (first | simp only [add_plain] at hx129_0 | skip)
                    (first | simp only [add_plain] at hx129_1 | skip)
                    (first | simp only [add_plain] at hx129_2 | skip)
                    (first | simp only [add_plain] at hx129_3 | skip)
                    (first | simp only [add_plain] at hx133_0 | skip)
                    (first | simp only [add_plain] at hx133_1 | skip)
                    (first | simp only [add_plain] at hx133_2 | skip)
                    (first | simp only [add_plain] at hx133_3 | skip)
                    (first | simp only [add_plain] at hx134_0 | skip)
                    (first | simp only [add_plain] at hx134_1 | skip)
                    (first | simp only [add_plain] at hx134_2 | skip)
                    (first | simp only [add_plain] at hx134_3 | skip)
                    refine start_ (n := 9) (S := fun w' => True) (ds := []) #[false, false, false, false, false, false, false, false, false] (by kernel_rfl) rfl rfl trivial (fun hHeld => ?_); refine with_tabW spec_RunClock.tab20 spec_RunClock.bits20 (fun HT_ HW_ => ?_)
                    generalize w86.drew = w87 at HO_7 HO_27 HO132 BK115 BK116 HB GG91 HR143 HR147 hx128_0 hx128_1 hx128_2 hx128_3 hx129_0 hx129_1 hx129_2 hx129_3 hx133_0 hx133_1 hx133_2 hx133_3 hx134_0 hx134_1 hx134_2 hx134_3 hHeld ⊢
                    refine pure_ (i := 0) (N := some 113) (v := ?_) (a' := ?_) #[true, false, false, false, false, false, false, false, false] rfl rfl (any_of HT_.out (by kernel_rfl)) (fun _ _ _ h => h) (Or.inl ⟨by rfl, ?_⟩) ?_ ?_
                    rotate_left; (· (intro w'; go_simp; with_reducible rfl)); rotate_left; (· (simp only [Act.put, sp1, sp2, sp3, i64_w, i32_w]; rfl))
                    refine pure_ (i := 1) (N := some 114) (v := ?_) (a' := ?_) #[true, true, false, false, false, false, false, false, false] rfl rfl (any_of HT_.out (by kernel_rfl)) (fun _ _ _ h => h) (Or.inl ⟨by rfl, ?_⟩) ?_ ?_
                    rotate_left; (· (intro w'; go_simp; with_reducible rfl)); rotate_left; (· (simp only [Act.put, sp1, sp2, sp3, i64_w, i32_w]; rfl))
                    refine pure_ (i := 2) (N := some 115) (v := ?_) (a' := ?_) #[true, true, true, false, false, false, false, false, false] rfl rfl (any_of HT_.out (by kernel_rfl)) (fun _ _ _ h => h) (Or.inl ⟨by rfl, ?_⟩) ?_ ?_
                    rotate_left; (· (intro w'; go_simp; with_reducible rfl)); rotate_left; (· (simp only [Act.put, sp1, sp2, sp3, i64_w, i32_w]; rfl))
                    refine pure_ (i := 3) (N := some 116) (v := ?_) (a' := ?_) #[true, true, true, true, false, false, false, false, false] rfl rfl (any_of HT_.out (by kernel_rfl)) (fun _ _ _ h => h) (Or.inl ⟨by rfl, ?_⟩) ?_ ?_
                    rotate_left; (· (intro w'; go_simp; with_reducible rfl)); rotate_left; (· (simp only [Act.put, sp1, sp2, sp3, i64_w, i32_w]; rfl))
                    refine pure_ (i := 4) (N := some 117) (v := ?_) (a' := ?_) #[true, true, true, true, true, false, false, false, false] rfl rfl (any_of HT_.out (by kernel_rfl)) (fun _ _ _ h => h) (Or.inl ⟨by rfl, ?_⟩) ?_ ?_
                    rotate_left; (· (intro w'; go_simp; with_reducible rfl)); rotate_left; (· (simp only [Act.put, sp1, sp2, sp3, i64_w, i32_w]; rfl))
                    refine pure_ (i := 5) (N := some 118) (v := ?_) (a' := ?_) #[true, true, true, true, true, true, false, false, false] rfl rfl (any_of HT_.out (by kernel_rfl)) (fun _ _ _ h => h) (Or.inl ⟨by rfl, ?_⟩) ?_ ?_
                    rotate_left; (· (intro w'; go_simp; with_reducible rfl)); rotate_left; (· (simp only [Act.put, sp1, sp2, sp3, i64_w, i32_w]; rfl))
                    refine pure_ (i := 6) (N := some 119) (v := ?_) (a' := ?_) #[true, true, true, true, true, true, true, false, false] rfl rfl (any_of HT_.out (by kernel_rfl)) (fun _ _ _ h => h) (Or.inl ⟨by rfl, ?_⟩) ?_ ?_
                    rotate_left; (· (intro w'; go_simp; with_reducible rfl)); rotate_left; (· (simp only [Act.put, sp1, sp2, sp3, i64_w, i32_w]; rfl))
                    refine one_ (i := 7) (N := some 120) #[true, true, true, true, true, true, true, true, false] rfl rfl (one_of HT_.out (by kernel_rfl)) (by decide) (fun K hK => ?_)
                    have hj_ : 0 ≤ (x9_3 : Int) := odt
                    have hl_ : (ji81 : Int) ≤ (x7_2.length : Int) := odt
                    have hh_ : (x9_3 : Int) ≤ (x7_2.length : Int) := odt
                    have hb_ := (Kd.R_reads' HO_7.out).2.2.2.1
                    have h0_ : (0 : Int) ≤ (ji81 : Int) := odt
                    have hy1_ := KY88.out
                    have hk_ : (ji81 : Int).toNat = y140.length + 1 := (by have hw_ : (ji81 : Int) = x9_3 + 1 := (by have h00_ := h0_; rw [← hji81] at h00_ ⊢; unfold wrap64 at h00_ ⊢; omega); rw [hw_]; omega)
                    refine Kd.R_delete_step k54 (w0 := w) w.heap.size (by rfl) (.tmp 115) (.tmp 119) 29 54 rfl Try.underlying29 (by kernel_rfl) (g := go91) (n := x7_2.length) (c := co25) (k := y140.length) rfl rfl ?hA ?hm (by (with_reducible repeat (first | apply Kd.R_alloc | apply Kd.R_drewN | apply Kd.R_drew)); exact HO_7.out) ?hk blw (below_size blw) ?_
                    (case hA => have ha_ := KA89.out; rw [hk_] at ha_; exact ha_)
                    (case hm => have ha_ := KY89.out; omega)
                    (case hk => omega)
                    intro w90 ho hb hg
                    clear hj_ hl_ hh_ hb_ hk_ h0_
                    rw [hy1_, ← Ny148.out] at ho
                    clear hy1_
                    have hn_ : x7_2.length - 1 = y148.length := (by have := (Kd.R_reads' ho).1; omega)
                    rw [hn_] at ho ⊢
                    clear hn_
                    have n0_ := Aside0.mk (ho)
                    have n1_ := Aside0.mk (HO_27.out)
                    have n2_ := Aside0.mk (blk_grown (g := gb115) (o := .cells #[.int .i64 a0_0, .slice A0_1 l0_1.length c0_1] 31 (0, 0)) bkw hg (Kd.R_ne HO_7.out BK115.out (by decide)))
                    have n3_ := Aside0.mk (blk_grown (g := gb116) (o := .cells #[.int .i64 x117000_2, .slice none 0 0] 31 (0, 0)) bkw hg (Kd.R_ne HO_7.out BK116.out (by decide)))
                    have n4_ := Aside0.mk (Kd.R_over' (v := (.slice (some ⟨go91, 0, none⟩) x7_2.length co25)) (by (with_reducible repeat (first | apply Kd.R_alloc | apply Kd.R_drewN | apply Kd.R_drew)); exact HO132.out) (Kd.R_typed HO_7.out) (by decide) hg)
                    have n5_ := Aside0.mk (hb)
                    clear HO_7
                    clear HO_27
                    clear BK115
                    clear BK116
                    clear HO132
                    clear HB
                    have HO_7 := n0_
                    have HO_27 := n1_
                    have BK115 := n2_
                    have BK116 := n3_
                    have HO132 := n4_
                    have HB := n5_
                    clear n0_ n1_ n2_ n3_ n4_ n5_
                    clear ho hb hg
                    refine hK.out _ _ trivial (fun hHeld => ?_)
                    clear hK K
                    refine norm_ (a' := ?_) ?_ ?_
                    rotate_left
                    ·show Act.put _ (some 120) _ = _
                     simp only [Act.put, sp1, sp2, sp3, i64_w, i32_w]
                     rfl
                    refine pure_ (i := 8) (N := some 7) (v := ?_) (a' := ?_) #[true, true, true, true, true, true, true, true, true] rfl rfl (any_of HT_.out (by kernel_rfl)) (fun _ _ _ h => h) (Or.inl ⟨by rfl, ?_⟩) ?_ ?_
                    rotate_left; (· (intro w'; go_simp; with_reducible rfl)); rotate_left; (· (simp only [Act.put, sp1, sp2, sp3, i64_w, i32_w]; rfl))
                    refine done_ (done_of HT_.out (by kernel_rfl)) ?_
                    try go_wp2
                    go_roundg k3
                    case measure => have := HJ2.out; have := HK2.out; have := HK3.out; omega
                    case rel => exact ⟨(y148), (y130), (x117000_2), H', ⟨by have := HJ2.out; have := HK2.out; have := HK3.out; omega⟩, ⟨by (with_reducible repeat (first | apply Kd.R_alloc | apply Kd.R_drewN | apply Kd.R_drew)); exact HO_7.out⟩, ⟨by (with_reducible repeat (first | apply Kd.R_alloc | apply Kd.R_drewN | apply Kd.R_drew)); exact HO132.out⟩, ⟨by (with_reducible repeat (first | refine blk_drewN ?_ _ | refine blk_drew ?_ | refine blk_alloc ?_ _)); exact BK115.out⟩, ⟨by (with_reducible repeat (first | refine blk_drewN ?_ _ | refine blk_drew ?_ | refine blk_alloc ?_ _)); exact BK116.out⟩, ⟨blw⟩⟩
                   ·rw [if_neg c83] at H
                    exact absurd H (by simp)
                  ·rw [if_neg c82] at H
                   exact absurd H (by simp)
                 ·rw [if_neg c80] at H
                  exact absurd H (by simp)
               ·rw [if_neg c68] at H
                have c68b0 : decide (0 < ((rd_T54 x7_2 x9_3).f2)) = false := decide_eq_false c68
                clear c68
                have c92b0 := eq_true (odt : 0 ≤ x9_3)
                by_cases c93 : x9_3 ≤ (x7_2.length : Int)
                ·rw [if_pos c93] at H
                 have c93b0 := eq_true c93
                 have c93b1 : decide (x9_3 ≤ (x7_2.length : Int)) = true := decide_eq_true c93
                 clear c93
                 obtain ⟨y151, hy151⟩ : ∃ y_ : List (S54), y_ = (x7_2.take (x9_3 : Int).toNat) := ⟨_, rfl⟩
                 replace H : (if 0 ≤ (wrap64 (x9_3 + 1)) then (if (wrap64 (x9_3 + 1)) ≤ (x7_2.length : Int) then (spec_RunClock.l0 k3 a1 (x7_2.eraseIdx (x9_3 : Int).toNat) y130) else (none)) else (none)) = some (r1, r2, r3, r4) := by first | (rw [hy151]; with_reducible exact H) | (have H2_ := (Option.bind_some _ _).symm.trans H; rw [hy151]; with_reducible exact H2_) | (have H2_ := (Option.bind_some _ _).symm.trans H; with_reducible exact H2_) | with_reducible exact H | (rw [hy151]; exact H) | exact H
                 have Ny151 := Aside0.mk hy151
                 clear hy151
                 obtain ⟨ji94, hji94⟩ : ∃ j_ : Int, (wrap64 (x9_3 + 1)) = j_ := ⟨_, rfl⟩
                 replace H : (if 0 ≤ (ji94) then (if (ji94) ≤ (x7_2.length : Int) then (spec_RunClock.l0 k3 a1 (x7_2.eraseIdx (x9_3 : Int).toNat) y130) else (none)) else (none)) = some (r1, r2, r3, r4) := by first | (rw [hji94] at H; exact H) | (simp only [hji94] at H ⊢; exact H)
                 have hji94w : (IntKind.i64.wrap (x9_3 + 1)) = ji94 := (i64_w _).trans hji94
                 by_cases c95 : 0 ≤ (ji94)
                 ·rw [if_pos c95] at H
                  have c95b0 := eq_true c95
                  have c95b1 : decide (0 ≤ (ji94)) = true := decide_eq_true c95
                  clear c95
                  by_cases c96 : (ji94) ≤ (x7_2.length : Int)
                  ·rw [if_pos c96] at H
                   have c96b0 := eq_true c96
                   have c96b1 : decide ((ji94) ≤ (x7_2.length : Int)) = true := decide_eq_true c96
                   clear c96
                   obtain ⟨y155, hy155⟩ : ∃ y_ : List (S54), y_ = (x7_2.drop ((ji94) : Int).toNat) := ⟨_, rfl⟩
                   replace H : (spec_RunClock.l0 k3 a1 (x7_2.eraseIdx (x9_3 : Int).toNat) y130) = some (r1, r2, r3, r4) := by first | (rw [hy155]; with_reducible exact H) | (have H2_ := (Option.bind_some _ _).symm.trans H; rw [hy155]; with_reducible exact H2_) | (have H2_ := (Option.bind_some _ _).symm.trans H; with_reducible exact H2_) | with_reducible exact H | (rw [hy155]; exact H) | exact H
                   have Ny155 := Aside0.mk hy155
                   clear hy155
                   obtain ⟨y159, hy159⟩ : ∃ y_ : List (S54), y_ = (x7_2.eraseIdx (x9_3 : Int).toNat) := ⟨_, rfl⟩
                   replace H : (spec_RunClock.l0 k3 a1 y159 y130) = some (r1, r2, r3, r4) := by first | (rw [hy159]; with_reducible exact H) | (have H2_ := (Option.bind_some _ _).symm.trans H; rw [hy159]; with_reducible exact H2_) | (have H2_ := (Option.bind_some _ _).symm.trans H; with_reducible exact H2_) | with_reducible exact H | (rw [hy159]; exact H) | exact H
                   have Ny159 := Aside0.mk hy159
                   clear hy159
                   have H' := Aside0.mk H
                   clear H
                   obtain ⟨Ao97, co97, eo97⟩ := Kd.R_slice HO_8.out
                   subst eo97
                   try go_wp2
                   have n0_ := Aside0.mk (Kd.R_drew HO_7.out)
                   have n1_ := Aside0.mk (Kd.R_drew HO_8.out)
                   have n2_ := Aside0.mk (Kd.R_drew HO_27.out)
                   have n3_ := Aside0.mk (blk_drew BK115.out)
                   have n4_ := Aside0.mk (blk_drew BK116.out)
                   have n5_ := Aside0.mk (below_drew1 HB.out)
                   clear HO_7
                   clear HO_8
                   clear HO_27
                   clear BK115
                   clear BK116
                   clear HB
                   have HO_7 := n0_
                   have HO_8 := n1_
                   have HO_27 := n2_
                   have BK115 := n3_
                   have BK116 := n4_
                   have HB := n5_
                   clear n0_ n1_ n2_ n3_ n4_ n5_
                   have p128 : 0 ≤ (x9_3 : Int) := odt
                   have q128 : x9_3 < (x7_2.length : Int) := odt
                   obtain ⟨ad128, e128, hx128_0, hx128_1, hx128_2, hx128_3⟩ := at_T54 (Kd.R_reads' HO_7.out).2.2 x9_3 p128 q128
                   cases e128
                   replace p128 := eq_true p128
                   replace q128 := eq_true q128
                   have p129 : 0 ≤ (x9_3 : Int) := odt
                   have q129 : x9_3 < (x7_2.length : Int) := odt
                   obtain ⟨ad129, e129, hx129_0, hx129_1, hx129_2, hx129_3⟩ := at_T54 (Kd.R_reads' HO_7.out).2.2 x9_3 p129 q129
                   obtain rfl : ad128 = ad129 := (by injection e129)
                   replace p129 := eq_true p129
                   replace q129 := eq_true q129
                   refine start_ (n := 15) (S := fun w' => w'.cell? (ad128.add ((x9_3).toNat * 4)) = some (.int .i64 ((rd_T54 x7_2 x9_3).f0)) ∧ w'.cell? ⟨(ad128.add ((x9_3).toNat * 4)).block, (ad128.add ((x9_3).toNat * 4)).off + 1, none⟩ = some (.int .i64 ((rd_T54 x7_2 x9_3).f1)) ∧ w'.cell? ⟨(ad128.add ((x9_3).toNat * 4)).block, (ad128.add ((x9_3).toNat * 4)).off + 2, none⟩ = some (.int .i64 ((rd_T54 x7_2 x9_3).f2)) ∧ w'.cell? ⟨(ad128.add ((x9_3).toNat * 4)).block, (ad128.add ((x9_3).toNat * 4)).off + 3, none⟩ = some (.int .i64 ((rd_T54 x7_2 x9_3).f3)) ∧ w'.cell? (ad128.add ((x9_3).toNat * 4)) = some (.int .i64 ((rd_T54 x7_2 x9_3).f0)) ∧ w'.cell? ⟨(ad128.add ((x9_3).toNat * 4)).block, (ad128.add ((x9_3).toNat * 4)).off + 1, none⟩ = some (.int .i64 ((rd_T54 x7_2 x9_3).f1)) ∧ w'.cell? ⟨(ad128.add ((x9_3).toNat * 4)).block, (ad128.add ((x9_3).toNat * 4)).off + 2, none⟩ = some (.int .i64 ((rd_T54 x7_2 x9_3).f2)) ∧ w'.cell? ⟨(ad128.add ((x9_3).toNat * 4)).block, (ad128.add ((x9_3).toNat * 4)).off + 3, none⟩ = some (.int .i64 ((rd_T54 x7_2 x9_3).f3))) (ds := [12, 13]) #[false, false, false, false, false, false, false, false, false, false, false, false, false, false, false] (by kernel_rfl) rfl rfl ⟨hx128_0, hx128_1, hx128_2, hx128_3, hx129_0, hx129_1, hx129_2, hx129_3⟩ (fun hHeld => ?_); refine with_tabW spec_RunClock.tab16 spec_RunClock.bits16 (fun HT_ HW_ => ?_)
                   generalize wr.drew = w98 at HO_7 HO_8 HO_27 BK115 BK116 HB hx128_0 hx128_1 hx128_2 hx128_3 hx129_0 hx129_1 hx129_2 hx129_3 hHeld ⊢
                   refine pure_ (i := 0) (N := some 64) (v := ?_) (a' := ?_) #[true, false, false, false, false, false, false, false, false, false, false, false, false, false, false] rfl rfl (any_of HT_.out (by kernel_rfl)) (fun _ _ _ h => h) (Or.inl ⟨by rfl, ?_⟩) ?_ ?_
                   rotate_left; (· (intro w'; go_simp; with_reducible rfl)); rotate_left; (· (simp only [Act.put, sp1, sp2, sp3, i64_w, i32_w]; rfl))
                   refine pure_ (i := 1) (N := some 65) (v := ?_) (a' := ?_) #[true, true, false, false, false, false, false, false, false, false, false, false, false, false, false] rfl rfl (any_of HT_.out (by kernel_rfl)) (fun _ _ _ h => h) (Or.inl ⟨by rfl, ?_⟩) ?_ ?_
                   rotate_left; (· (intro w'; go_simp; with_reducible rfl)); rotate_left; (· (simp only [Act.put, sp1, sp2, sp3, i64_w, i32_w]; rfl))
                   refine pure_ (i := 2) (N := some 66) (v := ?_) (a' := ?_) #[true, true, true, false, false, false, false, false, false, false, false, false, false, false, false] rfl rfl (any_of HT_.out (by kernel_rfl)) (fun _ _ _ h => h) (Or.inl ⟨by rfl, ?_⟩) ?_ ?_
                   rotate_left; (· (intro w'; go_simp; with_reducible rfl)); rotate_left; (· (simp only [Act.put, sp1, sp2, sp3, i64_w, i32_w]; rfl))
                   refine pure_ (i := 3) (N := some 67) (v := ?_) (a' := ?_) #[true, true, true, true, false, false, false, false, false, false, false, false, false, false, false] rfl rfl (any_of HT_.out (by kernel_rfl)) (fun _ _ _ h => h) (Or.inl ⟨by rfl, ?_⟩) ?_ ?_
                   rotate_left; (· (intro w'; go_simp; with_reducible rfl)); rotate_left; (· (simp only [Act.put, sp1, sp2, sp3, i64_w, i32_w]; rfl))
                   refine pure_ (i := 4) (N := some 68) (v := ?_) (a' := ?_) #[true, true, true, true, true, false, false, false, false, false, false, false, false, false, false] rfl rfl (any_of HT_.out (by kernel_rfl)) (fun _ _ _ h => h) (Or.inl ⟨by rfl, ?_⟩) ?_ ?_
                   rotate_left; (· (intro w'; go_simp; with_reducible rfl)); rotate_left; (· (simp only [Act.put, sp1, sp2, sp3, i64_w, i32_w]; rfl))
                   refine pure_ (i := 6) (N := some 70) (v := ?_) (a' := ?_) #[true, true, true, true, true, false, true, false, false, false, false, false, false, false, false] rfl rfl (any_of HT_.out (by kernel_rfl)) (fun _ _ _ h => h) (Or.inl ⟨by rfl, ?_⟩) ?_ ?_
                   rotate_left; (· (intro w'; go_simp; with_reducible rfl)); rotate_left; (· (simp only [Act.put, sp1, sp2, sp3, i64_w, i32_w]; rfl))
                   refine pure_ (i := 7) (N := some 71) (v := ?_) (a' := ?_) #[true, true, true, true, true, false, true, true, false, false, false, false, false, false, false] rfl rfl (any_of HT_.out (by kernel_rfl)) (fun _ _ _ h => h) (Or.inl ⟨by rfl, ?_⟩) ?_ ?_
                   rotate_left; (· (intro w'; go_simp; with_reducible rfl)); rotate_left; (· (simp only [Act.put, sp1, sp2, sp3, i64_w, i32_w]; rfl))
                   refine pure_ (i := 8) (N := some 72) (v := ?_) (a' := ?_) #[true, true, true, true, true, false, true, true, true, false, false, false, false, false, false] rfl rfl (any_of HT_.out (by kernel_rfl)) (fun _ _ _ h => h) (Or.inl ⟨by rfl, ?_⟩) ?_ ?_
                   rotate_left; (· (intro w'; go_simp; with_reducible rfl)); rotate_left; (· (simp only [Act.put, sp1, sp2, sp3, i64_w, i32_w]; rfl))
                   refine pure_ (i := 9) (N := some 73) (v := ?_) (a' := ?_) #[true, true, true, true, true, false, true, true, true, true, false, false, false, false, false] rfl rfl (any_of HT_.out (by kernel_rfl)) (fun _ _ _ h => h) (Or.inl ⟨by rfl, ?_⟩) ?_ ?_
                   rotate_left; (· (intro w'; go_simp; with_reducible rfl)); rotate_left; (· (simp only [Act.put, sp1, sp2, sp3, i64_w, i32_w]; rfl))
                   refine take_ (i := 5) (N := some 69) (v := ?_) (a' := ?_) #[true, true, true, true, true, true, true, true, true, true, false, false, false, false, false] rfl rfl (take_ofW HT_.out HW_.out (by kernel_rfl)) (fun _ _ _ h => h) (Or.inl ⟨by rfl, ?_⟩) hHeld ?_ ?_
                   rotate_left; (· (rintro w' ⟨s0, s1, s2, s3, s4, s5, s6, s7⟩; go_simp; with_reducible rfl)); rotate_left; (· (simp only [Act.put, sp1, sp2, sp3, i64_w, i32_w]; rfl))
                   refine take_ (i := 10) (N := some 74) (v := ?_) (a' := ?_) #[true, true, true, true, true, true, true, true, true, true, true, false, false, false, false] rfl rfl (take_ofW HT_.out HW_.out (by kernel_rfl)) (fun _ _ _ h => h) (Or.inl ⟨by rfl, ?_⟩) hHeld ?_ ?_
                   rotate_left; (· (rintro w' ⟨s0, s1, s2, s3, s4, s5, s6, s7⟩; go_simp; with_reducible rfl)); rotate_left; (· (simp only [Act.put, sp1, sp2, sp3, i64_w, i32_w]; rfl))
                   refine pure_ (i := 11) (N := some 75) (v := ?_) (a' := ?_) #[true, true, true, true, true, true, true, true, true, true, true, true, false, false, false] rfl rfl (any_of HT_.out (by kernel_rfl)) (fun _ _ _ h => h) (Or.inl ⟨by rfl, ?_⟩) ?_ ?_
                   rotate_left; (· (intro w'; go_simp; with_reducible rfl)); rotate_left; (· (simp only [Act.put, sp1, sp2, sp3, i64_w, i32_w]; rfl))
                   refine last_ (i := 12) (N := some 76) #[true, true, true, true, true, true, true, true, true, true, true, true, true, false, false] rfl rfl (one_of HT_.out (by kernel_rfl)) (by decide) (fun K hK => ?_)
                   refine value_ (w1 := ?_) (v := ?_) (by rfl) rfl ?_ ?_
                   rotate_left 2
                   ·go_simp
                    constructor
                    ·rfl
                    ·rfl
                   refine hK.out _ _ ?_
                   clear hK K
                   refine norm_ (a' := ?_) ?_ ?_
                   rotate_left
                   ·show Act.put _ (some 76) _ = _
                    simp only [Act.put, sp1, sp2, sp3, i64_w, i32_w]
                    rfl
                   refine last_ (i := 13) (N := some 77) #[true, true, true, true, true, true, true, true, true, true, true, true, true, true, false] rfl rfl (one_of HT_.out (by kernel_rfl)) (by decide) (fun K hK => ?_)
                   refine Kd.R_append_step k56 (w0 := w) w.heap.size (by rfl) (.tmp 64) (.tmp 76) 32 56 (.agg #[(.int .i64 0), (.int .i64 0)]) 16 rfl Try.underlying32 info56 rfl (by decide) (by omega) (.slice Ao97 x8_2.length co97) x8_2 (⟨(rd_T54 x7_2 x9_3).f1, (rd_T54 x7_2 x9_3).f0⟩ : S56) [.int .i64 ((rd_T54 x7_2 x9_3).f1), .int .i64 ((rd_T54 x7_2 x9_3).f0)] (fun _ => True) (fun _ => False) rfl rfl ?aP (fun _ hk => hk.elim) ?aF ?aO ?aB ?aS ?aL ?_
                   (case aP => exact k56_mkM _ _ _ (⟨(rd_T54 x7_2 x9_3).f1, (rd_T54 x7_2 x9_3).f0⟩ : S56))
                   (case aB => exact blw)
                   (case aF => exact (fun _ _ => trivial))
                   (case aO => exact (by (with_reducible repeat (first | apply Kd.R_alloc | apply Kd.R_drewN | apply Kd.R_drew)); exact HO_8.out))
                   (case aS => exact (below_size blw))
                   (case aL => have := LMc67.out; omega)
                   intro v131 w99 ho hb hg hat
                   rw [← Ny130.out] at ho
                   have n0_ := Aside0.mk (Kd.R_over' (by (with_reducible repeat (first | apply Kd.R_alloc | apply Kd.R_drewN | apply Kd.R_drew)); exact HO_7.out) (Kd.R_typed (by (with_reducible repeat (first | apply Kd.R_alloc | apply Kd.R_drewN | apply Kd.R_drew)); exact HO_8.out)) (by decide) hg)
                   have n1_ := Aside0.mk (Kd.R_over' (by (with_reducible repeat (first | apply Kd.R_alloc | apply Kd.R_drewN | apply Kd.R_drew)); exact HO_27.out) (Kd.R_typed (by (with_reducible repeat (first | apply Kd.R_alloc | apply Kd.R_drewN | apply Kd.R_drew)); exact HO_8.out)) (by decide) hg)
                   have n2_ := Aside0.mk (blk_grown (g := gb115) (o := .cells #[.int .i64 a0_0, .slice A0_1 l0_1.length c0_1] 31 (0, 0)) bkw hg (Kd.R_ne HO_8.out BK115.out (by decide)))
                   have n3_ := Aside0.mk (blk_grown (g := gb116) (o := .cells #[.int .i64 x117000_2, .slice none 0 0] 31 (0, 0)) bkw hg (Kd.R_ne HO_8.out BK116.out (by decide)))
                   have n4_ := Aside0.mk (hb)
                   have n5_ := Aside0.mk (ho)
                   clear HO_7
                   clear HO_27
                   clear BK115
                   clear BK116
                   clear HB
                   clear HO_8
                   have HO_7 := n0_
                   have HO_27 := n1_
                   have BK115 := n2_
                   have BK116 := n3_
                   have HB := n4_
                   have HO132 := n5_
                   clear n0_ n1_ n2_ n3_ n4_ n5_
                   clear ho hb hg hat
                   refine hK.out _ _ ?_
                   clear hK K
                   refine norm_ (a' := ?_) ?_ ?_
                   rotate_left
                   ·show Act.put _ (some 77) _ = _
                    simp only [Act.put, sp1, sp2, sp3, i64_w, i32_w]
                    rfl
                   refine pure_ (i := 14) (N := some 8) (v := ?_) (a' := ?_) #[true, true, true, true, true, true, true, true, true, true, true, true, true, true, true] rfl rfl (any_of HT_.out (by kernel_rfl)) (fun _ _ _ h => h) (Or.inl ⟨by rfl, ?_⟩) ?_ ?_
                   rotate_left; (· (intro w'; go_simp; with_reducible rfl)); rotate_left; (· (simp only [Act.put, sp1, sp2, sp3, i64_w, i32_w]; rfl))
                   refine done_ (done_of HT_.out (by kernel_rfl)) ?_
                   have p133 : 0 ≤ (x9_3 : Int) := odt
                   have q133 : x9_3 < (x7_2.length : Int) := odt
                   obtain ⟨ad133, e133, hx133_0, hx133_1, hx133_2, hx133_3⟩ := at_T54 (Kd.R_reads' HO_7.out).2.2 x9_3 p133 q133
                   obtain rfl : ad128 = ad133 := (by injection e133)
                   replace p133 := eq_true p133
                   replace q133 := eq_true q133
                   try go_wp2
                   have n0_ := Aside0.mk (Kd.R_drew HO_7.out)
                   have n1_ := Aside0.mk (Kd.R_drew HO_27.out)
                   have n2_ := Aside0.mk (Kd.R_drew HO132.out)
                   have n3_ := Aside0.mk (blk_drew BK115.out)
                   have n4_ := Aside0.mk (blk_drew BK116.out)
                   have n5_ := Aside0.mk (below_drew1 HB.out)
                   clear HO_7
                   clear HO_27
                   clear HO132
                   clear BK115
                   clear BK116
                   clear HB
                   have HO_7 := n0_
                   have HO_27 := n1_
                   have HO132 := n2_
                   have BK115 := n3_
                   have BK116 := n4_
                   have HB := n5_
                   clear n0_ n1_ n2_ n3_ n4_ n5_
                   have q101 : (x9_3 : Int) ≤ ((x7_2.length : Int) : Int) := odt
                   obtain ⟨i0101, hi0101, _, hsz101, _⟩ := info_parts info54
                   have hroom101 : x7_2.length ≤ co25 := (Kd.R_reads' HO_7.out).2.1
                   have hC101 : Kd.C k54 _ (some ad128) x7_2.length x7_2 := (Kd.R_reads' HO_7.out).2.2
                   have hcut101 := cut_to (P := Try.prog) 29 54 .i64 Try.underlying29 hi0101 (some ad128) x7_2.length co25 x9_3 odt q101 hroom101
                   have hr101 := Kd.C_take (m := (x9_3 : Int).toNat) hC101 (by omega)
                   have hy101 : y151.length = (x9_3 : Int).toNat := (by rw [Ny151.out, List.length_take]; omega)
                   rw [← Ny151.out] at hr101
                   rw [← hy101] at hcut101
                   have HR154 := Aside0.mk hr101
                   have HC154 := Aside0.mk (show y151.length ≤ co25 from by omega)
                   clear hr101 hC101 hroom101 hi0101 hsz101
                   have KY101 := Aside0.mk hy101
                   clear hy101
                   have KL101 := Aside0.mk (show (x9_3 : Int).toNat ≤ x7_2.length from by omega)
                   replace q101 := eq_true q101
                   have q102 : ((ji94) : Int) ≤ ((x7_2.length : Int) : Int) := odt
                   obtain ⟨i0102, hi0102, _, hsz102, _⟩ := info_parts info54
                   have hroom102 : x7_2.length ≤ co25 := (Kd.R_reads' HO_7.out).2.1
                   have hC102 : Kd.C k54 _ (some ad128) x7_2.length x7_2 := (Kd.R_reads' HO_7.out).2.2
                   have q0102 : (0 : Int) ≤ ((ji94) : Int) := odt
                   have hcut102 := cut_from (P := Try.prog) 29 54 .i64 Try.underlying29 hi0102 4 hsz102 (some ad128) x7_2.length co25 (ji94) q0102 q102
                   have hr102 := Kd.C_drop (m := ((ji94) : Int).toNat) (c := co25) hC102 (by omega) hroom102
                   obtain ⟨A102, hA102⟩ : ∃ A1, A1 = (if co25 = ((ji94) : Int).toNat then (some ad128) else ((some ad128) : Option Addr).map (·.add (((ji94) : Int).toNat * 4))) := ⟨_, rfl⟩
                   obtain ⟨c102, hc102⟩ : ∃ c1, c1 = co25 - ((ji94) : Int).toNat := ⟨_, rfl⟩
                   have hy102 : y155.length = x7_2.length - ((ji94) : Int).toNat := (by rw [Ny155.out, List.length_drop] <;> omega)
                   rw [show (x7_2).drop ((ji94) : Int).toNat = y155 from Ny155.out.symm] at hr102
                   replace hr102 : Kd.C k54 _ A102 y155.length y155 := (by rw [hA102]; exact hr102)
                   rw [← hy102, ← hA102, ← hc102] at hcut102
                   have HR158 := Aside0.mk hr102
                   have HC158 := Aside0.mk (show y155.length ≤ c102 from by rw [hy102, hc102]; exact Nat.sub_le_sub_right hroom102 _)
                   clear hr102 hC102 hroom102 hi0102 hsz102 hc102
                   have KY102 := Aside0.mk hy102
                   have KA102 := Aside0.mk hA102
                   clear hy102 hA102
                   have KL102 := Aside0.mk (show ((ji94) : Int).toNat ≤ x7_2.length from by omega)
                   replace q102 := eq_true q102
                   obtain ⟨go104, co104, eo104, gb104, gl104, cl104, HG104⟩ := Kd.R_form HO_7.out (by have hj_ : 0 ≤ (x9_3 : Int) := odt; have hl_ : (ji94 : Int) ≤ (x7_2.length : Int) := odt; have hh_ : (x9_3 : Int) ≤ (x7_2.length : Int) := odt; rw [← hji94] at hl_; unfold wrap64 at hl_; omega)
                   (first | cases eo104 | (injection eo104 with ea_ en_ ec_; (first | subst ea_ | (injection ea_ with ea_; subst ea_)); subst ec_; clear en_))
                   have GB104 := Aside0.mk gb104
                   have GG104 := Aside0.mk HG104
                   clear gb104 gl104 HG104
                   (first | simp only [add_plain] at hx128_0 | skip)
                   (first | simp only [add_plain] at hx128_1 | skip)
                   (first | simp only [add_plain] at hx128_2 | skip)
                   (first | simp only [add_plain] at hx128_3 | skip)
                   (first | simp only [add_plain] at hx129_0 | skip)
                   (first | simp only [add_plain] at hx129_1 | skip)
                   (first | simp only [add_plain] at hx129_2 | skip)
                   (first | simp only [add_plain] at hx129_3 | skip)
                   (first | simp only [add_plain] at hx133_0 | skip)
                   (first | simp only [add_plain] at hx133_1 | skip)
                   (first | simp only [add_plain] at hx133_2 | skip)
                   (first | simp only [add_plain] at hx133_3 | skip)
                   refine start_ (n := 9) (S := fun w' => True) (ds := []) #[false, false, false, false, false, false, false, false, false] (by kernel_rfl) rfl rfl trivial (fun hHeld => ?_); refine with_tabW spec_RunClock.tab20 spec_RunClock.bits20 (fun HT_ HW_ => ?_)
                   generalize w99.drew = w100 at HO_7 HO_27 HO132 BK115 BK116 HB GG104 HR154 HR158 hx128_0 hx128_1 hx128_2 hx128_3 hx129_0 hx129_1 hx129_2 hx129_3 hx133_0 hx133_1 hx133_2 hx133_3 hHeld ⊢
                   refine pure_ (i := 0) (N := some 113) (v := ?_) (a' := ?_) #[true, false, false, false, false, false, false, false, false] rfl rfl (any_of HT_.out (by kernel_rfl)) (fun _ _ _ h => h) (Or.inl ⟨by rfl, ?_⟩) ?_ ?_
                   rotate_left; (· (intro w'; go_simp; with_reducible rfl)); rotate_left; (· (simp only [Act.put, sp1, sp2, sp3, i64_w, i32_w]; rfl))
                   refine pure_ (i := 1) (N := some 114) (v := ?_) (a' := ?_) #[true, true, false, false, false, false, false, false, false] rfl rfl (any_of HT_.out (by kernel_rfl)) (fun _ _ _ h => h) (Or.inl ⟨by rfl, ?_⟩) ?_ ?_
                   rotate_left; (· (intro w'; go_simp; with_reducible rfl)); rotate_left; (· (simp only [Act.put, sp1, sp2, sp3, i64_w, i32_w]; rfl))
                   refine pure_ (i := 2) (N := some 115) (v := ?_) (a' := ?_) #[true, true, true, false, false, false, false, false, false] rfl rfl (any_of HT_.out (by kernel_rfl)) (fun _ _ _ h => h) (Or.inl ⟨by rfl, ?_⟩) ?_ ?_
                   rotate_left; (· (intro w'; go_simp; with_reducible rfl)); rotate_left; (· (simp only [Act.put, sp1, sp2, sp3, i64_w, i32_w]; rfl))
                   refine pure_ (i := 3) (N := some 116) (v := ?_) (a' := ?_) #[true, true, true, true, false, false, false, false, false] rfl rfl (any_of HT_.out (by kernel_rfl)) (fun _ _ _ h => h) (Or.inl ⟨by rfl, ?_⟩) ?_ ?_
                   rotate_left; (· (intro w'; go_simp; with_reducible rfl)); rotate_left; (· (simp only [Act.put, sp1, sp2, sp3, i64_w, i32_w]; rfl))
                   refine pure_ (i := 4) (N := some 117) (v := ?_) (a' := ?_) #[true, true, true, true, true, false, false, false, false] rfl rfl (any_of HT_.out (by kernel_rfl)) (fun _ _ _ h => h) (Or.inl ⟨by rfl, ?_⟩) ?_ ?_
                   rotate_left; (· (intro w'; go_simp; with_reducible rfl)); rotate_left; (· (simp only [Act.put, sp1, sp2, sp3, i64_w, i32_w]; rfl))
                   refine pure_ (i := 5) (N := some 118) (v := ?_) (a' := ?_) #[true, true, true, true, true, true, false, false, false] rfl rfl (any_of HT_.out (by kernel_rfl)) (fun _ _ _ h => h) (Or.inl ⟨by rfl, ?_⟩) ?_ ?_
                   rotate_left; (· (intro w'; go_simp; with_reducible rfl)); rotate_left; (· (simp only [Act.put, sp1, sp2, sp3, i64_w, i32_w]; rfl))
                   refine pure_ (i := 6) (N := some 119) (v := ?_) (a' := ?_) #[true, true, true, true, true, true, true, false, false] rfl rfl (any_of HT_.out (by kernel_rfl)) (fun _ _ _ h => h) (Or.inl ⟨by rfl, ?_⟩) ?_ ?_
                   rotate_left; (· (intro w'; go_simp; with_reducible rfl)); rotate_left; (· (simp only [Act.put, sp1, sp2, sp3, i64_w, i32_w]; rfl))
                   refine one_ (i := 7) (N := some 120) #[true, true, true, true, true, true, true, true, false] rfl rfl (one_of HT_.out (by kernel_rfl)) (by decide) (fun K hK => ?_)
                   have hj_ : 0 ≤ (x9_3 : Int) := odt
                   have hl_ : (ji94 : Int) ≤ (x7_2.length : Int) := odt
                   have hh_ : (x9_3 : Int) ≤ (x7_2.length : Int) := odt
                   have hb_ := (Kd.R_reads' HO_7.out).2.2.2.1
                   have h0_ : (0 : Int) ≤ (ji94 : Int) := odt
                   have hy1_ := KY101.out
                   have hk_ : (ji94 : Int).toNat = y151.length + 1 := (by have hw_ : (ji94 : Int) = x9_3 + 1 := (by have h00_ := h0_; rw [← hji94] at h00_ ⊢; unfold wrap64 at h00_ ⊢; omega); rw [hw_]; omega)
                   refine Kd.R_delete_step k54 (w0 := w) w.heap.size (by rfl) (.tmp 115) (.tmp 119) 29 54 rfl Try.underlying29 (by kernel_rfl) (g := go104) (n := x7_2.length) (c := co25) (k := y151.length) rfl rfl ?hA ?hm (by (with_reducible repeat (first | apply Kd.R_alloc | apply Kd.R_drewN | apply Kd.R_drew)); exact HO_7.out) ?hk blw (below_size blw) ?_
                   (case hA => have ha_ := KA102.out; rw [hk_] at ha_; exact ha_)
                   (case hm => have ha_ := KY102.out; omega)
                   (case hk => omega)
                   intro w103 ho hb hg
                   clear hj_ hl_ hh_ hb_ hk_ h0_
                   rw [hy1_, ← Ny159.out] at ho
                   clear hy1_
                   have hn_ : x7_2.length - 1 = y159.length := (by have := (Kd.R_reads' ho).1; omega)
                   rw [hn_] at ho ⊢
                   clear hn_
                   have n0_ := Aside0.mk (ho)
                   have n1_ := Aside0.mk (HO_27.out)
                   have n2_ := Aside0.mk (blk_grown (g := gb115) (o := .cells #[.int .i64 a0_0, .slice A0_1 l0_1.length c0_1] 31 (0, 0)) bkw hg (Kd.R_ne HO_7.out BK115.out (by decide)))
                   have n3_ := Aside0.mk (blk_grown (g := gb116) (o := .cells #[.int .i64 x117000_2, .slice none 0 0] 31 (0, 0)) bkw hg (Kd.R_ne HO_7.out BK116.out (by decide)))
                   have n4_ := Aside0.mk (Kd.R_over' (v := (.slice (some ⟨go104, 0, none⟩) x7_2.length co25)) (by (with_reducible repeat (first | apply Kd.R_alloc | apply Kd.R_drewN | apply Kd.R_drew)); exact HO132.out) (Kd.R_typed HO_7.out) (by decide) hg)
                   have n5_ := Aside0.mk (hb)
                   clear HO_7
                   clear HO_27
                   clear BK115
                   clear BK116
                   clear HO132
                   clear HB
                   have HO_7 := n0_
                   have HO_27 := n1_
                   have BK115 := n2_
                   have BK116 := n3_
                   have HO132 := n4_
                   have HB := n5_
                   clear n0_ n1_ n2_ n3_ n4_ n5_
                   clear ho hb hg
                   refine hK.out _ _ trivial (fun hHeld => ?_)
                   clear hK K
                   refine norm_ (a' := ?_) ?_ ?_
                   rotate_left
                   ·show Act.put _ (some 120) _ = _
                    simp only [Act.put, sp1, sp2, sp3, i64_w, i32_w]
                    rfl
                   refine pure_ (i := 8) (N := some 7) (v := ?_) (a' := ?_) #[true, true, true, true, true, true, true, true, true] rfl rfl (any_of HT_.out (by kernel_rfl)) (fun _ _ _ h => h) (Or.inl ⟨by rfl, ?_⟩) ?_ ?_
                   rotate_left; (· (intro w'; go_simp; with_reducible rfl)); rotate_left; (· (simp only [Act.put, sp1, sp2, sp3, i64_w, i32_w]; rfl))
                   refine done_ (done_of HT_.out (by kernel_rfl)) ?_
                   try go_wp2
                   go_roundg k3
                   case measure => have := HJ2.out; have := HK2.out; have := HK3.out; omega
                   case rel => exact ⟨(y159), (y130), (x117000_2), H', ⟨by have := HJ2.out; have := HK2.out; have := HK3.out; omega⟩, ⟨by (with_reducible repeat (first | apply Kd.R_alloc | apply Kd.R_drewN | apply Kd.R_drew)); exact HO_7.out⟩, ⟨by (with_reducible repeat (first | apply Kd.R_alloc | apply Kd.R_drewN | apply Kd.R_drew)); exact HO132.out⟩, ⟨by (with_reducible repeat (first | refine blk_drewN ?_ _ | refine blk_drew ?_ | refine blk_alloc ?_ _)); exact BK115.out⟩, ⟨by (with_reducible repeat (first | refine blk_drewN ?_ _ | refine blk_drew ?_ | refine blk_alloc ?_ _)); exact BK116.out⟩, ⟨blw⟩⟩
                  ·rw [if_neg c96] at H
                   exact absurd H (by simp)
                 ·rw [if_neg c95] at H
                  exact absurd H (by simp)
                ·rw [if_neg c93] at H
                 exact absurd H (by simp)
              ·rw [if_neg c67] at H
               exact absurd H (by simp)
             ·rw [if_neg c66] at H
              exact absurd H (by simp)
            ·rw [if_neg c65] at H
             exact absurd H (by simp)
    ·rw [if_neg c19] at H
     exact absurd H (by simp)

end Go.Proofs.Ytcdchmdkcdlklaa.PFnExactRunClock
