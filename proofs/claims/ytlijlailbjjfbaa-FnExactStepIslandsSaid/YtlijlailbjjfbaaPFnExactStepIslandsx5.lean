/- The machine's side of a law, function by function: a Lean function with the Go function's answers and the proof that the Go code comes to them. No condition. Written by this session's program over the kit's print, this session's own contracts set in. -/
import Derived.Test.YtlijlailbjjfbaaPFnExactStepIslandsx0
import Derived.Test.YtlijlailbjjfbaaPFnExactStepIslandsx4
namespace Go.Proofs.Ytlijlailbjjfbaa.PFnExactStepIslands
open Go.RowKit Go.Proofs.YtlijlailbjjfbaaW.PrintWords Go.Proofs.YtlijlailbjjfbaaW.PrintLast Go.Proofs.YtlijlailbjjfbaaW.PrintMore
attribute [local go_sem] max2_int min2_int max_two min_two max_three min_three max_four min_four   -- for this text's walks alone
set_option linter.unusedVariables false
set_option linter.unusedSimpArgs false

/-! ### spec_l10Pair: function 74 -/
mutual
def spec_l10Pair.j0 : Nat → Int → Bool → Int → Int → Int → Int → Int → Int → Int → Int → Option (Int × Int × Int × Int × Int × Int × Int × Int)
 | 0, _, _, _, _, _, _, _, _, _, _ => none
 | k + 1, x2, x26, x143000, x143001, x143002, x143003, x144000, x144001, x144002, x144003 => if x26 = true then (some (x143000, x143001, x143002, x143003, x144000, x144001, x144002, x144003)) else (if x143002 = 0 then (spec_l10Pair.j1 k (wrap64 (Int.tdiv (wrap64 ((wrap64 (100 + x2)) * (wrap64 (-x144001)))) 100)) x143000 x143001 x143002 x143003 x144000 x144001 x144002 x144003) else (if x144002 = 0 then (spec_l10Pair.j1 k (wrap64 (Int.tdiv (wrap64 ((wrap64 (100 + x2)) * x143001)) 100)) x143000 x143001 x143002 x143003 x144000 x144001 x144002 x144003) else (if (wrap64 (100 * (wrap64 (x143002 + x144002)))) = 0 then (none) else (spec_l10Pair.j1 k (wrap64 (Int.tdiv (wrap64 ((wrap64 (100 + x2)) * (wrap64 ((wrap64 (x143001 * x144002)) - (wrap64 (x144001 * x143002)))))) (wrap64 (100 * (wrap64 (x143002 + x144002)))))) x143000 x143001 x143002 x143003 x144000 x144001 x144002 x144003))))
def spec_l10Pair.j1 : Nat → Int → Int → Int → Int → Int → Int → Int → Int → Int → Option (Int × Int × Int × Int × Int × Int × Int × Int)
 | 0, _, _, _, _, _, _, _, _, _ => none
 | k + 1, x9, x143000, x143001, x143002, x143003, x144000, x144001, x144002, x144003 => if x143002 > 0 then (if x144002 > 0 then (some (x143000, wrap64 (x143001 - x9), x143002, x143003, x144000, wrap64 (x144001 + x9), x144002, x144003)) else (some (x143000, wrap64 (x143001 - x9), x143002, x143003, x144000, x144001, x144002, x144003))) else (if x144002 > 0 then (some (x143000, x143001, x143002, x143003, x144000, wrap64 (x144001 + x9), x144002, x144003)) else (some (x143000, x143001, x143002, x143003, x144000, x144001, x144002, x144003)))
end
def spec_l10Pair.f (k : Nat) (a0_0 : Int) (a0_1 : Int) (a0_2 : Int) (a0_3 : Int) (a1_0 : Int) (a1_1 : Int) (a1_2 : Int) (a1_3 : Int) (a2 : Int) : Option (Int × Int × Int × Int × Int × Int × Int × Int) := if (wrap64 (a0_0 + a0_3)) < (wrap64 (a1_0 - a1_3)) then (spec_l10Pair.j0 k a2 true a0_0 a0_1 a0_2 a0_3 a1_0 a1_1 a1_2 a1_3) else ((spec_l10Near.f k a0_0 a0_1 a0_2 a0_3 a1_0 a1_1 a1_2 a1_3).bind fun t146 => (spec_l10Pair.j0 k a2 (!t146) a0_0 a0_1 a0_2 a0_3 a1_0 a1_1 a1_2 a1_3))
theorem spec_l10Pair.mono_l : ∀ k, (∀ y0 y1 y2 y3 y4 y5 y6 y7 y8 y9, LeO (spec_l10Pair.j0 k y0 y1 y2 y3 y4 y5 y6 y7 y8 y9) (spec_l10Pair.j0 (k + 1) y0 y1 y2 y3 y4 y5 y6 y7 y8 y9)) ∧ (∀ y0 y1 y2 y3 y4 y5 y6 y7 y8, LeO (spec_l10Pair.j1 k y0 y1 y2 y3 y4 y5 y6 y7 y8) (spec_l10Pair.j1 (k + 1) y0 y1 y2 y3 y4 y5 y6 y7 y8))
 | 0 => ⟨fun _ _ _ _ _ _ _ _ _ _ r h => by simp [spec_l10Pair.j0] at h, fun _ _ _ _ _ _ _ _ _ r h => by simp [spec_l10Pair.j1] at h⟩
 | k + 1 => by
  obtain ⟨ih0, ih1⟩ := spec_l10Pair.mono_l k
  refine ⟨?_, ?_⟩
  ·intro y0 y1 y2 y3 y4 y5 y6 y7 y8 y9
   unfold spec_l10Pair.j0
   repeat' first
   | (with_reducible exact ih0 _ _ _ _ _ _ _ _ _ _)
   | (with_reducible exact ih1 _ _ _ _ _ _ _ _ _)
   | (with_reducible exact spec_l10Near.mono _ _ _ _ _ _ _ _ _)
   | (with_reducible exact LeO.refl _)
   | (with_reducible exact LeO.none _)
   | (with_reducible refine LeO.ite ?_ ?_)
   | (with_reducible refine LeO.bind ?_ (fun _ => ?_))
   | exact ih0 _ _ _ _ _ _ _ _ _ _
   | exact ih1 _ _ _ _ _ _ _ _ _
   | exact spec_l10Near.mono _ _ _ _ _ _ _ _ _
   | exact LeO.none _
   | refine LeO.ite ?_ ?_
   | refine LeO.bind ?_ (fun _ => ?_)
  ·intro y0 y1 y2 y3 y4 y5 y6 y7 y8
   unfold spec_l10Pair.j1
   repeat' first
   | (with_reducible exact ih0 _ _ _ _ _ _ _ _ _ _)
   | (with_reducible exact ih1 _ _ _ _ _ _ _ _ _)
   | (with_reducible exact spec_l10Near.mono _ _ _ _ _ _ _ _ _)
   | (with_reducible exact LeO.refl _)
   | (with_reducible exact LeO.none _)
   | (with_reducible refine LeO.ite ?_ ?_)
   | (with_reducible refine LeO.bind ?_ (fun _ => ?_))
   | exact ih0 _ _ _ _ _ _ _ _ _ _
   | exact ih1 _ _ _ _ _ _ _ _ _
   | exact spec_l10Near.mono _ _ _ _ _ _ _ _ _
   | exact LeO.none _
   | refine LeO.ite ?_ ?_
   | refine LeO.bind ?_ (fun _ => ?_)
theorem spec_l10Pair.mono : ∀ a0 a1 a2 a3 a4 a5 a6 a7 a8 k, LeO (spec_l10Pair.f k a0 a1 a2 a3 a4 a5 a6 a7 a8) (spec_l10Pair.f (k + 1) a0 a1 a2 a3 a4 a5 a6 a7 a8) := by
 intro a0 a1 a2 a3 a4 a5 a6 a7 a8 k
 obtain ⟨ih0, ih1⟩ := spec_l10Pair.mono_l k
 unfold spec_l10Pair.f
 repeat' first
   | (with_reducible exact ih0 _ _ _ _ _ _ _ _ _ _)
   | (with_reducible exact ih1 _ _ _ _ _ _ _ _ _)
   | (with_reducible exact spec_l10Near.mono _ _ _ _ _ _ _ _ _)
   | (with_reducible exact LeO.refl _)
   | (with_reducible exact LeO.none _)
   | (with_reducible refine LeO.ite ?_ ?_)
   | (with_reducible refine LeO.bind ?_ (fun _ => ?_))
   | exact ih0 _ _ _ _ _ _ _ _ _ _
   | exact ih1 _ _ _ _ _ _ _ _ _
   | exact spec_l10Near.mono _ _ _ _ _ _ _ _ _
   | exact LeO.none _
   | refine LeO.ite ?_ ?_
   | refine LeO.bind ?_ (fun _ => ?_)
set_option maxHeartbeats 8000000 in
set_option maxRecDepth 100000 in
theorem spec_l10Pair.calls (k : Nat) (a0_0 : Int) (a0_1 : Int) (a0_2 : Int) (a0_3 : Int) (a1_0 : Int) (a1_1 : Int) (a1_2 : Int) (a1_3 : Int) (a2 : Int) (r1 : Int) (r2 : Int) (r3 : Int) (r4 : Int) (r5 : Int) (r6 : Int) (r7 : Int) (r8 : Int) (w : World) (h : spec_l10Pair.f k a0_0 a0_1 a0_2 a0_3 a1_0 a1_1 a1_2 a1_3 a2 = some (r1, r2, r3, r4, r5, r6, r7, r8)) :
  Calls Try.prog 74 #[.agg #[.int .i64 a0_0, .int .i64 a0_1, .int .i64 a0_2, .int .i64 a0_3], .agg #[.int .i64 a1_0, .int .i64 a1_1, .int .i64 a1_2, .int .i64 a1_3], .int .i64 a2] w fun e w' => e = .returned (.tuple #[.agg #[.int .i64 r1, .int .i64 r2, .int .i64 r3, .int .i64 r4], .agg #[.int .i64 r5, .int .i64 r6, .int .i64 r7, .int .i64 r8]]) ∧ Below w.heap.size w w' := by
 have hu31 := Try.underlying31
 have HB := Aside0.mk (Below.refl w.heap.size w)
 have H : (if (wrap64 (a0_0 + a0_3)) < (wrap64 (a1_0 - a1_3)) then (spec_l10Pair.j0 k a2 true a0_0 a0_1 a0_2 a0_3 a1_0 a1_1 a1_2 a1_3) else ((spec_l10Near.f k a0_0 a0_1 a0_2 a0_3 a1_0 a1_1 a1_2 a1_3).bind fun t146 => (spec_l10Pair.j0 k a2 (!t146) a0_0 a0_1 a0_2 a0_3 a1_0 a1_1 a1_2 a1_3))) = some (r1, r2, r3, r4, r5, r6, r7, r8) := h
 clear h
 have HC4 := Aside0.mk H
 clear H
 go_enter Try.func74, Try.ntmps74
 go_upto_region 1 with (first | ((with_reducible refine gate_dst (N := 3) rfl ?_); refine box_event ?hg (N := 3) ?hd (cs := #[.int .i64 a0_0, .int .i64 a0_1, .int .i64 a0_2, .int .i64 a0_3]) (t := 31) ?hr ?_; (case hd => rfl); (case hg => rfl); (case hr => first | (go_simp; done) | (go_simp; rfl)); intro gb142 hg w5 hbox hb; have n0_ := z_bs HB hb; have n1_ := Aside0.mk (hbox); have n2_ := z_gw HB hg; have n3_ := z_gw HB hg; clear HB; have HB := n0_; have BK142 := n1_; have GW142 := n2_; have GE142 := n3_; clear n0_ n1_ n2_ n3_; clear hb hbox hg) | ((with_reducible refine gate_dst (N := 4) rfl ?_); refine box_event ?hg (N := 4) ?hd (cs := #[.int .i64 a1_0, .int .i64 a1_1, .int .i64 a1_2, .int .i64 a1_3]) (t := 31) ?hr ?_; (case hd => rfl); (case hg => rfl); (case hr => first | (go_simp; done) | (go_simp; rfl)); intro gb143 hg w6 hbox hb; have n0_ := z_bk BK142 hb; have n1_ := z_bs HB hb; have n2_ := Aside0.mk (hbox); have n3_ := z_gw HB hg; have n4_ := z_gw HB hg; have n5_ := z_nl BK142 hg; have n6_ := z_ng BK142 hg; clear BK142; clear HB; have BK142 := n0_; have HB := n1_; have BK143 := n2_; have GW143 := n3_; have GE143 := n4_; have NB142_143 := n5_; have NB143_142 := n6_; clear n0_ n1_ n2_ n3_ n4_ n5_ n6_; clear hb hbox hg) | ((with_reducible refine gate_dst (N := 6) rfl ?_); refine box_event ?hg (N := 6) ?hd (cs := #[.int .i64 0, .int .i64 0, .int .i64 0, .int .i64 0]) (t := 31) ?hr ?_; (case hd => rfl); (case hg => rfl); (case hr => first | (go_simp; done) | (go_simp; rfl)); intro gb144 hg w7 hbox hb; have n0_ := z_bk BK142 hb; have n1_ := z_bk BK143 hb; have n2_ := z_bs HB hb; have n3_ := Aside0.mk (hbox); have n4_ := z_gw HB hg; have n5_ := z_gw HB hg; have n6_ := z_nl BK142 hg; have n7_ := z_ng BK142 hg; have n8_ := z_nl BK143 hg; have n9_ := z_ng BK143 hg; clear BK142; clear BK143; clear HB; have BK142 := n0_; have BK143 := n1_; have HB := n2_; have BK144 := n3_; have GW144 := n4_; have GE144 := n5_; have NB142_144 := n6_; have NB144_142 := n7_; have NB143_144 := n8_; have NB144_143 := n9_; clear n0_ n1_ n2_ n3_ n4_ n5_ n6_ n7_ n8_ n9_; clear hb hbox hg) | ((with_reducible refine gate_dst (N := 7) rfl ?_); refine box_event ?hg (N := 7) ?hd (cs := #[.int .i64 0, .int .i64 0, .int .i64 0, .int .i64 0]) (t := 31) ?hr ?_; (case hd => rfl); (case hg => rfl); (case hr => first | (go_simp; done) | (go_simp; rfl)); intro gb145 hg w8 hbox hb; have n0_ := z_bk BK142 hb; have n1_ := z_bk BK143 hb; have n2_ := z_bk BK144 hb; have n3_ := z_bs HB hb; have n4_ := Aside0.mk (hbox); have n5_ := z_gw HB hg; have n6_ := z_gw HB hg; have n7_ := z_nl BK142 hg; have n8_ := z_ng BK142 hg; have n9_ := z_nl BK143 hg; have n10_ := z_ng BK143 hg; have n11_ := z_nl BK144 hg; have n12_ := z_ng BK144 hg; clear BK142; clear BK143; clear BK144; clear HB; have BK142 := n0_; have BK143 := n1_; have BK144 := n2_; have HB := n3_; have BK145 := n4_; have GW145 := n5_; have GE145 := n6_; have NB142_145 := n7_; have NB145_142 := n8_; have NB143_145 := n9_; have NB145_143 := n10_; have NB144_145 := n11_; have NB145_144 := n12_; clear n0_ n1_ n2_ n3_ n4_ n5_ n6_ n7_ n8_ n9_ n10_ n11_ n12_; clear hb hbox hg))
 (try simp only [Act.put, List.setIfInBounds_toArray, List.set_cons_zero, List.set_cons_succ])
 go_cut [26] (fun v26 wc => ∃ (kq : Nat) (x26_3 : Bool), v26 = .bool x26_3 ∧ Aside0 (spec_l10Pair.j0 kq a2 x26_3 a0_0 a0_1 a0_2 a0_3 a1_0 a1_1 a1_2 a1_3 = some (r1, r2, r3, r4, r5, r6, r7, r8)) ∧ Aside0 (kq ≤ k) ∧ Aside0 (wc.heap[gb142]? = some (.cells #[.int .i64 a0_0, .int .i64 a0_1, .int .i64 a0_2, .int .i64 a0_3] 31 (0, 0))) ∧ Aside0 (wc.heap[gb143]? = some (.cells #[.int .i64 a1_0, .int .i64 a1_1, .int .i64 a1_2, .int .i64 a1_3] 31 (0, 0))) ∧ Aside0 (wc.heap[gb144]? = some (.cells #[.int .i64 0, .int .i64 0, .int .i64 0, .int .i64 0] 31 (0, 0))) ∧ Aside0 (wc.heap[gb145]? = some (.cells #[.int .i64 0, .int .i64 0, .int .i64 0, .int .i64 0] 31 (0, 0))) ∧ Aside0 (Below w.heap.size w wc))
 case first =>
  have H := HC4.out
  clear HC4
  by_cases c9 : (wrap64 (a0_0 + a0_3)) < (wrap64 (a1_0 - a1_3))
  ·rw [if_pos c9] at H
   have c9b0 : decide ((wrap64 (a0_0 + a0_3)) < (wrap64 (a1_0 - a1_3))) = true := decide_eq_true c9
   clear c9
   (first | rw [c9b0] | (simp only [i64_w, i32_w]; rw [c9b0]) | skip)
   have H' := Aside0.mk H
   clear H
   have hnb10 := NB142_143.out
   have hnc10 := NB143_142.out
   have hnb11 := NB142_144.out
   have hnc11 := NB144_142.out
   have hnb12 := NB142_145.out
   have hnc12 := NB145_142.out
   have hcz13_0 : w8.cell? ⟨gb142, 0, none⟩ = some (.int .i64 a0_0) := z_c BK142 0
   have hcz13_1 : w8.cell? ⟨gb142, 1, none⟩ = some (.int .i64 a0_1) := z_c BK142 1
   have hcz13_2 : w8.cell? ⟨gb142, 2, none⟩ = some (.int .i64 a0_2) := z_c BK142 2
   have hcz13_3 : w8.cell? ⟨gb142, 3, none⟩ = some (.int .i64 a0_3) := z_c BK142 3
   have hfz13_0 := blk_frozen BK142.out 0
   have hfz13_1 := blk_frozen BK142.out 1
   have hfz13_2 := blk_frozen BK142.out 2
   have hfz13_3 := blk_frozen BK142.out 3
   have hnb14 := NB143_144.out
   have hnc14 := NB144_143.out
   have hnb15 := NB143_145.out
   have hnc15 := NB145_143.out
   have hcz16_0 : w8.cell? ⟨gb143, 0, none⟩ = some (.int .i64 a1_0) := z_c BK143 0
   have hcz16_1 : w8.cell? ⟨gb143, 1, none⟩ = some (.int .i64 a1_1) := z_c BK143 1
   have hcz16_2 : w8.cell? ⟨gb143, 2, none⟩ = some (.int .i64 a1_2) := z_c BK143 2
   have hcz16_3 : w8.cell? ⟨gb143, 3, none⟩ = some (.int .i64 a1_3) := z_c BK143 3
   have hfz16_0 := blk_frozen BK143.out 0
   have hfz16_1 := blk_frozen BK143.out 1
   have hfz16_2 := blk_frozen BK143.out 2
   have hfz16_3 := blk_frozen BK143.out 3
   go_wp2
   go_meet
   case rel => exact ⟨_, (true), (by first | rfl | (simp; done) | (simp [*]; done)), H', ⟨by first | omega | exact Nat.le_refl _⟩, ⟨by (with_reducible repeat (first | refine blk_drewN ?_ _ | refine blk_drew ?_ | refine blk_alloc ?_ _)); exact BK142.out⟩, ⟨by (with_reducible repeat (first | refine blk_drewN ?_ _ | refine blk_drew ?_ | refine blk_alloc ?_ _)); exact BK143.out⟩, ⟨by (with_reducible repeat (first | refine blk_drewN ?_ _ | refine blk_drew ?_ | refine blk_alloc ?_ _)); exact BK144.out⟩, ⟨by (with_reducible repeat (first | refine blk_drewN ?_ _ | refine blk_drew ?_ | refine blk_alloc ?_ _)); exact BK145.out⟩, ⟨blw⟩⟩
  ·rw [if_neg c9] at H
   have c9b0 : decide ((wrap64 (a0_0 + a0_3)) < (wrap64 (a1_0 - a1_3))) = false := decide_eq_false c9
   clear c9
   (first | rw [c9b0] | (simp only [i64_w, i32_w]; rw [c9b0]) | skip)
   replace H := Option.bind_eq_some_iff.mp H
   obtain ⟨t146, A170, H⟩ := H
   replace H : (spec_l10Pair.j0 k a2 (!t146) a0_0 a0_1 a0_2 a0_3 a1_0 a1_1 a1_2 a1_3) = some (r1, r2, r3, r4, r5, r6, r7, r8) := H
   have A17 := Aside0.mk A170
   clear A170
   have H' := Aside0.mk H
   clear H
   have hnb18 := NB142_143.out
   have hnc18 := NB143_142.out
   have hnb19 := NB142_144.out
   have hnc19 := NB144_142.out
   have hnb20 := NB142_145.out
   have hnc20 := NB145_142.out
   have hcz21_0 : w8.cell? ⟨gb142, 0, none⟩ = some (.int .i64 a0_0) := z_c BK142 0
   have hcz21_1 : w8.cell? ⟨gb142, 1, none⟩ = some (.int .i64 a0_1) := z_c BK142 1
   have hcz21_2 : w8.cell? ⟨gb142, 2, none⟩ = some (.int .i64 a0_2) := z_c BK142 2
   have hcz21_3 : w8.cell? ⟨gb142, 3, none⟩ = some (.int .i64 a0_3) := z_c BK142 3
   have hfz21_0 := blk_frozen BK142.out 0
   have hfz21_1 := blk_frozen BK142.out 1
   have hfz21_2 := blk_frozen BK142.out 2
   have hfz21_3 := blk_frozen BK142.out 3
   have hnb22 := NB143_144.out
   have hnc22 := NB144_143.out
   have hnb23 := NB143_145.out
   have hnc23 := NB145_143.out
   have hcz24_0 : w8.cell? ⟨gb143, 0, none⟩ = some (.int .i64 a1_0) := z_c BK143 0
   have hcz24_1 : w8.cell? ⟨gb143, 1, none⟩ = some (.int .i64 a1_1) := z_c BK143 1
   have hcz24_2 : w8.cell? ⟨gb143, 2, none⟩ = some (.int .i64 a1_2) := z_c BK143 2
   have hcz24_3 : w8.cell? ⟨gb143, 3, none⟩ = some (.int .i64 a1_3) := z_c BK143 3
   have hfz24_0 := blk_frozen BK143.out 0
   have hfz24_1 := blk_frozen BK143.out 1
   have hfz24_2 := blk_frozen BK143.out 2
   have hfz24_3 := blk_frozen BK143.out 3
   go_wp2_with (first | (go_at_call 117; (with_reducible refine (spec_l10Near.calls k a0_0 a0_1 a0_2 a0_3 a1_0 a1_1 a1_2 a1_3 t146 _ A17.out).mono ?_); rintro e w25 ⟨rfl, hb⟩; have n0_ := z_bk BK142 hb; have n1_ := z_bk BK143 hb; have n2_ := z_bk BK144 hb; have n3_ := z_bk BK145 hb; have n4_ := z_bs HB hb; clear BK142; clear BK143; clear BK144; clear BK145; clear HB; have BK142 := n0_; have BK143 := n1_; have BK144 := n2_; have BK145 := n3_; have HB := n4_; clear n0_ n1_ n2_ n3_ n4_; (try clear hb); (try clear hb2); (try clear hk); (try clear hi)))
   go_meet
   case rel => exact ⟨_, (!t146), (by first | rfl | (simp; done) | (simp [*]; done)), H', ⟨by first | omega | exact Nat.le_refl _⟩, ⟨by (with_reducible repeat (first | refine blk_drewN ?_ _ | refine blk_drew ?_ | refine blk_alloc ?_ _)); exact BK142.out⟩, ⟨by (with_reducible repeat (first | refine blk_drewN ?_ _ | refine blk_drew ?_ | refine blk_alloc ?_ _)); exact BK143.out⟩, ⟨by (with_reducible repeat (first | refine blk_drewN ?_ _ | refine blk_drew ?_ | refine blk_alloc ?_ _)); exact BK144.out⟩, ⟨by (with_reducible repeat (first | refine blk_drewN ?_ _ | refine blk_drew ?_ | refine blk_alloc ?_ _)); exact BK145.out⟩, ⟨blw⟩⟩
 case rest =>
  clear HC4
  try clear c1
  try clear c2
  try clear p2
  try clear p6
  try clear c7
  try clear c9
  try clear c9b0
  try clear c10
  try clear c11
  try clear c12
  try clear c14
  try clear c15
  try clear c18
  try clear c19
  try clear c20
  try clear c22
  try clear c23
  try clear hcz13_0
  try clear hcz13_1
  try clear hcz13_2
  try clear hcz13_3
  try clear hcz16_0
  try clear hcz16_1
  try clear hcz16_2
  try clear hcz16_3
  try clear hcz21_0
  try clear hcz21_1
  try clear hcz21_2
  try clear hcz21_3
  try clear hcz24_0
  try clear hcz24_1
  try clear hcz24_2
  try clear hcz24_3
  try clear hfz13_0
  try clear hfz13_1
  try clear hfz13_2
  try clear hfz13_3
  try clear hfz16_0
  try clear hfz16_1
  try clear hfz16_2
  try clear hfz16_3
  try clear hfz21_0
  try clear hfz21_1
  try clear hfz21_2
  try clear hfz21_3
  try clear hfz24_0
  try clear hfz24_1
  try clear hfz24_2
  try clear hfz24_3
  obtain ⟨kq, x26_3, rfl, HA, HJ3, BK142, BK143, BK144, BK145, HB⟩ := hcut
  cases kq with
  | zero => exact absurd HA.out (by simp [spec_l10Pair.j0])
  | succ kj3 =>
   have H := HA.out
   clear HA
   simp only [spec_l10Pair.j0] at H
   by_cases c26 : x26_3 = true
   ·subst c26
    have H1 : (some (a0_0, a0_1, a0_2, a0_3, a1_0, a1_1, a1_2, a1_3)) = some (r1, r2, r3, r4, r5, r6, r7, r8) := by rw [if_pos rfl] at H; exact H
    clear H
    have H := H1
    clear H1
    simp only [Option.some.injEq, Prod.mk.injEq] at H
    obtain ⟨rfl, rfl, rfl, rfl, rfl, rfl, rfl, rfl⟩ := H
    try go_wp2
    have n0_ := Aside0.mk (blk_drew BK142.out)
    have n1_ := Aside0.mk (blk_drew BK143.out)
    have n2_ := Aside0.mk (blk_drew BK144.out)
    have n3_ := Aside0.mk (blk_drew BK145.out)
    have n4_ := Aside0.mk (below_drew1 HB.out)
    clear BK142
    clear BK143
    clear BK144
    clear BK145
    clear HB
    have BK142 := n0_
    have BK143 := n1_
    have BK144 := n2_
    have BK145 := n3_
    have HB := n4_
    clear n0_ n1_ n2_ n3_ n4_
    refine start_ (n := 4) (S := fun w' => w'.cell? ⟨gb142, 0, none⟩ = some (.int .i64 a0_0) ∧ w'.cell? ⟨gb142, 1, none⟩ = some (.int .i64 a0_1) ∧ w'.cell? ⟨gb142, 2, none⟩ = some (.int .i64 a0_2) ∧ w'.cell? ⟨gb142, 3, none⟩ = some (.int .i64 a0_3) ∧ w'.cell? ⟨gb143, 0, none⟩ = some (.int .i64 a1_0) ∧ w'.cell? ⟨gb143, 1, none⟩ = some (.int .i64 a1_1) ∧ w'.cell? ⟨gb143, 2, none⟩ = some (.int .i64 a1_2) ∧ w'.cell? ⟨gb143, 3, none⟩ = some (.int .i64 a1_3)) (ds := []) #[false, false, false, false] (by kernel_rfl) rfl rfl ⟨z_c BK142 0, z_c BK142 1, z_c BK142 2, z_c BK142 3, z_c BK143 0, z_c BK143 1, z_c BK143 2, z_c BK143 3⟩ (fun hHeld => ?_)
    generalize wc.drew = w27 at BK142 BK143 BK144 BK145 HB hHeld ⊢
    refine take_ (i := 0) (N := some 27) (v := ?_) (a' := ?_) #[true, false, false, false] rfl rfl (by kernel_rfl) (fun _ _ _ h => h) (Or.inl ⟨by rfl, ?_⟩) hHeld ?_ ?_
    rotate_left; (· (rintro w' ⟨s0, s1, s2, s3, s4, s5, s6, s7⟩; go_simp; with_reducible rfl)); rotate_left; (· (simp only [Act.put, sp1, sp2, sp3, i64_w, i32_w]; rfl))
    refine take_ (i := 1) (N := some 28) (v := ?_) (a' := ?_) #[true, true, false, false] rfl rfl (by kernel_rfl) (fun _ _ _ h => h) (Or.inl ⟨by rfl, ?_⟩) hHeld ?_ ?_
    rotate_left; (· (rintro w' ⟨s0, s1, s2, s3, s4, s5, s6, s7⟩; go_simp; with_reducible rfl)); rotate_left; (· (simp only [Act.put, sp1, sp2, sp3, i64_w, i32_w]; rfl))
    refine one_ (i := 2) (N := none) #[true, true, true, false] rfl rfl (by kernel_rfl) (by decide) (fun K hK => ?_)
    have hs28 : w27.cell? ⟨gb144, 0, none⟩ = some (.int .i64 0) := z_c BK144 0
    have hfs28 := blk_frozen BK144.out 0
    have hns28_0 := NB142_144.out
    have hns28_1 := NB143_144.out
    have hns28_3 := NB145_144.out
    have hms28_0 := NB144_142.out
    have hms28_1 := NB144_143.out
    have hms28_3 := NB144_145.out
    have hs29 : w27.cell? ⟨gb144, 1, none⟩ = some (.int .i64 0) := z_c BK144 1
    have hfs29 := blk_frozen BK144.out 1
    have hns29_0 := NB142_144.out
    have hns29_1 := NB143_144.out
    have hns29_3 := NB145_144.out
    have hms29_0 := NB144_142.out
    have hms29_1 := NB144_143.out
    have hms29_3 := NB144_145.out
    have hs30 : w27.cell? ⟨gb144, 2, none⟩ = some (.int .i64 0) := z_c BK144 2
    have hfs30 := blk_frozen BK144.out 2
    have hns30_0 := NB142_144.out
    have hns30_1 := NB143_144.out
    have hns30_3 := NB145_144.out
    have hms30_0 := NB144_142.out
    have hms30_1 := NB144_143.out
    have hms30_3 := NB144_145.out
    have hs31 : w27.cell? ⟨gb144, 3, none⟩ = some (.int .i64 0) := z_c BK144 3
    have hfs31 := blk_frozen BK144.out 3
    have hns31_0 := NB142_144.out
    have hns31_1 := NB143_144.out
    have hns31_3 := NB145_144.out
    have hms31_0 := NB144_142.out
    have hms31_1 := NB144_143.out
    have hms31_3 := NB144_145.out
    refine skip_ (w1 := ?_) (by rfl) rfl ?_ ?_
    rotate_left
    ·go_simp
     rfl
    refine hK.out _ _ ⟨((cell_far (p := ⟨gb144, _, none⟩) NB142_144.out _).trans (((cell_far (p := ⟨gb144, _, none⟩) NB142_144.out _).trans (((cell_far (p := ⟨gb144, _, none⟩) NB142_144.out _).trans (((cell_far (p := ⟨gb144, _, none⟩) NB142_144.out _).trans (hHeld.1)))))))), ((cell_far (p := ⟨gb144, _, none⟩) NB142_144.out _).trans (((cell_far (p := ⟨gb144, _, none⟩) NB142_144.out _).trans (((cell_far (p := ⟨gb144, _, none⟩) NB142_144.out _).trans (((cell_far (p := ⟨gb144, _, none⟩) NB142_144.out _).trans (hHeld.2.1)))))))), ((cell_far (p := ⟨gb144, _, none⟩) NB142_144.out _).trans (((cell_far (p := ⟨gb144, _, none⟩) NB142_144.out _).trans (((cell_far (p := ⟨gb144, _, none⟩) NB142_144.out _).trans (((cell_far (p := ⟨gb144, _, none⟩) NB142_144.out _).trans (hHeld.2.2.1)))))))), ((cell_far (p := ⟨gb144, _, none⟩) NB142_144.out _).trans (((cell_far (p := ⟨gb144, _, none⟩) NB142_144.out _).trans (((cell_far (p := ⟨gb144, _, none⟩) NB142_144.out _).trans (((cell_far (p := ⟨gb144, _, none⟩) NB142_144.out _).trans (hHeld.2.2.2.1)))))))), ((cell_far (p := ⟨gb144, _, none⟩) NB143_144.out _).trans (((cell_far (p := ⟨gb144, _, none⟩) NB143_144.out _).trans (((cell_far (p := ⟨gb144, _, none⟩) NB143_144.out _).trans (((cell_far (p := ⟨gb144, _, none⟩) NB143_144.out _).trans (hHeld.2.2.2.2.1)))))))), ((cell_far (p := ⟨gb144, _, none⟩) NB143_144.out _).trans (((cell_far (p := ⟨gb144, _, none⟩) NB143_144.out _).trans (((cell_far (p := ⟨gb144, _, none⟩) NB143_144.out _).trans (((cell_far (p := ⟨gb144, _, none⟩) NB143_144.out _).trans (hHeld.2.2.2.2.2.1)))))))), ((cell_far (p := ⟨gb144, _, none⟩) NB143_144.out _).trans (((cell_far (p := ⟨gb144, _, none⟩) NB143_144.out _).trans (((cell_far (p := ⟨gb144, _, none⟩) NB143_144.out _).trans (((cell_far (p := ⟨gb144, _, none⟩) NB143_144.out _).trans (hHeld.2.2.2.2.2.2.1)))))))), ((cell_far (p := ⟨gb144, _, none⟩) NB143_144.out _).trans (((cell_far (p := ⟨gb144, _, none⟩) NB143_144.out _).trans (((cell_far (p := ⟨gb144, _, none⟩) NB143_144.out _).trans (((cell_far (p := ⟨gb144, _, none⟩) NB143_144.out _).trans (hHeld.2.2.2.2.2.2.2))))))))⟩ (fun hHeld => ?_)
    clear hK K
    refine one_ (i := 3) (N := none) #[true, true, true, true] rfl rfl (by kernel_rfl) (by decide) (fun K hK => ?_)
    have hs32 : w27.cell? ⟨gb145, 0, none⟩ = some (.int .i64 0) := z_c BK145 0
    have hfs32 := blk_frozen BK145.out 0
    have hns32_0 := NB142_145.out
    have hns32_1 := NB143_145.out
    have hns32_2 := NB144_145.out
    have hms32_0 := NB145_142.out
    have hms32_1 := NB145_143.out
    have hms32_2 := NB145_144.out
    have hs33 : w27.cell? ⟨gb145, 1, none⟩ = some (.int .i64 0) := z_c BK145 1
    have hfs33 := blk_frozen BK145.out 1
    have hns33_0 := NB142_145.out
    have hns33_1 := NB143_145.out
    have hns33_2 := NB144_145.out
    have hms33_0 := NB145_142.out
    have hms33_1 := NB145_143.out
    have hms33_2 := NB145_144.out
    have hs34 : w27.cell? ⟨gb145, 2, none⟩ = some (.int .i64 0) := z_c BK145 2
    have hfs34 := blk_frozen BK145.out 2
    have hns34_0 := NB142_145.out
    have hns34_1 := NB143_145.out
    have hns34_2 := NB144_145.out
    have hms34_0 := NB145_142.out
    have hms34_1 := NB145_143.out
    have hms34_2 := NB145_144.out
    have hs35 : w27.cell? ⟨gb145, 3, none⟩ = some (.int .i64 0) := z_c BK145 3
    have hfs35 := blk_frozen BK145.out 3
    have hns35_0 := NB142_145.out
    have hns35_1 := NB143_145.out
    have hns35_2 := NB144_145.out
    have hms35_0 := NB145_142.out
    have hms35_1 := NB145_143.out
    have hms35_2 := NB145_144.out
    refine skip_ (w1 := ?_) (by rfl) rfl ?_ ?_
    rotate_left
    ·go_simp
     rfl
    refine hK.out _ _ ⟨((cell_far (p := ⟨gb145, _, none⟩) NB142_145.out _).trans (((cell_far (p := ⟨gb145, _, none⟩) NB142_145.out _).trans (((cell_far (p := ⟨gb145, _, none⟩) NB142_145.out _).trans (((cell_far (p := ⟨gb145, _, none⟩) NB142_145.out _).trans (hHeld.1)))))))), ((cell_far (p := ⟨gb145, _, none⟩) NB142_145.out _).trans (((cell_far (p := ⟨gb145, _, none⟩) NB142_145.out _).trans (((cell_far (p := ⟨gb145, _, none⟩) NB142_145.out _).trans (((cell_far (p := ⟨gb145, _, none⟩) NB142_145.out _).trans (hHeld.2.1)))))))), ((cell_far (p := ⟨gb145, _, none⟩) NB142_145.out _).trans (((cell_far (p := ⟨gb145, _, none⟩) NB142_145.out _).trans (((cell_far (p := ⟨gb145, _, none⟩) NB142_145.out _).trans (((cell_far (p := ⟨gb145, _, none⟩) NB142_145.out _).trans (hHeld.2.2.1)))))))), ((cell_far (p := ⟨gb145, _, none⟩) NB142_145.out _).trans (((cell_far (p := ⟨gb145, _, none⟩) NB142_145.out _).trans (((cell_far (p := ⟨gb145, _, none⟩) NB142_145.out _).trans (((cell_far (p := ⟨gb145, _, none⟩) NB142_145.out _).trans (hHeld.2.2.2.1)))))))), ((cell_far (p := ⟨gb145, _, none⟩) NB143_145.out _).trans (((cell_far (p := ⟨gb145, _, none⟩) NB143_145.out _).trans (((cell_far (p := ⟨gb145, _, none⟩) NB143_145.out _).trans (((cell_far (p := ⟨gb145, _, none⟩) NB143_145.out _).trans (hHeld.2.2.2.2.1)))))))), ((cell_far (p := ⟨gb145, _, none⟩) NB143_145.out _).trans (((cell_far (p := ⟨gb145, _, none⟩) NB143_145.out _).trans (((cell_far (p := ⟨gb145, _, none⟩) NB143_145.out _).trans (((cell_far (p := ⟨gb145, _, none⟩) NB143_145.out _).trans (hHeld.2.2.2.2.2.1)))))))), ((cell_far (p := ⟨gb145, _, none⟩) NB143_145.out _).trans (((cell_far (p := ⟨gb145, _, none⟩) NB143_145.out _).trans (((cell_far (p := ⟨gb145, _, none⟩) NB143_145.out _).trans (((cell_far (p := ⟨gb145, _, none⟩) NB143_145.out _).trans (hHeld.2.2.2.2.2.2.1)))))))), ((cell_far (p := ⟨gb145, _, none⟩) NB143_145.out _).trans (((cell_far (p := ⟨gb145, _, none⟩) NB143_145.out _).trans (((cell_far (p := ⟨gb145, _, none⟩) NB143_145.out _).trans (((cell_far (p := ⟨gb145, _, none⟩) NB143_145.out _).trans (hHeld.2.2.2.2.2.2.2))))))))⟩ (fun hHeld => ?_)
    clear hK K
    refine done_ (by kernel_rfl) ?_
    try go_wp2
    refine bodyPost_ret (results_cc rfl _ _ gb144 gb145 31 31 #[.int .i64 a0_0, .int .i64 a0_1, .int .i64 a0_2, .int .i64 a0_3] #[.int .i64 a1_0, .int .i64 a1_1, .int .i64 a1_2, .int .i64 a1_3] (0, 0) (0, 0) _ _ rfl (by (with_reducible repeat (first | refine blk_drewN ?_ _ | refine blk_drew ?_ | refine blk_alloc ?_ _)); refine blk_far ?_ NB144_145.out _; (with_reducible repeat (first | refine blk_drewN ?_ _ | refine blk_drew ?_ | refine blk_alloc ?_ _)); refine blk_far ?_ NB144_145.out _; (with_reducible repeat (first | refine blk_drewN ?_ _ | refine blk_drew ?_ | refine blk_alloc ?_ _)); refine blk_far ?_ NB144_145.out _; (with_reducible repeat (first | refine blk_drewN ?_ _ | refine blk_drew ?_ | refine blk_alloc ?_ _)); refine blk_far ?_ NB144_145.out _; (with_reducible repeat (first | refine blk_drewN ?_ _ | refine blk_drew ?_ | refine blk_alloc ?_ _)); refine blk_put (cs := #[.int .i64 a0_0, .int .i64 a0_1, .int .i64 a0_2, .int .i64 0]) ?_ 3 _ rfl; (with_reducible repeat (first | refine blk_drewN ?_ _ | refine blk_drew ?_ | refine blk_alloc ?_ _)); refine blk_put (cs := #[.int .i64 a0_0, .int .i64 a0_1, .int .i64 0, .int .i64 0]) ?_ 2 _ rfl; (with_reducible repeat (first | refine blk_drewN ?_ _ | refine blk_drew ?_ | refine blk_alloc ?_ _)); refine blk_put (cs := #[.int .i64 a0_0, .int .i64 0, .int .i64 0, .int .i64 0]) ?_ 1 _ rfl; (with_reducible repeat (first | refine blk_drewN ?_ _ | refine blk_drew ?_ | refine blk_alloc ?_ _)); refine blk_put (cs := #[.int .i64 0, .int .i64 0, .int .i64 0, .int .i64 0]) ?_ 0 _ rfl; (with_reducible repeat (first | refine blk_drewN ?_ _ | refine blk_drew ?_ | refine blk_alloc ?_ _)); exact BK144.out) Try.underlying31 rfl (by kernel_rfl) rfl (by (with_reducible repeat (first | refine blk_drewN ?_ _ | refine blk_drew ?_ | refine blk_alloc ?_ _)); refine blk_put (cs := #[.int .i64 a1_0, .int .i64 a1_1, .int .i64 a1_2, .int .i64 0]) ?_ 3 _ rfl; (with_reducible repeat (first | refine blk_drewN ?_ _ | refine blk_drew ?_ | refine blk_alloc ?_ _)); refine blk_put (cs := #[.int .i64 a1_0, .int .i64 a1_1, .int .i64 0, .int .i64 0]) ?_ 2 _ rfl; (with_reducible repeat (first | refine blk_drewN ?_ _ | refine blk_drew ?_ | refine blk_alloc ?_ _)); refine blk_put (cs := #[.int .i64 a1_0, .int .i64 0, .int .i64 0, .int .i64 0]) ?_ 1 _ rfl; (with_reducible repeat (first | refine blk_drewN ?_ _ | refine blk_drew ?_ | refine blk_alloc ?_ _)); refine blk_put (cs := #[.int .i64 0, .int .i64 0, .int .i64 0, .int .i64 0]) ?_ 0 _ rfl; (with_reducible repeat (first | refine blk_drewN ?_ _ | refine blk_drew ?_ | refine blk_alloc ?_ _)); refine blk_far ?_ NB145_144.out _; (with_reducible repeat (first | refine blk_drewN ?_ _ | refine blk_drew ?_ | refine blk_alloc ?_ _)); refine blk_far ?_ NB145_144.out _; (with_reducible repeat (first | refine blk_drewN ?_ _ | refine blk_drew ?_ | refine blk_alloc ?_ _)); refine blk_far ?_ NB145_144.out _; (with_reducible repeat (first | refine blk_drewN ?_ _ | refine blk_drew ?_ | refine blk_alloc ?_ _)); refine blk_far ?_ NB145_144.out _; (with_reducible repeat (first | refine blk_drewN ?_ _ | refine blk_drew ?_ | refine blk_alloc ?_ _)); exact BK145.out) Try.underlying31 rfl (by kernel_rfl)) rfl ?_
    exact ⟨by first | rfl | (simp [errW_none, errW_some] <;> rfl) | (simp [*, errW_none, errW_some] <;> rfl), blw⟩
   ·replace c26 := Bool.eq_false_iff.mpr c26
    subst c26
    have H1 : (if a0_2 = 0 then (spec_l10Pair.j1 kj3 (wrap64 (Int.tdiv (wrap64 ((wrap64 (100 + a2)) * (wrap64 (-a1_1)))) 100)) a0_0 a0_1 a0_2 a0_3 a1_0 a1_1 a1_2 a1_3) else (if a1_2 = 0 then (spec_l10Pair.j1 kj3 (wrap64 (Int.tdiv (wrap64 ((wrap64 (100 + a2)) * a0_1)) 100)) a0_0 a0_1 a0_2 a0_3 a1_0 a1_1 a1_2 a1_3) else (if (wrap64 (100 * (wrap64 (a0_2 + a1_2)))) = 0 then (none) else (spec_l10Pair.j1 kj3 (wrap64 (Int.tdiv (wrap64 ((wrap64 (100 + a2)) * (wrap64 ((wrap64 (a0_1 * a1_2)) - (wrap64 (a1_1 * a0_2)))))) (wrap64 (100 * (wrap64 (a0_2 + a1_2)))))) a0_0 a0_1 a0_2 a0_3 a1_0 a1_1 a1_2 a1_3)))) = some (r1, r2, r3, r4, r5, r6, r7, r8) := by rw [if_neg (show ¬ (false = true) by decide)] at H; exact H
    clear H
    have H := H1
    clear H1
    have HC36 := Aside0.mk H
    clear H
    go_upto_block 0 with (fail)
    go_cut [9] (fun v9 wc => ∃ (kq : Nat) (x9_35 : Int), v9 = .int .i64 x9_35 ∧ Aside0 (spec_l10Pair.j1 kq x9_35 a0_0 a0_1 a0_2 a0_3 a1_0 a1_1 a1_2 a1_3 = some (r1, r2, r3, r4, r5, r6, r7, r8)) ∧ Aside0 (kq ≤ kj3) ∧ Aside0 (wc.heap[gb142]? = some (.cells #[.int .i64 a0_0, .int .i64 a0_1, .int .i64 a0_2, .int .i64 a0_3] 31 (0, 0))) ∧ Aside0 (wc.heap[gb143]? = some (.cells #[.int .i64 a1_0, .int .i64 a1_1, .int .i64 a1_2, .int .i64 a1_3] 31 (0, 0))) ∧ Aside0 (wc.heap[gb144]? = some (.cells #[.int .i64 0, .int .i64 0, .int .i64 0, .int .i64 0] 31 (0, 0))) ∧ Aside0 (wc.heap[gb145]? = some (.cells #[.int .i64 0, .int .i64 0, .int .i64 0, .int .i64 0] 31 (0, 0))) ∧ Aside0 (Below w.heap.size w wc))
    case first =>
     have H := HC36.out
     clear HC36
     by_cases c37 : a0_2 = 0
     ·rw [if_pos c37] at H
      have c37b0 : (a0_2 == 0) = true := beq_iff_eq.mpr c37
      have c37b1 : (a0_2 != 0) = false := bne_eq_false_iff_eq.mpr c37
      clear c37
      (first | rw [c37b0] | (simp only [i64_w, i32_w]; rw [c37b0]) | skip)
      have H' := Aside0.mk H
      clear H
      have hnb38 := NB142_143.out
      have hnc38 := NB143_142.out
      have hnb39 := NB142_144.out
      have hnc39 := NB144_142.out
      have hnb40 := NB142_145.out
      have hnc40 := NB145_142.out
      have hcz41_0 : wc.cell? ⟨gb142, 0, none⟩ = some (.int .i64 a0_0) := z_c BK142 0
      have hcz41_1 : wc.cell? ⟨gb142, 1, none⟩ = some (.int .i64 a0_1) := z_c BK142 1
      have hcz41_2 : wc.cell? ⟨gb142, 2, none⟩ = some (.int .i64 a0_2) := z_c BK142 2
      have hcz41_3 : wc.cell? ⟨gb142, 3, none⟩ = some (.int .i64 a0_3) := z_c BK142 3
      have hfz41_0 := blk_frozen BK142.out 0
      have hfz41_1 := blk_frozen BK142.out 1
      have hfz41_2 := blk_frozen BK142.out 2
      have hfz41_3 := blk_frozen BK142.out 3
      have hnb42 := NB143_144.out
      have hnc42 := NB144_143.out
      have hnb43 := NB143_145.out
      have hnc43 := NB145_143.out
      have hcz44_0 : wc.cell? ⟨gb143, 0, none⟩ = some (.int .i64 a1_0) := z_c BK143 0
      have hcz44_1 : wc.cell? ⟨gb143, 1, none⟩ = some (.int .i64 a1_1) := z_c BK143 1
      have hcz44_2 : wc.cell? ⟨gb143, 2, none⟩ = some (.int .i64 a1_2) := z_c BK143 2
      have hcz44_3 : wc.cell? ⟨gb143, 3, none⟩ = some (.int .i64 a1_3) := z_c BK143 3
      have hfz44_0 := blk_frozen BK143.out 0
      have hfz44_1 := blk_frozen BK143.out 1
      have hfz44_2 := blk_frozen BK143.out 2
      have hfz44_3 := blk_frozen BK143.out 3
      go_wp2
      go_meet
      case rel => exact ⟨_, (wrap64 (Int.tdiv (wrap64 ((wrap64 (100 + a2)) * (wrap64 (-a1_1)))) 100)), (by first | rfl | (simp; done) | (simp [*]; done)), H', ⟨by have := HJ3.out; first | omega | exact Nat.le_refl _⟩, ⟨by (with_reducible repeat (first | refine blk_drewN ?_ _ | refine blk_drew ?_ | refine blk_alloc ?_ _)); exact BK142.out⟩, ⟨by (with_reducible repeat (first | refine blk_drewN ?_ _ | refine blk_drew ?_ | refine blk_alloc ?_ _)); exact BK143.out⟩, ⟨by (with_reducible repeat (first | refine blk_drewN ?_ _ | refine blk_drew ?_ | refine blk_alloc ?_ _)); exact BK144.out⟩, ⟨by (with_reducible repeat (first | refine blk_drewN ?_ _ | refine blk_drew ?_ | refine blk_alloc ?_ _)); exact BK145.out⟩, ⟨blw⟩⟩
     ·rw [if_neg c37] at H
      have c37b0 : (a0_2 == 0) = false := beq_eq_false_iff_ne.mpr c37
      have c37b1 : (a0_2 != 0) = true := bne_iff_ne.mpr c37
      (first | rw [c37b0] | (simp only [i64_w, i32_w]; rw [c37b0]) | skip)
      by_cases c45 : a1_2 = 0
      ·rw [if_pos c45] at H
       have c45b0 : (a1_2 == 0) = true := beq_iff_eq.mpr c45
       have c45b1 : (a1_2 != 0) = false := bne_eq_false_iff_eq.mpr c45
       clear c45
       have H' := Aside0.mk H
       clear H
       have hnb46 := NB142_143.out
       have hnc46 := NB143_142.out
       have hnb47 := NB142_144.out
       have hnc47 := NB144_142.out
       have hnb48 := NB142_145.out
       have hnc48 := NB145_142.out
       have hcz49_0 : wc.cell? ⟨gb142, 0, none⟩ = some (.int .i64 a0_0) := z_c BK142 0
       have hcz49_1 : wc.cell? ⟨gb142, 1, none⟩ = some (.int .i64 a0_1) := z_c BK142 1
       have hcz49_2 : wc.cell? ⟨gb142, 2, none⟩ = some (.int .i64 a0_2) := z_c BK142 2
       have hcz49_3 : wc.cell? ⟨gb142, 3, none⟩ = some (.int .i64 a0_3) := z_c BK142 3
       have hfz49_0 := blk_frozen BK142.out 0
       have hfz49_1 := blk_frozen BK142.out 1
       have hfz49_2 := blk_frozen BK142.out 2
       have hfz49_3 := blk_frozen BK142.out 3
       have hnb50 := NB143_144.out
       have hnc50 := NB144_143.out
       have hnb51 := NB143_145.out
       have hnc51 := NB145_143.out
       have hcz52_0 : wc.cell? ⟨gb143, 0, none⟩ = some (.int .i64 a1_0) := z_c BK143 0
       have hcz52_1 : wc.cell? ⟨gb143, 1, none⟩ = some (.int .i64 a1_1) := z_c BK143 1
       have hcz52_2 : wc.cell? ⟨gb143, 2, none⟩ = some (.int .i64 a1_2) := z_c BK143 2
       have hcz52_3 : wc.cell? ⟨gb143, 3, none⟩ = some (.int .i64 a1_3) := z_c BK143 3
       have hfz52_0 := blk_frozen BK143.out 0
       have hfz52_1 := blk_frozen BK143.out 1
       have hfz52_2 := blk_frozen BK143.out 2
       have hfz52_3 := blk_frozen BK143.out 3
       go_wp2
       go_meet
       case rel => exact ⟨_, (wrap64 (Int.tdiv (wrap64 ((wrap64 (100 + a2)) * a0_1)) 100)), (by first | rfl | (simp; done) | (simp [*]; done)), H', ⟨by have := HJ3.out; first | omega | exact Nat.le_refl _⟩, ⟨by (with_reducible repeat (first | refine blk_drewN ?_ _ | refine blk_drew ?_ | refine blk_alloc ?_ _)); exact BK142.out⟩, ⟨by (with_reducible repeat (first | refine blk_drewN ?_ _ | refine blk_drew ?_ | refine blk_alloc ?_ _)); exact BK143.out⟩, ⟨by (with_reducible repeat (first | refine blk_drewN ?_ _ | refine blk_drew ?_ | refine blk_alloc ?_ _)); exact BK144.out⟩, ⟨by (with_reducible repeat (first | refine blk_drewN ?_ _ | refine blk_drew ?_ | refine blk_alloc ?_ _)); exact BK145.out⟩, ⟨blw⟩⟩
      ·rw [if_neg c45] at H
       have c45b0 : (a1_2 == 0) = false := beq_eq_false_iff_ne.mpr c45
       have c45b1 : (a1_2 != 0) = true := bne_iff_ne.mpr c45
       by_cases c53 : (wrap64 (100 * (wrap64 (a0_2 + a1_2)))) = 0
       ·rw [if_pos c53] at H
        exact absurd H (by simp)
       ·rw [if_neg c53] at H
        have c53b0 : ((wrap64 (100 * (wrap64 (a0_2 + a1_2)))) == 0) = false := beq_eq_false_iff_ne.mpr c53
        have c53b1 : ((wrap64 (100 * (wrap64 (a0_2 + a1_2)))) != 0) = true := bne_iff_ne.mpr c53
        have H' := Aside0.mk H
        clear H
        have hnb54 := NB142_143.out
        have hnc54 := NB143_142.out
        have hnb55 := NB142_144.out
        have hnc55 := NB144_142.out
        have hnb56 := NB142_145.out
        have hnc56 := NB145_142.out
        have hcz57_0 : wc.cell? ⟨gb142, 0, none⟩ = some (.int .i64 a0_0) := z_c BK142 0
        have hcz57_1 : wc.cell? ⟨gb142, 1, none⟩ = some (.int .i64 a0_1) := z_c BK142 1
        have hcz57_2 : wc.cell? ⟨gb142, 2, none⟩ = some (.int .i64 a0_2) := z_c BK142 2
        have hcz57_3 : wc.cell? ⟨gb142, 3, none⟩ = some (.int .i64 a0_3) := z_c BK142 3
        have hfz57_0 := blk_frozen BK142.out 0
        have hfz57_1 := blk_frozen BK142.out 1
        have hfz57_2 := blk_frozen BK142.out 2
        have hfz57_3 := blk_frozen BK142.out 3
        have hnb58 := NB143_144.out
        have hnc58 := NB144_143.out
        have hnb59 := NB143_145.out
        have hnc59 := NB145_143.out
        have hcz60_0 : wc.cell? ⟨gb143, 0, none⟩ = some (.int .i64 a1_0) := z_c BK143 0
        have hcz60_1 : wc.cell? ⟨gb143, 1, none⟩ = some (.int .i64 a1_1) := z_c BK143 1
        have hcz60_2 : wc.cell? ⟨gb143, 2, none⟩ = some (.int .i64 a1_2) := z_c BK143 2
        have hcz60_3 : wc.cell? ⟨gb143, 3, none⟩ = some (.int .i64 a1_3) := z_c BK143 3
        have hfz60_0 := blk_frozen BK143.out 0
        have hfz60_1 := blk_frozen BK143.out 1
        have hfz60_2 := blk_frozen BK143.out 2
        have hfz60_3 := blk_frozen BK143.out 3
        go_wp2
        go_meet
        case rel => exact ⟨_, (wrap64 (Int.tdiv (wrap64 ((wrap64 (100 + a2)) * (wrap64 ((wrap64 (a0_1 * a1_2)) - (wrap64 (a1_1 * a0_2)))))) (wrap64 (100 * (wrap64 (a0_2 + a1_2)))))), (by first | rfl | (simp; done) | (simp [*]; done)), H', ⟨by have := HJ3.out; first | omega | exact Nat.le_refl _⟩, ⟨by (with_reducible repeat (first | refine blk_drewN ?_ _ | refine blk_drew ?_ | refine blk_alloc ?_ _)); exact BK142.out⟩, ⟨by (with_reducible repeat (first | refine blk_drewN ?_ _ | refine blk_drew ?_ | refine blk_alloc ?_ _)); exact BK143.out⟩, ⟨by (with_reducible repeat (first | refine blk_drewN ?_ _ | refine blk_drew ?_ | refine blk_alloc ?_ _)); exact BK144.out⟩, ⟨by (with_reducible repeat (first | refine blk_drewN ?_ _ | refine blk_drew ?_ | refine blk_alloc ?_ _)); exact BK145.out⟩, ⟨blw⟩⟩
    case rest =>
     clear HC36
     try clear c1
     try clear c2
     try clear p2
     try clear c3
     try clear c4
     try clear c5
     try clear p6
     try clear c7
     try clear c9
     try clear c9b0
     try clear c10
     try clear c11
     try clear c12
     try clear c14
     try clear c15
     try clear c18
     try clear c19
     try clear c20
     try clear c22
     try clear c23
     try clear c26
     try clear c37
     try clear c37b0
     try clear c37b1
     try clear c38
     try clear c39
     try clear c40
     try clear c42
     try clear c43
     try clear c45
     try clear c45b0
     try clear c45b1
     try clear c46
     try clear c47
     try clear c48
     try clear c50
     try clear c51
     try clear c53
     try clear c53b0
     try clear c53b1
     try clear c54
     try clear c55
     try clear c56
     try clear c58
     try clear c59
     try clear hcz13_0
     try clear hcz13_1
     try clear hcz13_2
     try clear hcz13_3
     try clear hcz16_0
     try clear hcz16_1
     try clear hcz16_2
     try clear hcz16_3
     try clear hcz21_0
     try clear hcz21_1
     try clear hcz21_2
     try clear hcz21_3
     try clear hcz24_0
     try clear hcz24_1
     try clear hcz24_2
     try clear hcz24_3
     try clear hcz41_0
     try clear hcz41_1
     try clear hcz41_2
     try clear hcz41_3
     try clear hcz44_0
     try clear hcz44_1
     try clear hcz44_2
     try clear hcz44_3
     try clear hcz49_0
     try clear hcz49_1
     try clear hcz49_2
     try clear hcz49_3
     try clear hcz52_0
     try clear hcz52_1
     try clear hcz52_2
     try clear hcz52_3
     try clear hcz57_0
     try clear hcz57_1
     try clear hcz57_2
     try clear hcz57_3
     try clear hcz60_0
     try clear hcz60_1
     try clear hcz60_2
     try clear hcz60_3
     try clear hfz13_0
     try clear hfz13_1
     try clear hfz13_2
     try clear hfz13_3
     try clear hfz16_0
     try clear hfz16_1
     try clear hfz16_2
     try clear hfz16_3
     try clear hfz21_0
     try clear hfz21_1
     try clear hfz21_2
     try clear hfz21_3
     try clear hfz24_0
     try clear hfz24_1
     try clear hfz24_2
     try clear hfz24_3
     try clear hfz41_0
     try clear hfz41_1
     try clear hfz41_2
     try clear hfz41_3
     try clear hfz44_0
     try clear hfz44_1
     try clear hfz44_2
     try clear hfz44_3
     try clear hfz49_0
     try clear hfz49_1
     try clear hfz49_2
     try clear hfz49_3
     try clear hfz52_0
     try clear hfz52_1
     try clear hfz52_2
     try clear hfz52_3
     try clear hfz57_0
     try clear hfz57_1
     try clear hfz57_2
     try clear hfz57_3
     try clear hfz60_0
     try clear hfz60_1
     try clear hfz60_2
     try clear hfz60_3
     try clear p2
     try clear p6
     obtain ⟨kq, x9_35, rfl, HA, HJ35, BK142, BK143, BK144, BK145, HB⟩ := hcut
     cases kq with
     | zero => exact absurd HA.out (by simp [spec_l10Pair.j1])
     | succ kj35 =>
      have H := HA.out
      clear HA
      simp only [spec_l10Pair.j1] at H
      by_cases c61 : a0_2 > 0
      ·rw [if_pos c61] at H
       have c61b0 : decide (0 < a0_2) = true := decide_eq_true c61
       clear c61
       by_cases c62 : a1_2 > 0
       ·rw [if_pos c62] at H
        have c62b0 : decide (0 < a1_2) = true := decide_eq_true c62
        clear c62
        simp only [Option.some.injEq, Prod.mk.injEq] at H
        obtain ⟨rfl, rfl, rfl, rfl, rfl, rfl, rfl, rfl⟩ := H
        have hnb63 := NB142_143.out
        have hnc63 := NB143_142.out
        have hnb64 := NB142_144.out
        have hnc64 := NB144_142.out
        have hnb65 := NB142_145.out
        have hnc65 := NB145_142.out
        have hcz66_0 : wc.cell? ⟨gb142, 0, none⟩ = some (.int .i64 a0_0) := z_c BK142 0
        have hcz66_1 : wc.cell? ⟨gb142, 1, none⟩ = some (.int .i64 a0_1) := z_c BK142 1
        have hcz66_2 : wc.cell? ⟨gb142, 2, none⟩ = some (.int .i64 a0_2) := z_c BK142 2
        have hcz66_3 : wc.cell? ⟨gb142, 3, none⟩ = some (.int .i64 a0_3) := z_c BK142 3
        have hfz66_0 := blk_frozen BK142.out 0
        have hfz66_1 := blk_frozen BK142.out 1
        have hfz66_2 := blk_frozen BK142.out 2
        have hfz66_3 := blk_frozen BK142.out 3
        have hnb67 := NB143_144.out
        have hnc67 := NB144_143.out
        have hnb68 := NB143_145.out
        have hnc68 := NB145_143.out
        have hcz69_0 : wc.cell? ⟨gb143, 0, none⟩ = some (.int .i64 a1_0) := z_c BK143 0
        have hcz69_1 : wc.cell? ⟨gb143, 1, none⟩ = some (.int .i64 a1_1) := z_c BK143 1
        have hcz69_2 : wc.cell? ⟨gb143, 2, none⟩ = some (.int .i64 a1_2) := z_c BK143 2
        have hcz69_3 : wc.cell? ⟨gb143, 3, none⟩ = some (.int .i64 a1_3) := z_c BK143 3
        have hfz69_0 := blk_frozen BK143.out 0
        have hfz69_1 := blk_frozen BK143.out 1
        have hfz69_2 := blk_frozen BK143.out 2
        have hfz69_3 := blk_frozen BK143.out 3
        try go_wp2
        have n0_ : Aside0 (((wc.setCell ⟨gb142, 1, none⟩ (.int .i64 (wrap64 (a0_1 - x9_35)))).setCell ⟨gb143, 1, none⟩ (.int .i64 (wrap64 (a1_1 + x9_35)))).heap[gb142]? = some (.cells #[.int .i64 a0_0, .int .i64 (wrap64 (a0_1 - x9_35)), .int .i64 a0_2, .int .i64 a0_3] 31 (0, 0))) := ⟨by (with_reducible repeat (first | refine blk_drewN ?_ _ | refine blk_drew ?_ | refine blk_alloc ?_ _)); refine blk_far ?_ NB142_143.out _; (with_reducible repeat (first | refine blk_drewN ?_ _ | refine blk_drew ?_ | refine blk_alloc ?_ _)); refine blk_put (cs := #[.int .i64 a0_0, .int .i64 a0_1, .int .i64 a0_2, .int .i64 a0_3]) ?_ 1 _ rfl; (with_reducible repeat (first | refine blk_drewN ?_ _ | refine blk_drew ?_ | refine blk_alloc ?_ _)); exact BK142.out⟩
        have n1_ : Aside0 (((wc.setCell ⟨gb142, 1, none⟩ (.int .i64 (wrap64 (a0_1 - x9_35)))).setCell ⟨gb143, 1, none⟩ (.int .i64 (wrap64 (a1_1 + x9_35)))).heap[gb143]? = some (.cells #[.int .i64 a1_0, .int .i64 (wrap64 (a1_1 + x9_35)), .int .i64 a1_2, .int .i64 a1_3] 31 (0, 0))) := ⟨by (with_reducible repeat (first | refine blk_drewN ?_ _ | refine blk_drew ?_ | refine blk_alloc ?_ _)); refine blk_put (cs := #[.int .i64 a1_0, .int .i64 a1_1, .int .i64 a1_2, .int .i64 a1_3]) ?_ 1 _ rfl; (with_reducible repeat (first | refine blk_drewN ?_ _ | refine blk_drew ?_ | refine blk_alloc ?_ _)); refine blk_far ?_ NB143_142.out _; (with_reducible repeat (first | refine blk_drewN ?_ _ | refine blk_drew ?_ | refine blk_alloc ?_ _)); exact BK143.out⟩
        have n2_ : Aside0 (((wc.setCell ⟨gb142, 1, none⟩ (.int .i64 (wrap64 (a0_1 - x9_35)))).setCell ⟨gb143, 1, none⟩ (.int .i64 (wrap64 (a1_1 + x9_35)))).heap[gb144]? = some (.cells #[.int .i64 0, .int .i64 0, .int .i64 0, .int .i64 0] 31 (0, 0))) := ⟨by (with_reducible repeat (first | refine blk_drewN ?_ _ | refine blk_drew ?_ | refine blk_alloc ?_ _)); refine blk_far ?_ NB144_143.out _; (with_reducible repeat (first | refine blk_drewN ?_ _ | refine blk_drew ?_ | refine blk_alloc ?_ _)); refine blk_far ?_ NB144_142.out _; (with_reducible repeat (first | refine blk_drewN ?_ _ | refine blk_drew ?_ | refine blk_alloc ?_ _)); exact BK144.out⟩
        have n3_ : Aside0 (((wc.setCell ⟨gb142, 1, none⟩ (.int .i64 (wrap64 (a0_1 - x9_35)))).setCell ⟨gb143, 1, none⟩ (.int .i64 (wrap64 (a1_1 + x9_35)))).heap[gb145]? = some (.cells #[.int .i64 0, .int .i64 0, .int .i64 0, .int .i64 0] 31 (0, 0))) := ⟨by (with_reducible repeat (first | refine blk_drewN ?_ _ | refine blk_drew ?_ | refine blk_alloc ?_ _)); refine blk_far ?_ NB145_143.out _; (with_reducible repeat (first | refine blk_drewN ?_ _ | refine blk_drew ?_ | refine blk_alloc ?_ _)); refine blk_far ?_ NB145_142.out _; (with_reducible repeat (first | refine blk_drewN ?_ _ | refine blk_drew ?_ | refine blk_alloc ?_ _)); exact BK145.out⟩
        have n4_ : Aside0 (Below w.heap.size w ((wc.setCell ⟨gb142, 1, none⟩ (.int .i64 (wrap64 (a0_1 - x9_35)))).setCell ⟨gb143, 1, none⟩ (.int .i64 (wrap64 (a1_1 + x9_35))))) := ⟨blw⟩
        (try clear BK142)
        (try clear BK143)
        (try clear BK144)
        (try clear BK145)
        (try clear HB)
        generalize ((wc.setCell ⟨gb142, 1, none⟩ (.int .i64 (wrap64 (a0_1 - x9_35)))).setCell ⟨gb143, 1, none⟩ (.int .i64 (wrap64 (a1_1 + x9_35)))) = w70 at n0_ n1_ n2_ n3_ n4_ ⊢
        have BK142 := n0_
        have BK143 := n1_
        have BK144 := n2_
        have BK145 := n3_
        have HB := n4_
        clear n0_ n1_ n2_ n3_ n4_
        have n0_ := Aside0.mk (blk_drew BK142.out)
        have n1_ := Aside0.mk (blk_drew BK143.out)
        have n2_ := Aside0.mk (blk_drew BK144.out)
        have n3_ := Aside0.mk (blk_drew BK145.out)
        have n4_ := Aside0.mk (below_drew1 HB.out)
        clear BK142
        clear BK143
        clear BK144
        clear BK145
        clear HB
        have BK142 := n0_
        have BK143 := n1_
        have BK144 := n2_
        have BK145 := n3_
        have HB := n4_
        clear n0_ n1_ n2_ n3_ n4_
        refine start_ (n := 4) (S := fun w' => w'.cell? ⟨gb142, 0, none⟩ = some (.int .i64 a0_0) ∧ w'.cell? ⟨gb142, 1, none⟩ = some (.int .i64 (wrap64 (a0_1 - x9_35))) ∧ w'.cell? ⟨gb142, 2, none⟩ = some (.int .i64 a0_2) ∧ w'.cell? ⟨gb142, 3, none⟩ = some (.int .i64 a0_3) ∧ w'.cell? ⟨gb143, 0, none⟩ = some (.int .i64 a1_0) ∧ w'.cell? ⟨gb143, 1, none⟩ = some (.int .i64 (wrap64 (a1_1 + x9_35))) ∧ w'.cell? ⟨gb143, 2, none⟩ = some (.int .i64 a1_2) ∧ w'.cell? ⟨gb143, 3, none⟩ = some (.int .i64 a1_3)) (ds := []) #[false, false, false, false] (by kernel_rfl) rfl rfl ⟨z_c BK142 0, z_c BK142 1, z_c BK142 2, z_c BK142 3, z_c BK143 0, z_c BK143 1, z_c BK143 2, z_c BK143 3⟩ (fun hHeld => ?_)
        generalize w70.drew = w71 at BK142 BK143 BK144 BK145 HB hHeld ⊢
        refine take_ (i := 0) (N := some 86) (v := ?_) (a' := ?_) #[true, false, false, false] rfl rfl (by kernel_rfl) (fun _ _ _ h => h) (Or.inl ⟨by rfl, ?_⟩) hHeld ?_ ?_
        rotate_left; (· (rintro w' ⟨s0, s1, s2, s3, s4, s5, s6, s7⟩; go_simp; with_reducible rfl)); rotate_left; (· (simp only [Act.put, sp1, sp2, sp3, i64_w, i32_w]; rfl))
        refine take_ (i := 1) (N := some 87) (v := ?_) (a' := ?_) #[true, true, false, false] rfl rfl (by kernel_rfl) (fun _ _ _ h => h) (Or.inl ⟨by rfl, ?_⟩) hHeld ?_ ?_
        rotate_left; (· (rintro w' ⟨s0, s1, s2, s3, s4, s5, s6, s7⟩; go_simp; with_reducible rfl)); rotate_left; (· (simp only [Act.put, sp1, sp2, sp3, i64_w, i32_w]; rfl))
        refine one_ (i := 2) (N := none) #[true, true, true, false] rfl rfl (by kernel_rfl) (by decide) (fun K hK => ?_)
        have hs72 : w71.cell? ⟨gb144, 0, none⟩ = some (.int .i64 0) := z_c BK144 0
        have hfs72 := blk_frozen BK144.out 0
        have hns72_0 := NB142_144.out
        have hns72_1 := NB143_144.out
        have hns72_3 := NB145_144.out
        have hms72_0 := NB144_142.out
        have hms72_1 := NB144_143.out
        have hms72_3 := NB144_145.out
        have hs73 : w71.cell? ⟨gb144, 1, none⟩ = some (.int .i64 0) := z_c BK144 1
        have hfs73 := blk_frozen BK144.out 1
        have hns73_0 := NB142_144.out
        have hns73_1 := NB143_144.out
        have hns73_3 := NB145_144.out
        have hms73_0 := NB144_142.out
        have hms73_1 := NB144_143.out
        have hms73_3 := NB144_145.out
        have hs74 : w71.cell? ⟨gb144, 2, none⟩ = some (.int .i64 0) := z_c BK144 2
        have hfs74 := blk_frozen BK144.out 2
        have hns74_0 := NB142_144.out
        have hns74_1 := NB143_144.out
        have hns74_3 := NB145_144.out
        have hms74_0 := NB144_142.out
        have hms74_1 := NB144_143.out
        have hms74_3 := NB144_145.out
        have hs75 : w71.cell? ⟨gb144, 3, none⟩ = some (.int .i64 0) := z_c BK144 3
        have hfs75 := blk_frozen BK144.out 3
        have hns75_0 := NB142_144.out
        have hns75_1 := NB143_144.out
        have hns75_3 := NB145_144.out
        have hms75_0 := NB144_142.out
        have hms75_1 := NB144_143.out
        have hms75_3 := NB144_145.out
        refine skip_ (w1 := ?_) (by rfl) rfl ?_ ?_
        rotate_left
        ·go_simp
         rfl
        refine hK.out _ _ ⟨((cell_far (p := ⟨gb144, _, none⟩) NB142_144.out _).trans (((cell_far (p := ⟨gb144, _, none⟩) NB142_144.out _).trans (((cell_far (p := ⟨gb144, _, none⟩) NB142_144.out _).trans (((cell_far (p := ⟨gb144, _, none⟩) NB142_144.out _).trans (hHeld.1)))))))), ((cell_far (p := ⟨gb144, _, none⟩) NB142_144.out _).trans (((cell_far (p := ⟨gb144, _, none⟩) NB142_144.out _).trans (((cell_far (p := ⟨gb144, _, none⟩) NB142_144.out _).trans (((cell_far (p := ⟨gb144, _, none⟩) NB142_144.out _).trans (hHeld.2.1)))))))), ((cell_far (p := ⟨gb144, _, none⟩) NB142_144.out _).trans (((cell_far (p := ⟨gb144, _, none⟩) NB142_144.out _).trans (((cell_far (p := ⟨gb144, _, none⟩) NB142_144.out _).trans (((cell_far (p := ⟨gb144, _, none⟩) NB142_144.out _).trans (hHeld.2.2.1)))))))), ((cell_far (p := ⟨gb144, _, none⟩) NB142_144.out _).trans (((cell_far (p := ⟨gb144, _, none⟩) NB142_144.out _).trans (((cell_far (p := ⟨gb144, _, none⟩) NB142_144.out _).trans (((cell_far (p := ⟨gb144, _, none⟩) NB142_144.out _).trans (hHeld.2.2.2.1)))))))), ((cell_far (p := ⟨gb144, _, none⟩) NB143_144.out _).trans (((cell_far (p := ⟨gb144, _, none⟩) NB143_144.out _).trans (((cell_far (p := ⟨gb144, _, none⟩) NB143_144.out _).trans (((cell_far (p := ⟨gb144, _, none⟩) NB143_144.out _).trans (hHeld.2.2.2.2.1)))))))), ((cell_far (p := ⟨gb144, _, none⟩) NB143_144.out _).trans (((cell_far (p := ⟨gb144, _, none⟩) NB143_144.out _).trans (((cell_far (p := ⟨gb144, _, none⟩) NB143_144.out _).trans (((cell_far (p := ⟨gb144, _, none⟩) NB143_144.out _).trans (hHeld.2.2.2.2.2.1)))))))), ((cell_far (p := ⟨gb144, _, none⟩) NB143_144.out _).trans (((cell_far (p := ⟨gb144, _, none⟩) NB143_144.out _).trans (((cell_far (p := ⟨gb144, _, none⟩) NB143_144.out _).trans (((cell_far (p := ⟨gb144, _, none⟩) NB143_144.out _).trans (hHeld.2.2.2.2.2.2.1)))))))), ((cell_far (p := ⟨gb144, _, none⟩) NB143_144.out _).trans (((cell_far (p := ⟨gb144, _, none⟩) NB143_144.out _).trans (((cell_far (p := ⟨gb144, _, none⟩) NB143_144.out _).trans (((cell_far (p := ⟨gb144, _, none⟩) NB143_144.out _).trans (hHeld.2.2.2.2.2.2.2))))))))⟩ (fun hHeld => ?_)
        clear hK K
        refine one_ (i := 3) (N := none) #[true, true, true, true] rfl rfl (by kernel_rfl) (by decide) (fun K hK => ?_)
        have hs76 : w71.cell? ⟨gb145, 0, none⟩ = some (.int .i64 0) := z_c BK145 0
        have hfs76 := blk_frozen BK145.out 0
        have hns76_0 := NB142_145.out
        have hns76_1 := NB143_145.out
        have hns76_2 := NB144_145.out
        have hms76_0 := NB145_142.out
        have hms76_1 := NB145_143.out
        have hms76_2 := NB145_144.out
        have hs77 : w71.cell? ⟨gb145, 1, none⟩ = some (.int .i64 0) := z_c BK145 1
        have hfs77 := blk_frozen BK145.out 1
        have hns77_0 := NB142_145.out
        have hns77_1 := NB143_145.out
        have hns77_2 := NB144_145.out
        have hms77_0 := NB145_142.out
        have hms77_1 := NB145_143.out
        have hms77_2 := NB145_144.out
        have hs78 : w71.cell? ⟨gb145, 2, none⟩ = some (.int .i64 0) := z_c BK145 2
        have hfs78 := blk_frozen BK145.out 2
        have hns78_0 := NB142_145.out
        have hns78_1 := NB143_145.out
        have hns78_2 := NB144_145.out
        have hms78_0 := NB145_142.out
        have hms78_1 := NB145_143.out
        have hms78_2 := NB145_144.out
        have hs79 : w71.cell? ⟨gb145, 3, none⟩ = some (.int .i64 0) := z_c BK145 3
        have hfs79 := blk_frozen BK145.out 3
        have hns79_0 := NB142_145.out
        have hns79_1 := NB143_145.out
        have hns79_2 := NB144_145.out
        have hms79_0 := NB145_142.out
        have hms79_1 := NB145_143.out
        have hms79_2 := NB145_144.out
        refine skip_ (w1 := ?_) (by rfl) rfl ?_ ?_
        rotate_left
        ·go_simp
         rfl
        refine hK.out _ _ ⟨((cell_far (p := ⟨gb145, _, none⟩) NB142_145.out _).trans (((cell_far (p := ⟨gb145, _, none⟩) NB142_145.out _).trans (((cell_far (p := ⟨gb145, _, none⟩) NB142_145.out _).trans (((cell_far (p := ⟨gb145, _, none⟩) NB142_145.out _).trans (hHeld.1)))))))), ((cell_far (p := ⟨gb145, _, none⟩) NB142_145.out _).trans (((cell_far (p := ⟨gb145, _, none⟩) NB142_145.out _).trans (((cell_far (p := ⟨gb145, _, none⟩) NB142_145.out _).trans (((cell_far (p := ⟨gb145, _, none⟩) NB142_145.out _).trans (hHeld.2.1)))))))), ((cell_far (p := ⟨gb145, _, none⟩) NB142_145.out _).trans (((cell_far (p := ⟨gb145, _, none⟩) NB142_145.out _).trans (((cell_far (p := ⟨gb145, _, none⟩) NB142_145.out _).trans (((cell_far (p := ⟨gb145, _, none⟩) NB142_145.out _).trans (hHeld.2.2.1)))))))), ((cell_far (p := ⟨gb145, _, none⟩) NB142_145.out _).trans (((cell_far (p := ⟨gb145, _, none⟩) NB142_145.out _).trans (((cell_far (p := ⟨gb145, _, none⟩) NB142_145.out _).trans (((cell_far (p := ⟨gb145, _, none⟩) NB142_145.out _).trans (hHeld.2.2.2.1)))))))), ((cell_far (p := ⟨gb145, _, none⟩) NB143_145.out _).trans (((cell_far (p := ⟨gb145, _, none⟩) NB143_145.out _).trans (((cell_far (p := ⟨gb145, _, none⟩) NB143_145.out _).trans (((cell_far (p := ⟨gb145, _, none⟩) NB143_145.out _).trans (hHeld.2.2.2.2.1)))))))), ((cell_far (p := ⟨gb145, _, none⟩) NB143_145.out _).trans (((cell_far (p := ⟨gb145, _, none⟩) NB143_145.out _).trans (((cell_far (p := ⟨gb145, _, none⟩) NB143_145.out _).trans (((cell_far (p := ⟨gb145, _, none⟩) NB143_145.out _).trans (hHeld.2.2.2.2.2.1)))))))), ((cell_far (p := ⟨gb145, _, none⟩) NB143_145.out _).trans (((cell_far (p := ⟨gb145, _, none⟩) NB143_145.out _).trans (((cell_far (p := ⟨gb145, _, none⟩) NB143_145.out _).trans (((cell_far (p := ⟨gb145, _, none⟩) NB143_145.out _).trans (hHeld.2.2.2.2.2.2.1)))))))), ((cell_far (p := ⟨gb145, _, none⟩) NB143_145.out _).trans (((cell_far (p := ⟨gb145, _, none⟩) NB143_145.out _).trans (((cell_far (p := ⟨gb145, _, none⟩) NB143_145.out _).trans (((cell_far (p := ⟨gb145, _, none⟩) NB143_145.out _).trans (hHeld.2.2.2.2.2.2.2))))))))⟩ (fun hHeld => ?_)
        clear hK K
        refine done_ (by kernel_rfl) ?_
        try go_wp2
        refine bodyPost_ret (results_cc rfl _ _ gb144 gb145 31 31 #[.int .i64 a0_0, .int .i64 (wrap64 (a0_1 - x9_35)), .int .i64 a0_2, .int .i64 a0_3] #[.int .i64 a1_0, .int .i64 (wrap64 (a1_1 + x9_35)), .int .i64 a1_2, .int .i64 a1_3] (0, 0) (0, 0) _ _ rfl (by (with_reducible repeat (first | refine blk_drewN ?_ _ | refine blk_drew ?_ | refine blk_alloc ?_ _)); refine blk_far ?_ NB144_145.out _; (with_reducible repeat (first | refine blk_drewN ?_ _ | refine blk_drew ?_ | refine blk_alloc ?_ _)); refine blk_far ?_ NB144_145.out _; (with_reducible repeat (first | refine blk_drewN ?_ _ | refine blk_drew ?_ | refine blk_alloc ?_ _)); refine blk_far ?_ NB144_145.out _; (with_reducible repeat (first | refine blk_drewN ?_ _ | refine blk_drew ?_ | refine blk_alloc ?_ _)); refine blk_far ?_ NB144_145.out _; (with_reducible repeat (first | refine blk_drewN ?_ _ | refine blk_drew ?_ | refine blk_alloc ?_ _)); refine blk_put (cs := #[.int .i64 a0_0, .int .i64 (wrap64 (a0_1 - x9_35)), .int .i64 a0_2, .int .i64 0]) ?_ 3 _ rfl; (with_reducible repeat (first | refine blk_drewN ?_ _ | refine blk_drew ?_ | refine blk_alloc ?_ _)); refine blk_put (cs := #[.int .i64 a0_0, .int .i64 (wrap64 (a0_1 - x9_35)), .int .i64 0, .int .i64 0]) ?_ 2 _ rfl; (with_reducible repeat (first | refine blk_drewN ?_ _ | refine blk_drew ?_ | refine blk_alloc ?_ _)); refine blk_put (cs := #[.int .i64 a0_0, .int .i64 0, .int .i64 0, .int .i64 0]) ?_ 1 _ rfl; (with_reducible repeat (first | refine blk_drewN ?_ _ | refine blk_drew ?_ | refine blk_alloc ?_ _)); refine blk_put (cs := #[.int .i64 0, .int .i64 0, .int .i64 0, .int .i64 0]) ?_ 0 _ rfl; (with_reducible repeat (first | refine blk_drewN ?_ _ | refine blk_drew ?_ | refine blk_alloc ?_ _)); exact BK144.out) Try.underlying31 rfl (by kernel_rfl) rfl (by (with_reducible repeat (first | refine blk_drewN ?_ _ | refine blk_drew ?_ | refine blk_alloc ?_ _)); refine blk_put (cs := #[.int .i64 a1_0, .int .i64 (wrap64 (a1_1 + x9_35)), .int .i64 a1_2, .int .i64 0]) ?_ 3 _ rfl; (with_reducible repeat (first | refine blk_drewN ?_ _ | refine blk_drew ?_ | refine blk_alloc ?_ _)); refine blk_put (cs := #[.int .i64 a1_0, .int .i64 (wrap64 (a1_1 + x9_35)), .int .i64 0, .int .i64 0]) ?_ 2 _ rfl; (with_reducible repeat (first | refine blk_drewN ?_ _ | refine blk_drew ?_ | refine blk_alloc ?_ _)); refine blk_put (cs := #[.int .i64 a1_0, .int .i64 0, .int .i64 0, .int .i64 0]) ?_ 1 _ rfl; (with_reducible repeat (first | refine blk_drewN ?_ _ | refine blk_drew ?_ | refine blk_alloc ?_ _)); refine blk_put (cs := #[.int .i64 0, .int .i64 0, .int .i64 0, .int .i64 0]) ?_ 0 _ rfl; (with_reducible repeat (first | refine blk_drewN ?_ _ | refine blk_drew ?_ | refine blk_alloc ?_ _)); refine blk_far ?_ NB145_144.out _; (with_reducible repeat (first | refine blk_drewN ?_ _ | refine blk_drew ?_ | refine blk_alloc ?_ _)); refine blk_far ?_ NB145_144.out _; (with_reducible repeat (first | refine blk_drewN ?_ _ | refine blk_drew ?_ | refine blk_alloc ?_ _)); refine blk_far ?_ NB145_144.out _; (with_reducible repeat (first | refine blk_drewN ?_ _ | refine blk_drew ?_ | refine blk_alloc ?_ _)); refine blk_far ?_ NB145_144.out _; (with_reducible repeat (first | refine blk_drewN ?_ _ | refine blk_drew ?_ | refine blk_alloc ?_ _)); exact BK145.out) Try.underlying31 rfl (by kernel_rfl)) rfl ?_
        exact ⟨by first | rfl | (simp [errW_none, errW_some] <;> rfl) | (simp [*, errW_none, errW_some] <;> rfl), blw⟩
       ·rw [if_neg c62] at H
        have c62b0 : decide (0 < a1_2) = false := decide_eq_false c62
        clear c62
        simp only [Option.some.injEq, Prod.mk.injEq] at H
        obtain ⟨rfl, rfl, rfl, rfl, rfl, rfl, rfl, rfl⟩ := H
        have hnb80 := NB142_143.out
        have hnc80 := NB143_142.out
        have hnb81 := NB142_144.out
        have hnc81 := NB144_142.out
        have hnb82 := NB142_145.out
        have hnc82 := NB145_142.out
        have hcz83_0 : wc.cell? ⟨gb142, 0, none⟩ = some (.int .i64 a0_0) := z_c BK142 0
        have hcz83_1 : wc.cell? ⟨gb142, 1, none⟩ = some (.int .i64 a0_1) := z_c BK142 1
        have hcz83_2 : wc.cell? ⟨gb142, 2, none⟩ = some (.int .i64 a0_2) := z_c BK142 2
        have hcz83_3 : wc.cell? ⟨gb142, 3, none⟩ = some (.int .i64 a0_3) := z_c BK142 3
        have hfz83_0 := blk_frozen BK142.out 0
        have hfz83_1 := blk_frozen BK142.out 1
        have hfz83_2 := blk_frozen BK142.out 2
        have hfz83_3 := blk_frozen BK142.out 3
        have hnb84 := NB143_144.out
        have hnc84 := NB144_143.out
        have hnb85 := NB143_145.out
        have hnc85 := NB145_143.out
        have hcz86_0 : wc.cell? ⟨gb143, 0, none⟩ = some (.int .i64 a1_0) := z_c BK143 0
        have hcz86_1 : wc.cell? ⟨gb143, 1, none⟩ = some (.int .i64 a1_1) := z_c BK143 1
        have hcz86_2 : wc.cell? ⟨gb143, 2, none⟩ = some (.int .i64 a1_2) := z_c BK143 2
        have hcz86_3 : wc.cell? ⟨gb143, 3, none⟩ = some (.int .i64 a1_3) := z_c BK143 3
        have hfz86_0 := blk_frozen BK143.out 0
        have hfz86_1 := blk_frozen BK143.out 1
        have hfz86_2 := blk_frozen BK143.out 2
        have hfz86_3 := blk_frozen BK143.out 3
        try go_wp2
        have n0_ : Aside0 ((wc.setCell ⟨gb142, 1, none⟩ (.int .i64 (wrap64 (a0_1 - x9_35)))).heap[gb142]? = some (.cells #[.int .i64 a0_0, .int .i64 (wrap64 (a0_1 - x9_35)), .int .i64 a0_2, .int .i64 a0_3] 31 (0, 0))) := ⟨by (with_reducible repeat (first | refine blk_drewN ?_ _ | refine blk_drew ?_ | refine blk_alloc ?_ _)); refine blk_put (cs := #[.int .i64 a0_0, .int .i64 a0_1, .int .i64 a0_2, .int .i64 a0_3]) ?_ 1 _ rfl; (with_reducible repeat (first | refine blk_drewN ?_ _ | refine blk_drew ?_ | refine blk_alloc ?_ _)); exact BK142.out⟩
        have n1_ : Aside0 ((wc.setCell ⟨gb142, 1, none⟩ (.int .i64 (wrap64 (a0_1 - x9_35)))).heap[gb143]? = some (.cells #[.int .i64 a1_0, .int .i64 a1_1, .int .i64 a1_2, .int .i64 a1_3] 31 (0, 0))) := ⟨by (with_reducible repeat (first | refine blk_drewN ?_ _ | refine blk_drew ?_ | refine blk_alloc ?_ _)); refine blk_far ?_ NB143_142.out _; (with_reducible repeat (first | refine blk_drewN ?_ _ | refine blk_drew ?_ | refine blk_alloc ?_ _)); exact BK143.out⟩
        have n2_ : Aside0 ((wc.setCell ⟨gb142, 1, none⟩ (.int .i64 (wrap64 (a0_1 - x9_35)))).heap[gb144]? = some (.cells #[.int .i64 0, .int .i64 0, .int .i64 0, .int .i64 0] 31 (0, 0))) := ⟨by (with_reducible repeat (first | refine blk_drewN ?_ _ | refine blk_drew ?_ | refine blk_alloc ?_ _)); refine blk_far ?_ NB144_142.out _; (with_reducible repeat (first | refine blk_drewN ?_ _ | refine blk_drew ?_ | refine blk_alloc ?_ _)); exact BK144.out⟩
        have n3_ : Aside0 ((wc.setCell ⟨gb142, 1, none⟩ (.int .i64 (wrap64 (a0_1 - x9_35)))).heap[gb145]? = some (.cells #[.int .i64 0, .int .i64 0, .int .i64 0, .int .i64 0] 31 (0, 0))) := ⟨by (with_reducible repeat (first | refine blk_drewN ?_ _ | refine blk_drew ?_ | refine blk_alloc ?_ _)); refine blk_far ?_ NB145_142.out _; (with_reducible repeat (first | refine blk_drewN ?_ _ | refine blk_drew ?_ | refine blk_alloc ?_ _)); exact BK145.out⟩
        have n4_ : Aside0 (Below w.heap.size w (wc.setCell ⟨gb142, 1, none⟩ (.int .i64 (wrap64 (a0_1 - x9_35))))) := ⟨blw⟩
        (try clear BK142)
        (try clear BK143)
        (try clear BK144)
        (try clear BK145)
        (try clear HB)
        generalize (wc.setCell ⟨gb142, 1, none⟩ (.int .i64 (wrap64 (a0_1 - x9_35)))) = w87 at n0_ n1_ n2_ n3_ n4_ ⊢
        have BK142 := n0_
        have BK143 := n1_
        have BK144 := n2_
        have BK145 := n3_
        have HB := n4_
        clear n0_ n1_ n2_ n3_ n4_
        have n0_ := Aside0.mk (blk_drew BK142.out)
        have n1_ := Aside0.mk (blk_drew BK143.out)
        have n2_ := Aside0.mk (blk_drew BK144.out)
        have n3_ := Aside0.mk (blk_drew BK145.out)
        have n4_ := Aside0.mk (below_drew1 HB.out)
        clear BK142
        clear BK143
        clear BK144
        clear BK145
        clear HB
        have BK142 := n0_
        have BK143 := n1_
        have BK144 := n2_
        have BK145 := n3_
        have HB := n4_
        clear n0_ n1_ n2_ n3_ n4_
        refine start_ (n := 4) (S := fun w' => w'.cell? ⟨gb142, 0, none⟩ = some (.int .i64 a0_0) ∧ w'.cell? ⟨gb142, 1, none⟩ = some (.int .i64 (wrap64 (a0_1 - x9_35))) ∧ w'.cell? ⟨gb142, 2, none⟩ = some (.int .i64 a0_2) ∧ w'.cell? ⟨gb142, 3, none⟩ = some (.int .i64 a0_3) ∧ w'.cell? ⟨gb143, 0, none⟩ = some (.int .i64 a1_0) ∧ w'.cell? ⟨gb143, 1, none⟩ = some (.int .i64 a1_1) ∧ w'.cell? ⟨gb143, 2, none⟩ = some (.int .i64 a1_2) ∧ w'.cell? ⟨gb143, 3, none⟩ = some (.int .i64 a1_3)) (ds := []) #[false, false, false, false] (by kernel_rfl) rfl rfl ⟨z_c BK142 0, z_c BK142 1, z_c BK142 2, z_c BK142 3, z_c BK143 0, z_c BK143 1, z_c BK143 2, z_c BK143 3⟩ (fun hHeld => ?_)
        generalize w87.drew = w88 at BK142 BK143 BK144 BK145 HB hHeld ⊢
        refine take_ (i := 0) (N := some 86) (v := ?_) (a' := ?_) #[true, false, false, false] rfl rfl (by kernel_rfl) (fun _ _ _ h => h) (Or.inl ⟨by rfl, ?_⟩) hHeld ?_ ?_
        rotate_left; (· (rintro w' ⟨s0, s1, s2, s3, s4, s5, s6, s7⟩; go_simp; with_reducible rfl)); rotate_left; (· (simp only [Act.put, sp1, sp2, sp3, i64_w, i32_w]; rfl))
        refine take_ (i := 1) (N := some 87) (v := ?_) (a' := ?_) #[true, true, false, false] rfl rfl (by kernel_rfl) (fun _ _ _ h => h) (Or.inl ⟨by rfl, ?_⟩) hHeld ?_ ?_
        rotate_left; (· (rintro w' ⟨s0, s1, s2, s3, s4, s5, s6, s7⟩; go_simp; with_reducible rfl)); rotate_left; (· (simp only [Act.put, sp1, sp2, sp3, i64_w, i32_w]; rfl))
        refine one_ (i := 2) (N := none) #[true, true, true, false] rfl rfl (by kernel_rfl) (by decide) (fun K hK => ?_)
        have hs89 : w88.cell? ⟨gb144, 0, none⟩ = some (.int .i64 0) := z_c BK144 0
        have hfs89 := blk_frozen BK144.out 0
        have hns89_0 := NB142_144.out
        have hns89_1 := NB143_144.out
        have hns89_3 := NB145_144.out
        have hms89_0 := NB144_142.out
        have hms89_1 := NB144_143.out
        have hms89_3 := NB144_145.out
        have hs90 : w88.cell? ⟨gb144, 1, none⟩ = some (.int .i64 0) := z_c BK144 1
        have hfs90 := blk_frozen BK144.out 1
        have hns90_0 := NB142_144.out
        have hns90_1 := NB143_144.out
        have hns90_3 := NB145_144.out
        have hms90_0 := NB144_142.out
        have hms90_1 := NB144_143.out
        have hms90_3 := NB144_145.out
        have hs91 : w88.cell? ⟨gb144, 2, none⟩ = some (.int .i64 0) := z_c BK144 2
        have hfs91 := blk_frozen BK144.out 2
        have hns91_0 := NB142_144.out
        have hns91_1 := NB143_144.out
        have hns91_3 := NB145_144.out
        have hms91_0 := NB144_142.out
        have hms91_1 := NB144_143.out
        have hms91_3 := NB144_145.out
        have hs92 : w88.cell? ⟨gb144, 3, none⟩ = some (.int .i64 0) := z_c BK144 3
        have hfs92 := blk_frozen BK144.out 3
        have hns92_0 := NB142_144.out
        have hns92_1 := NB143_144.out
        have hns92_3 := NB145_144.out
        have hms92_0 := NB144_142.out
        have hms92_1 := NB144_143.out
        have hms92_3 := NB144_145.out
        refine skip_ (w1 := ?_) (by rfl) rfl ?_ ?_
        rotate_left
        ·go_simp
         rfl
        refine hK.out _ _ ⟨((cell_far (p := ⟨gb144, _, none⟩) NB142_144.out _).trans (((cell_far (p := ⟨gb144, _, none⟩) NB142_144.out _).trans (((cell_far (p := ⟨gb144, _, none⟩) NB142_144.out _).trans (((cell_far (p := ⟨gb144, _, none⟩) NB142_144.out _).trans (hHeld.1)))))))), ((cell_far (p := ⟨gb144, _, none⟩) NB142_144.out _).trans (((cell_far (p := ⟨gb144, _, none⟩) NB142_144.out _).trans (((cell_far (p := ⟨gb144, _, none⟩) NB142_144.out _).trans (((cell_far (p := ⟨gb144, _, none⟩) NB142_144.out _).trans (hHeld.2.1)))))))), ((cell_far (p := ⟨gb144, _, none⟩) NB142_144.out _).trans (((cell_far (p := ⟨gb144, _, none⟩) NB142_144.out _).trans (((cell_far (p := ⟨gb144, _, none⟩) NB142_144.out _).trans (((cell_far (p := ⟨gb144, _, none⟩) NB142_144.out _).trans (hHeld.2.2.1)))))))), ((cell_far (p := ⟨gb144, _, none⟩) NB142_144.out _).trans (((cell_far (p := ⟨gb144, _, none⟩) NB142_144.out _).trans (((cell_far (p := ⟨gb144, _, none⟩) NB142_144.out _).trans (((cell_far (p := ⟨gb144, _, none⟩) NB142_144.out _).trans (hHeld.2.2.2.1)))))))), ((cell_far (p := ⟨gb144, _, none⟩) NB143_144.out _).trans (((cell_far (p := ⟨gb144, _, none⟩) NB143_144.out _).trans (((cell_far (p := ⟨gb144, _, none⟩) NB143_144.out _).trans (((cell_far (p := ⟨gb144, _, none⟩) NB143_144.out _).trans (hHeld.2.2.2.2.1)))))))), ((cell_far (p := ⟨gb144, _, none⟩) NB143_144.out _).trans (((cell_far (p := ⟨gb144, _, none⟩) NB143_144.out _).trans (((cell_far (p := ⟨gb144, _, none⟩) NB143_144.out _).trans (((cell_far (p := ⟨gb144, _, none⟩) NB143_144.out _).trans (hHeld.2.2.2.2.2.1)))))))), ((cell_far (p := ⟨gb144, _, none⟩) NB143_144.out _).trans (((cell_far (p := ⟨gb144, _, none⟩) NB143_144.out _).trans (((cell_far (p := ⟨gb144, _, none⟩) NB143_144.out _).trans (((cell_far (p := ⟨gb144, _, none⟩) NB143_144.out _).trans (hHeld.2.2.2.2.2.2.1)))))))), ((cell_far (p := ⟨gb144, _, none⟩) NB143_144.out _).trans (((cell_far (p := ⟨gb144, _, none⟩) NB143_144.out _).trans (((cell_far (p := ⟨gb144, _, none⟩) NB143_144.out _).trans (((cell_far (p := ⟨gb144, _, none⟩) NB143_144.out _).trans (hHeld.2.2.2.2.2.2.2))))))))⟩ (fun hHeld => ?_)
        clear hK K
        refine one_ (i := 3) (N := none) #[true, true, true, true] rfl rfl (by kernel_rfl) (by decide) (fun K hK => ?_)
        have hs93 : w88.cell? ⟨gb145, 0, none⟩ = some (.int .i64 0) := z_c BK145 0
        have hfs93 := blk_frozen BK145.out 0
        have hns93_0 := NB142_145.out
        have hns93_1 := NB143_145.out
        have hns93_2 := NB144_145.out
        have hms93_0 := NB145_142.out
        have hms93_1 := NB145_143.out
        have hms93_2 := NB145_144.out
        have hs94 : w88.cell? ⟨gb145, 1, none⟩ = some (.int .i64 0) := z_c BK145 1
        have hfs94 := blk_frozen BK145.out 1
        have hns94_0 := NB142_145.out
        have hns94_1 := NB143_145.out
        have hns94_2 := NB144_145.out
        have hms94_0 := NB145_142.out
        have hms94_1 := NB145_143.out
        have hms94_2 := NB145_144.out
        have hs95 : w88.cell? ⟨gb145, 2, none⟩ = some (.int .i64 0) := z_c BK145 2
        have hfs95 := blk_frozen BK145.out 2
        have hns95_0 := NB142_145.out
        have hns95_1 := NB143_145.out
        have hns95_2 := NB144_145.out
        have hms95_0 := NB145_142.out
        have hms95_1 := NB145_143.out
        have hms95_2 := NB145_144.out
        have hs96 : w88.cell? ⟨gb145, 3, none⟩ = some (.int .i64 0) := z_c BK145 3
        have hfs96 := blk_frozen BK145.out 3
        have hns96_0 := NB142_145.out
        have hns96_1 := NB143_145.out
        have hns96_2 := NB144_145.out
        have hms96_0 := NB145_142.out
        have hms96_1 := NB145_143.out
        have hms96_2 := NB145_144.out
        refine skip_ (w1 := ?_) (by rfl) rfl ?_ ?_
        rotate_left
        ·go_simp
         rfl
        refine hK.out _ _ ⟨((cell_far (p := ⟨gb145, _, none⟩) NB142_145.out _).trans (((cell_far (p := ⟨gb145, _, none⟩) NB142_145.out _).trans (((cell_far (p := ⟨gb145, _, none⟩) NB142_145.out _).trans (((cell_far (p := ⟨gb145, _, none⟩) NB142_145.out _).trans (hHeld.1)))))))), ((cell_far (p := ⟨gb145, _, none⟩) NB142_145.out _).trans (((cell_far (p := ⟨gb145, _, none⟩) NB142_145.out _).trans (((cell_far (p := ⟨gb145, _, none⟩) NB142_145.out _).trans (((cell_far (p := ⟨gb145, _, none⟩) NB142_145.out _).trans (hHeld.2.1)))))))), ((cell_far (p := ⟨gb145, _, none⟩) NB142_145.out _).trans (((cell_far (p := ⟨gb145, _, none⟩) NB142_145.out _).trans (((cell_far (p := ⟨gb145, _, none⟩) NB142_145.out _).trans (((cell_far (p := ⟨gb145, _, none⟩) NB142_145.out _).trans (hHeld.2.2.1)))))))), ((cell_far (p := ⟨gb145, _, none⟩) NB142_145.out _).trans (((cell_far (p := ⟨gb145, _, none⟩) NB142_145.out _).trans (((cell_far (p := ⟨gb145, _, none⟩) NB142_145.out _).trans (((cell_far (p := ⟨gb145, _, none⟩) NB142_145.out _).trans (hHeld.2.2.2.1)))))))), ((cell_far (p := ⟨gb145, _, none⟩) NB143_145.out _).trans (((cell_far (p := ⟨gb145, _, none⟩) NB143_145.out _).trans (((cell_far (p := ⟨gb145, _, none⟩) NB143_145.out _).trans (((cell_far (p := ⟨gb145, _, none⟩) NB143_145.out _).trans (hHeld.2.2.2.2.1)))))))), ((cell_far (p := ⟨gb145, _, none⟩) NB143_145.out _).trans (((cell_far (p := ⟨gb145, _, none⟩) NB143_145.out _).trans (((cell_far (p := ⟨gb145, _, none⟩) NB143_145.out _).trans (((cell_far (p := ⟨gb145, _, none⟩) NB143_145.out _).trans (hHeld.2.2.2.2.2.1)))))))), ((cell_far (p := ⟨gb145, _, none⟩) NB143_145.out _).trans (((cell_far (p := ⟨gb145, _, none⟩) NB143_145.out _).trans (((cell_far (p := ⟨gb145, _, none⟩) NB143_145.out _).trans (((cell_far (p := ⟨gb145, _, none⟩) NB143_145.out _).trans (hHeld.2.2.2.2.2.2.1)))))))), ((cell_far (p := ⟨gb145, _, none⟩) NB143_145.out _).trans (((cell_far (p := ⟨gb145, _, none⟩) NB143_145.out _).trans (((cell_far (p := ⟨gb145, _, none⟩) NB143_145.out _).trans (((cell_far (p := ⟨gb145, _, none⟩) NB143_145.out _).trans (hHeld.2.2.2.2.2.2.2))))))))⟩ (fun hHeld => ?_)
        clear hK K
        refine done_ (by kernel_rfl) ?_
        try go_wp2
        refine bodyPost_ret (results_cc rfl _ _ gb144 gb145 31 31 #[.int .i64 a0_0, .int .i64 (wrap64 (a0_1 - x9_35)), .int .i64 a0_2, .int .i64 a0_3] #[.int .i64 a1_0, .int .i64 a1_1, .int .i64 a1_2, .int .i64 a1_3] (0, 0) (0, 0) _ _ rfl (by (with_reducible repeat (first | refine blk_drewN ?_ _ | refine blk_drew ?_ | refine blk_alloc ?_ _)); refine blk_far ?_ NB144_145.out _; (with_reducible repeat (first | refine blk_drewN ?_ _ | refine blk_drew ?_ | refine blk_alloc ?_ _)); refine blk_far ?_ NB144_145.out _; (with_reducible repeat (first | refine blk_drewN ?_ _ | refine blk_drew ?_ | refine blk_alloc ?_ _)); refine blk_far ?_ NB144_145.out _; (with_reducible repeat (first | refine blk_drewN ?_ _ | refine blk_drew ?_ | refine blk_alloc ?_ _)); refine blk_far ?_ NB144_145.out _; (with_reducible repeat (first | refine blk_drewN ?_ _ | refine blk_drew ?_ | refine blk_alloc ?_ _)); refine blk_put (cs := #[.int .i64 a0_0, .int .i64 (wrap64 (a0_1 - x9_35)), .int .i64 a0_2, .int .i64 0]) ?_ 3 _ rfl; (with_reducible repeat (first | refine blk_drewN ?_ _ | refine blk_drew ?_ | refine blk_alloc ?_ _)); refine blk_put (cs := #[.int .i64 a0_0, .int .i64 (wrap64 (a0_1 - x9_35)), .int .i64 0, .int .i64 0]) ?_ 2 _ rfl; (with_reducible repeat (first | refine blk_drewN ?_ _ | refine blk_drew ?_ | refine blk_alloc ?_ _)); refine blk_put (cs := #[.int .i64 a0_0, .int .i64 0, .int .i64 0, .int .i64 0]) ?_ 1 _ rfl; (with_reducible repeat (first | refine blk_drewN ?_ _ | refine blk_drew ?_ | refine blk_alloc ?_ _)); refine blk_put (cs := #[.int .i64 0, .int .i64 0, .int .i64 0, .int .i64 0]) ?_ 0 _ rfl; (with_reducible repeat (first | refine blk_drewN ?_ _ | refine blk_drew ?_ | refine blk_alloc ?_ _)); exact BK144.out) Try.underlying31 rfl (by kernel_rfl) rfl (by (with_reducible repeat (first | refine blk_drewN ?_ _ | refine blk_drew ?_ | refine blk_alloc ?_ _)); refine blk_put (cs := #[.int .i64 a1_0, .int .i64 a1_1, .int .i64 a1_2, .int .i64 0]) ?_ 3 _ rfl; (with_reducible repeat (first | refine blk_drewN ?_ _ | refine blk_drew ?_ | refine blk_alloc ?_ _)); refine blk_put (cs := #[.int .i64 a1_0, .int .i64 a1_1, .int .i64 0, .int .i64 0]) ?_ 2 _ rfl; (with_reducible repeat (first | refine blk_drewN ?_ _ | refine blk_drew ?_ | refine blk_alloc ?_ _)); refine blk_put (cs := #[.int .i64 a1_0, .int .i64 0, .int .i64 0, .int .i64 0]) ?_ 1 _ rfl; (with_reducible repeat (first | refine blk_drewN ?_ _ | refine blk_drew ?_ | refine blk_alloc ?_ _)); refine blk_put (cs := #[.int .i64 0, .int .i64 0, .int .i64 0, .int .i64 0]) ?_ 0 _ rfl; (with_reducible repeat (first | refine blk_drewN ?_ _ | refine blk_drew ?_ | refine blk_alloc ?_ _)); refine blk_far ?_ NB145_144.out _; (with_reducible repeat (first | refine blk_drewN ?_ _ | refine blk_drew ?_ | refine blk_alloc ?_ _)); refine blk_far ?_ NB145_144.out _; (with_reducible repeat (first | refine blk_drewN ?_ _ | refine blk_drew ?_ | refine blk_alloc ?_ _)); refine blk_far ?_ NB145_144.out _; (with_reducible repeat (first | refine blk_drewN ?_ _ | refine blk_drew ?_ | refine blk_alloc ?_ _)); refine blk_far ?_ NB145_144.out _; (with_reducible repeat (first | refine blk_drewN ?_ _ | refine blk_drew ?_ | refine blk_alloc ?_ _)); exact BK145.out) Try.underlying31 rfl (by kernel_rfl)) rfl ?_
        exact ⟨by first | rfl | (simp [errW_none, errW_some] <;> rfl) | (simp [*, errW_none, errW_some] <;> rfl), blw⟩
      ·rw [if_neg c61] at H
       have c61b0 : decide (0 < a0_2) = false := decide_eq_false c61
       clear c61
       by_cases c97 : a1_2 > 0
       ·rw [if_pos c97] at H
        have c97b0 : decide (0 < a1_2) = true := decide_eq_true c97
        clear c97
        simp only [Option.some.injEq, Prod.mk.injEq] at H
        obtain ⟨rfl, rfl, rfl, rfl, rfl, rfl, rfl, rfl⟩ := H
        have hnb98 := NB142_143.out
        have hnc98 := NB143_142.out
        have hnb99 := NB142_144.out
        have hnc99 := NB144_142.out
        have hnb100 := NB142_145.out
        have hnc100 := NB145_142.out
        have hcz101_0 : wc.cell? ⟨gb142, 0, none⟩ = some (.int .i64 a0_0) := z_c BK142 0
        have hcz101_1 : wc.cell? ⟨gb142, 1, none⟩ = some (.int .i64 a0_1) := z_c BK142 1
        have hcz101_2 : wc.cell? ⟨gb142, 2, none⟩ = some (.int .i64 a0_2) := z_c BK142 2
        have hcz101_3 : wc.cell? ⟨gb142, 3, none⟩ = some (.int .i64 a0_3) := z_c BK142 3
        have hfz101_0 := blk_frozen BK142.out 0
        have hfz101_1 := blk_frozen BK142.out 1
        have hfz101_2 := blk_frozen BK142.out 2
        have hfz101_3 := blk_frozen BK142.out 3
        have hnb102 := NB143_144.out
        have hnc102 := NB144_143.out
        have hnb103 := NB143_145.out
        have hnc103 := NB145_143.out
        have hcz104_0 : wc.cell? ⟨gb143, 0, none⟩ = some (.int .i64 a1_0) := z_c BK143 0
        have hcz104_1 : wc.cell? ⟨gb143, 1, none⟩ = some (.int .i64 a1_1) := z_c BK143 1
        have hcz104_2 : wc.cell? ⟨gb143, 2, none⟩ = some (.int .i64 a1_2) := z_c BK143 2
        have hcz104_3 : wc.cell? ⟨gb143, 3, none⟩ = some (.int .i64 a1_3) := z_c BK143 3
        have hfz104_0 := blk_frozen BK143.out 0
        have hfz104_1 := blk_frozen BK143.out 1
        have hfz104_2 := blk_frozen BK143.out 2
        have hfz104_3 := blk_frozen BK143.out 3
        try go_wp2
        have n0_ : Aside0 ((wc.setCell ⟨gb143, 1, none⟩ (.int .i64 (wrap64 (a1_1 + x9_35)))).heap[gb142]? = some (.cells #[.int .i64 a0_0, .int .i64 a0_1, .int .i64 a0_2, .int .i64 a0_3] 31 (0, 0))) := ⟨by (with_reducible repeat (first | refine blk_drewN ?_ _ | refine blk_drew ?_ | refine blk_alloc ?_ _)); refine blk_far ?_ NB142_143.out _; (with_reducible repeat (first | refine blk_drewN ?_ _ | refine blk_drew ?_ | refine blk_alloc ?_ _)); exact BK142.out⟩
        have n1_ : Aside0 ((wc.setCell ⟨gb143, 1, none⟩ (.int .i64 (wrap64 (a1_1 + x9_35)))).heap[gb143]? = some (.cells #[.int .i64 a1_0, .int .i64 (wrap64 (a1_1 + x9_35)), .int .i64 a1_2, .int .i64 a1_3] 31 (0, 0))) := ⟨by (with_reducible repeat (first | refine blk_drewN ?_ _ | refine blk_drew ?_ | refine blk_alloc ?_ _)); refine blk_put (cs := #[.int .i64 a1_0, .int .i64 a1_1, .int .i64 a1_2, .int .i64 a1_3]) ?_ 1 _ rfl; (with_reducible repeat (first | refine blk_drewN ?_ _ | refine blk_drew ?_ | refine blk_alloc ?_ _)); exact BK143.out⟩
        have n2_ : Aside0 ((wc.setCell ⟨gb143, 1, none⟩ (.int .i64 (wrap64 (a1_1 + x9_35)))).heap[gb144]? = some (.cells #[.int .i64 0, .int .i64 0, .int .i64 0, .int .i64 0] 31 (0, 0))) := ⟨by (with_reducible repeat (first | refine blk_drewN ?_ _ | refine blk_drew ?_ | refine blk_alloc ?_ _)); refine blk_far ?_ NB144_143.out _; (with_reducible repeat (first | refine blk_drewN ?_ _ | refine blk_drew ?_ | refine blk_alloc ?_ _)); exact BK144.out⟩
        have n3_ : Aside0 ((wc.setCell ⟨gb143, 1, none⟩ (.int .i64 (wrap64 (a1_1 + x9_35)))).heap[gb145]? = some (.cells #[.int .i64 0, .int .i64 0, .int .i64 0, .int .i64 0] 31 (0, 0))) := ⟨by (with_reducible repeat (first | refine blk_drewN ?_ _ | refine blk_drew ?_ | refine blk_alloc ?_ _)); refine blk_far ?_ NB145_143.out _; (with_reducible repeat (first | refine blk_drewN ?_ _ | refine blk_drew ?_ | refine blk_alloc ?_ _)); exact BK145.out⟩
        have n4_ : Aside0 (Below w.heap.size w (wc.setCell ⟨gb143, 1, none⟩ (.int .i64 (wrap64 (a1_1 + x9_35))))) := ⟨blw⟩
        (try clear BK142)
        (try clear BK143)
        (try clear BK144)
        (try clear BK145)
        (try clear HB)
        generalize (wc.setCell ⟨gb143, 1, none⟩ (.int .i64 (wrap64 (a1_1 + x9_35)))) = w105 at n0_ n1_ n2_ n3_ n4_ ⊢
        have BK142 := n0_
        have BK143 := n1_
        have BK144 := n2_
        have BK145 := n3_
        have HB := n4_
        clear n0_ n1_ n2_ n3_ n4_
        have n0_ := Aside0.mk (blk_drew BK142.out)
        have n1_ := Aside0.mk (blk_drew BK143.out)
        have n2_ := Aside0.mk (blk_drew BK144.out)
        have n3_ := Aside0.mk (blk_drew BK145.out)
        have n4_ := Aside0.mk (below_drew1 HB.out)
        clear BK142
        clear BK143
        clear BK144
        clear BK145
        clear HB
        have BK142 := n0_
        have BK143 := n1_
        have BK144 := n2_
        have BK145 := n3_
        have HB := n4_
        clear n0_ n1_ n2_ n3_ n4_
        refine start_ (n := 4) (S := fun w' => w'.cell? ⟨gb142, 0, none⟩ = some (.int .i64 a0_0) ∧ w'.cell? ⟨gb142, 1, none⟩ = some (.int .i64 a0_1) ∧ w'.cell? ⟨gb142, 2, none⟩ = some (.int .i64 a0_2) ∧ w'.cell? ⟨gb142, 3, none⟩ = some (.int .i64 a0_3) ∧ w'.cell? ⟨gb143, 0, none⟩ = some (.int .i64 a1_0) ∧ w'.cell? ⟨gb143, 1, none⟩ = some (.int .i64 (wrap64 (a1_1 + x9_35))) ∧ w'.cell? ⟨gb143, 2, none⟩ = some (.int .i64 a1_2) ∧ w'.cell? ⟨gb143, 3, none⟩ = some (.int .i64 a1_3)) (ds := []) #[false, false, false, false] (by kernel_rfl) rfl rfl ⟨z_c BK142 0, z_c BK142 1, z_c BK142 2, z_c BK142 3, z_c BK143 0, z_c BK143 1, z_c BK143 2, z_c BK143 3⟩ (fun hHeld => ?_)
        generalize w105.drew = w106 at BK142 BK143 BK144 BK145 HB hHeld ⊢
        refine take_ (i := 0) (N := some 86) (v := ?_) (a' := ?_) #[true, false, false, false] rfl rfl (by kernel_rfl) (fun _ _ _ h => h) (Or.inl ⟨by rfl, ?_⟩) hHeld ?_ ?_
        rotate_left; (· (rintro w' ⟨s0, s1, s2, s3, s4, s5, s6, s7⟩; go_simp; with_reducible rfl)); rotate_left; (· (simp only [Act.put, sp1, sp2, sp3, i64_w, i32_w]; rfl))
        refine take_ (i := 1) (N := some 87) (v := ?_) (a' := ?_) #[true, true, false, false] rfl rfl (by kernel_rfl) (fun _ _ _ h => h) (Or.inl ⟨by rfl, ?_⟩) hHeld ?_ ?_
        rotate_left; (· (rintro w' ⟨s0, s1, s2, s3, s4, s5, s6, s7⟩; go_simp; with_reducible rfl)); rotate_left; (· (simp only [Act.put, sp1, sp2, sp3, i64_w, i32_w]; rfl))
        refine one_ (i := 2) (N := none) #[true, true, true, false] rfl rfl (by kernel_rfl) (by decide) (fun K hK => ?_)
        have hs107 : w106.cell? ⟨gb144, 0, none⟩ = some (.int .i64 0) := z_c BK144 0
        have hfs107 := blk_frozen BK144.out 0
        have hns107_0 := NB142_144.out
        have hns107_1 := NB143_144.out
        have hns107_3 := NB145_144.out
        have hms107_0 := NB144_142.out
        have hms107_1 := NB144_143.out
        have hms107_3 := NB144_145.out
        have hs108 : w106.cell? ⟨gb144, 1, none⟩ = some (.int .i64 0) := z_c BK144 1
        have hfs108 := blk_frozen BK144.out 1
        have hns108_0 := NB142_144.out
        have hns108_1 := NB143_144.out
        have hns108_3 := NB145_144.out
        have hms108_0 := NB144_142.out
        have hms108_1 := NB144_143.out
        have hms108_3 := NB144_145.out
        have hs109 : w106.cell? ⟨gb144, 2, none⟩ = some (.int .i64 0) := z_c BK144 2
        have hfs109 := blk_frozen BK144.out 2
        have hns109_0 := NB142_144.out
        have hns109_1 := NB143_144.out
        have hns109_3 := NB145_144.out
        have hms109_0 := NB144_142.out
        have hms109_1 := NB144_143.out
        have hms109_3 := NB144_145.out
        have hs110 : w106.cell? ⟨gb144, 3, none⟩ = some (.int .i64 0) := z_c BK144 3
        have hfs110 := blk_frozen BK144.out 3
        have hns110_0 := NB142_144.out
        have hns110_1 := NB143_144.out
        have hns110_3 := NB145_144.out
        have hms110_0 := NB144_142.out
        have hms110_1 := NB144_143.out
        have hms110_3 := NB144_145.out
        refine skip_ (w1 := ?_) (by rfl) rfl ?_ ?_
        rotate_left
        ·go_simp
         rfl
        refine hK.out _ _ ⟨((cell_far (p := ⟨gb144, _, none⟩) NB142_144.out _).trans (((cell_far (p := ⟨gb144, _, none⟩) NB142_144.out _).trans (((cell_far (p := ⟨gb144, _, none⟩) NB142_144.out _).trans (((cell_far (p := ⟨gb144, _, none⟩) NB142_144.out _).trans (hHeld.1)))))))), ((cell_far (p := ⟨gb144, _, none⟩) NB142_144.out _).trans (((cell_far (p := ⟨gb144, _, none⟩) NB142_144.out _).trans (((cell_far (p := ⟨gb144, _, none⟩) NB142_144.out _).trans (((cell_far (p := ⟨gb144, _, none⟩) NB142_144.out _).trans (hHeld.2.1)))))))), ((cell_far (p := ⟨gb144, _, none⟩) NB142_144.out _).trans (((cell_far (p := ⟨gb144, _, none⟩) NB142_144.out _).trans (((cell_far (p := ⟨gb144, _, none⟩) NB142_144.out _).trans (((cell_far (p := ⟨gb144, _, none⟩) NB142_144.out _).trans (hHeld.2.2.1)))))))), ((cell_far (p := ⟨gb144, _, none⟩) NB142_144.out _).trans (((cell_far (p := ⟨gb144, _, none⟩) NB142_144.out _).trans (((cell_far (p := ⟨gb144, _, none⟩) NB142_144.out _).trans (((cell_far (p := ⟨gb144, _, none⟩) NB142_144.out _).trans (hHeld.2.2.2.1)))))))), ((cell_far (p := ⟨gb144, _, none⟩) NB143_144.out _).trans (((cell_far (p := ⟨gb144, _, none⟩) NB143_144.out _).trans (((cell_far (p := ⟨gb144, _, none⟩) NB143_144.out _).trans (((cell_far (p := ⟨gb144, _, none⟩) NB143_144.out _).trans (hHeld.2.2.2.2.1)))))))), ((cell_far (p := ⟨gb144, _, none⟩) NB143_144.out _).trans (((cell_far (p := ⟨gb144, _, none⟩) NB143_144.out _).trans (((cell_far (p := ⟨gb144, _, none⟩) NB143_144.out _).trans (((cell_far (p := ⟨gb144, _, none⟩) NB143_144.out _).trans (hHeld.2.2.2.2.2.1)))))))), ((cell_far (p := ⟨gb144, _, none⟩) NB143_144.out _).trans (((cell_far (p := ⟨gb144, _, none⟩) NB143_144.out _).trans (((cell_far (p := ⟨gb144, _, none⟩) NB143_144.out _).trans (((cell_far (p := ⟨gb144, _, none⟩) NB143_144.out _).trans (hHeld.2.2.2.2.2.2.1)))))))), ((cell_far (p := ⟨gb144, _, none⟩) NB143_144.out _).trans (((cell_far (p := ⟨gb144, _, none⟩) NB143_144.out _).trans (((cell_far (p := ⟨gb144, _, none⟩) NB143_144.out _).trans (((cell_far (p := ⟨gb144, _, none⟩) NB143_144.out _).trans (hHeld.2.2.2.2.2.2.2))))))))⟩ (fun hHeld => ?_)
        clear hK K
        refine one_ (i := 3) (N := none) #[true, true, true, true] rfl rfl (by kernel_rfl) (by decide) (fun K hK => ?_)
        have hs111 : w106.cell? ⟨gb145, 0, none⟩ = some (.int .i64 0) := z_c BK145 0
        have hfs111 := blk_frozen BK145.out 0
        have hns111_0 := NB142_145.out
        have hns111_1 := NB143_145.out
        have hns111_2 := NB144_145.out
        have hms111_0 := NB145_142.out
        have hms111_1 := NB145_143.out
        have hms111_2 := NB145_144.out
        have hs112 : w106.cell? ⟨gb145, 1, none⟩ = some (.int .i64 0) := z_c BK145 1
        have hfs112 := blk_frozen BK145.out 1
        have hns112_0 := NB142_145.out
        have hns112_1 := NB143_145.out
        have hns112_2 := NB144_145.out
        have hms112_0 := NB145_142.out
        have hms112_1 := NB145_143.out
        have hms112_2 := NB145_144.out
        have hs113 : w106.cell? ⟨gb145, 2, none⟩ = some (.int .i64 0) := z_c BK145 2
        have hfs113 := blk_frozen BK145.out 2
        have hns113_0 := NB142_145.out
        have hns113_1 := NB143_145.out
        have hns113_2 := NB144_145.out
        have hms113_0 := NB145_142.out
        have hms113_1 := NB145_143.out
        have hms113_2 := NB145_144.out
        have hs114 : w106.cell? ⟨gb145, 3, none⟩ = some (.int .i64 0) := z_c BK145 3
        have hfs114 := blk_frozen BK145.out 3
        have hns114_0 := NB142_145.out
        have hns114_1 := NB143_145.out
        have hns114_2 := NB144_145.out
        have hms114_0 := NB145_142.out
        have hms114_1 := NB145_143.out
        have hms114_2 := NB145_144.out
        refine skip_ (w1 := ?_) (by rfl) rfl ?_ ?_
        rotate_left
        ·go_simp
         rfl
        refine hK.out _ _ ⟨((cell_far (p := ⟨gb145, _, none⟩) NB142_145.out _).trans (((cell_far (p := ⟨gb145, _, none⟩) NB142_145.out _).trans (((cell_far (p := ⟨gb145, _, none⟩) NB142_145.out _).trans (((cell_far (p := ⟨gb145, _, none⟩) NB142_145.out _).trans (hHeld.1)))))))), ((cell_far (p := ⟨gb145, _, none⟩) NB142_145.out _).trans (((cell_far (p := ⟨gb145, _, none⟩) NB142_145.out _).trans (((cell_far (p := ⟨gb145, _, none⟩) NB142_145.out _).trans (((cell_far (p := ⟨gb145, _, none⟩) NB142_145.out _).trans (hHeld.2.1)))))))), ((cell_far (p := ⟨gb145, _, none⟩) NB142_145.out _).trans (((cell_far (p := ⟨gb145, _, none⟩) NB142_145.out _).trans (((cell_far (p := ⟨gb145, _, none⟩) NB142_145.out _).trans (((cell_far (p := ⟨gb145, _, none⟩) NB142_145.out _).trans (hHeld.2.2.1)))))))), ((cell_far (p := ⟨gb145, _, none⟩) NB142_145.out _).trans (((cell_far (p := ⟨gb145, _, none⟩) NB142_145.out _).trans (((cell_far (p := ⟨gb145, _, none⟩) NB142_145.out _).trans (((cell_far (p := ⟨gb145, _, none⟩) NB142_145.out _).trans (hHeld.2.2.2.1)))))))), ((cell_far (p := ⟨gb145, _, none⟩) NB143_145.out _).trans (((cell_far (p := ⟨gb145, _, none⟩) NB143_145.out _).trans (((cell_far (p := ⟨gb145, _, none⟩) NB143_145.out _).trans (((cell_far (p := ⟨gb145, _, none⟩) NB143_145.out _).trans (hHeld.2.2.2.2.1)))))))), ((cell_far (p := ⟨gb145, _, none⟩) NB143_145.out _).trans (((cell_far (p := ⟨gb145, _, none⟩) NB143_145.out _).trans (((cell_far (p := ⟨gb145, _, none⟩) NB143_145.out _).trans (((cell_far (p := ⟨gb145, _, none⟩) NB143_145.out _).trans (hHeld.2.2.2.2.2.1)))))))), ((cell_far (p := ⟨gb145, _, none⟩) NB143_145.out _).trans (((cell_far (p := ⟨gb145, _, none⟩) NB143_145.out _).trans (((cell_far (p := ⟨gb145, _, none⟩) NB143_145.out _).trans (((cell_far (p := ⟨gb145, _, none⟩) NB143_145.out _).trans (hHeld.2.2.2.2.2.2.1)))))))), ((cell_far (p := ⟨gb145, _, none⟩) NB143_145.out _).trans (((cell_far (p := ⟨gb145, _, none⟩) NB143_145.out _).trans (((cell_far (p := ⟨gb145, _, none⟩) NB143_145.out _).trans (((cell_far (p := ⟨gb145, _, none⟩) NB143_145.out _).trans (hHeld.2.2.2.2.2.2.2))))))))⟩ (fun hHeld => ?_)
        clear hK K
        refine done_ (by kernel_rfl) ?_
        try go_wp2
        refine bodyPost_ret (results_cc rfl _ _ gb144 gb145 31 31 #[.int .i64 a0_0, .int .i64 a0_1, .int .i64 a0_2, .int .i64 a0_3] #[.int .i64 a1_0, .int .i64 (wrap64 (a1_1 + x9_35)), .int .i64 a1_2, .int .i64 a1_3] (0, 0) (0, 0) _ _ rfl (by (with_reducible repeat (first | refine blk_drewN ?_ _ | refine blk_drew ?_ | refine blk_alloc ?_ _)); refine blk_far ?_ NB144_145.out _; (with_reducible repeat (first | refine blk_drewN ?_ _ | refine blk_drew ?_ | refine blk_alloc ?_ _)); refine blk_far ?_ NB144_145.out _; (with_reducible repeat (first | refine blk_drewN ?_ _ | refine blk_drew ?_ | refine blk_alloc ?_ _)); refine blk_far ?_ NB144_145.out _; (with_reducible repeat (first | refine blk_drewN ?_ _ | refine blk_drew ?_ | refine blk_alloc ?_ _)); refine blk_far ?_ NB144_145.out _; (with_reducible repeat (first | refine blk_drewN ?_ _ | refine blk_drew ?_ | refine blk_alloc ?_ _)); refine blk_put (cs := #[.int .i64 a0_0, .int .i64 a0_1, .int .i64 a0_2, .int .i64 0]) ?_ 3 _ rfl; (with_reducible repeat (first | refine blk_drewN ?_ _ | refine blk_drew ?_ | refine blk_alloc ?_ _)); refine blk_put (cs := #[.int .i64 a0_0, .int .i64 a0_1, .int .i64 0, .int .i64 0]) ?_ 2 _ rfl; (with_reducible repeat (first | refine blk_drewN ?_ _ | refine blk_drew ?_ | refine blk_alloc ?_ _)); refine blk_put (cs := #[.int .i64 a0_0, .int .i64 0, .int .i64 0, .int .i64 0]) ?_ 1 _ rfl; (with_reducible repeat (first | refine blk_drewN ?_ _ | refine blk_drew ?_ | refine blk_alloc ?_ _)); refine blk_put (cs := #[.int .i64 0, .int .i64 0, .int .i64 0, .int .i64 0]) ?_ 0 _ rfl; (with_reducible repeat (first | refine blk_drewN ?_ _ | refine blk_drew ?_ | refine blk_alloc ?_ _)); exact BK144.out) Try.underlying31 rfl (by kernel_rfl) rfl (by (with_reducible repeat (first | refine blk_drewN ?_ _ | refine blk_drew ?_ | refine blk_alloc ?_ _)); refine blk_put (cs := #[.int .i64 a1_0, .int .i64 (wrap64 (a1_1 + x9_35)), .int .i64 a1_2, .int .i64 0]) ?_ 3 _ rfl; (with_reducible repeat (first | refine blk_drewN ?_ _ | refine blk_drew ?_ | refine blk_alloc ?_ _)); refine blk_put (cs := #[.int .i64 a1_0, .int .i64 (wrap64 (a1_1 + x9_35)), .int .i64 0, .int .i64 0]) ?_ 2 _ rfl; (with_reducible repeat (first | refine blk_drewN ?_ _ | refine blk_drew ?_ | refine blk_alloc ?_ _)); refine blk_put (cs := #[.int .i64 a1_0, .int .i64 0, .int .i64 0, .int .i64 0]) ?_ 1 _ rfl; (with_reducible repeat (first | refine blk_drewN ?_ _ | refine blk_drew ?_ | refine blk_alloc ?_ _)); refine blk_put (cs := #[.int .i64 0, .int .i64 0, .int .i64 0, .int .i64 0]) ?_ 0 _ rfl; (with_reducible repeat (first | refine blk_drewN ?_ _ | refine blk_drew ?_ | refine blk_alloc ?_ _)); refine blk_far ?_ NB145_144.out _; (with_reducible repeat (first | refine blk_drewN ?_ _ | refine blk_drew ?_ | refine blk_alloc ?_ _)); refine blk_far ?_ NB145_144.out _; (with_reducible repeat (first | refine blk_drewN ?_ _ | refine blk_drew ?_ | refine blk_alloc ?_ _)); refine blk_far ?_ NB145_144.out _; (with_reducible repeat (first | refine blk_drewN ?_ _ | refine blk_drew ?_ | refine blk_alloc ?_ _)); refine blk_far ?_ NB145_144.out _; (with_reducible repeat (first | refine blk_drewN ?_ _ | refine blk_drew ?_ | refine blk_alloc ?_ _)); exact BK145.out) Try.underlying31 rfl (by kernel_rfl)) rfl ?_
        exact ⟨by first | rfl | (simp [errW_none, errW_some] <;> rfl) | (simp [*, errW_none, errW_some] <;> rfl), blw⟩
       ·rw [if_neg c97] at H
        have c97b0 : decide (0 < a1_2) = false := decide_eq_false c97
        clear c97
        simp only [Option.some.injEq, Prod.mk.injEq] at H
        obtain ⟨rfl, rfl, rfl, rfl, rfl, rfl, rfl, rfl⟩ := H
        have hnb115 := NB142_143.out
        have hnc115 := NB143_142.out
        have hnb116 := NB142_144.out
        have hnc116 := NB144_142.out
        have hnb117 := NB142_145.out
        have hnc117 := NB145_142.out
        have hcz118_0 : wc.cell? ⟨gb142, 0, none⟩ = some (.int .i64 a0_0) := z_c BK142 0
        have hcz118_1 : wc.cell? ⟨gb142, 1, none⟩ = some (.int .i64 a0_1) := z_c BK142 1
        have hcz118_2 : wc.cell? ⟨gb142, 2, none⟩ = some (.int .i64 a0_2) := z_c BK142 2
        have hcz118_3 : wc.cell? ⟨gb142, 3, none⟩ = some (.int .i64 a0_3) := z_c BK142 3
        have hfz118_0 := blk_frozen BK142.out 0
        have hfz118_1 := blk_frozen BK142.out 1
        have hfz118_2 := blk_frozen BK142.out 2
        have hfz118_3 := blk_frozen BK142.out 3
        have hnb119 := NB143_144.out
        have hnc119 := NB144_143.out
        have hnb120 := NB143_145.out
        have hnc120 := NB145_143.out
        have hcz121_0 : wc.cell? ⟨gb143, 0, none⟩ = some (.int .i64 a1_0) := z_c BK143 0
        have hcz121_1 : wc.cell? ⟨gb143, 1, none⟩ = some (.int .i64 a1_1) := z_c BK143 1
        have hcz121_2 : wc.cell? ⟨gb143, 2, none⟩ = some (.int .i64 a1_2) := z_c BK143 2
        have hcz121_3 : wc.cell? ⟨gb143, 3, none⟩ = some (.int .i64 a1_3) := z_c BK143 3
        have hfz121_0 := blk_frozen BK143.out 0
        have hfz121_1 := blk_frozen BK143.out 1
        have hfz121_2 := blk_frozen BK143.out 2
        have hfz121_3 := blk_frozen BK143.out 3
        try go_wp2
        have n0_ := Aside0.mk (blk_drew BK142.out)
        have n1_ := Aside0.mk (blk_drew BK143.out)
        have n2_ := Aside0.mk (blk_drew BK144.out)
        have n3_ := Aside0.mk (blk_drew BK145.out)
        have n4_ := Aside0.mk (below_drew1 HB.out)
        clear BK142
        clear BK143
        clear BK144
        clear BK145
        clear HB
        have BK142 := n0_
        have BK143 := n1_
        have BK144 := n2_
        have BK145 := n3_
        have HB := n4_
        clear n0_ n1_ n2_ n3_ n4_
        refine start_ (n := 4) (S := fun w' => w'.cell? ⟨gb142, 0, none⟩ = some (.int .i64 a0_0) ∧ w'.cell? ⟨gb142, 1, none⟩ = some (.int .i64 a0_1) ∧ w'.cell? ⟨gb142, 2, none⟩ = some (.int .i64 a0_2) ∧ w'.cell? ⟨gb142, 3, none⟩ = some (.int .i64 a0_3) ∧ w'.cell? ⟨gb143, 0, none⟩ = some (.int .i64 a1_0) ∧ w'.cell? ⟨gb143, 1, none⟩ = some (.int .i64 a1_1) ∧ w'.cell? ⟨gb143, 2, none⟩ = some (.int .i64 a1_2) ∧ w'.cell? ⟨gb143, 3, none⟩ = some (.int .i64 a1_3)) (ds := []) #[false, false, false, false] (by kernel_rfl) rfl rfl ⟨z_c BK142 0, z_c BK142 1, z_c BK142 2, z_c BK142 3, z_c BK143 0, z_c BK143 1, z_c BK143 2, z_c BK143 3⟩ (fun hHeld => ?_)
        generalize wc.drew = w122 at BK142 BK143 BK144 BK145 HB hHeld ⊢
        refine take_ (i := 0) (N := some 86) (v := ?_) (a' := ?_) #[true, false, false, false] rfl rfl (by kernel_rfl) (fun _ _ _ h => h) (Or.inl ⟨by rfl, ?_⟩) hHeld ?_ ?_
        rotate_left; (· (rintro w' ⟨s0, s1, s2, s3, s4, s5, s6, s7⟩; go_simp; with_reducible rfl)); rotate_left; (· (simp only [Act.put, sp1, sp2, sp3, i64_w, i32_w]; rfl))
        refine take_ (i := 1) (N := some 87) (v := ?_) (a' := ?_) #[true, true, false, false] rfl rfl (by kernel_rfl) (fun _ _ _ h => h) (Or.inl ⟨by rfl, ?_⟩) hHeld ?_ ?_
        rotate_left; (· (rintro w' ⟨s0, s1, s2, s3, s4, s5, s6, s7⟩; go_simp; with_reducible rfl)); rotate_left; (· (simp only [Act.put, sp1, sp2, sp3, i64_w, i32_w]; rfl))
        refine one_ (i := 2) (N := none) #[true, true, true, false] rfl rfl (by kernel_rfl) (by decide) (fun K hK => ?_)
        have hs123 : w122.cell? ⟨gb144, 0, none⟩ = some (.int .i64 0) := z_c BK144 0
        have hfs123 := blk_frozen BK144.out 0
        have hns123_0 := NB142_144.out
        have hns123_1 := NB143_144.out
        have hns123_3 := NB145_144.out
        have hms123_0 := NB144_142.out
        have hms123_1 := NB144_143.out
        have hms123_3 := NB144_145.out
        have hs124 : w122.cell? ⟨gb144, 1, none⟩ = some (.int .i64 0) := z_c BK144 1
        have hfs124 := blk_frozen BK144.out 1
        have hns124_0 := NB142_144.out
        have hns124_1 := NB143_144.out
        have hns124_3 := NB145_144.out
        have hms124_0 := NB144_142.out
        have hms124_1 := NB144_143.out
        have hms124_3 := NB144_145.out
        have hs125 : w122.cell? ⟨gb144, 2, none⟩ = some (.int .i64 0) := z_c BK144 2
        have hfs125 := blk_frozen BK144.out 2
        have hns125_0 := NB142_144.out
        have hns125_1 := NB143_144.out
        have hns125_3 := NB145_144.out
        have hms125_0 := NB144_142.out
        have hms125_1 := NB144_143.out
        have hms125_3 := NB144_145.out
        have hs126 : w122.cell? ⟨gb144, 3, none⟩ = some (.int .i64 0) := z_c BK144 3
        have hfs126 := blk_frozen BK144.out 3
        have hns126_0 := NB142_144.out
        have hns126_1 := NB143_144.out
        have hns126_3 := NB145_144.out
        have hms126_0 := NB144_142.out
        have hms126_1 := NB144_143.out
        have hms126_3 := NB144_145.out
        refine skip_ (w1 := ?_) (by rfl) rfl ?_ ?_
        rotate_left
        ·go_simp
         rfl
        refine hK.out _ _ ⟨((cell_far (p := ⟨gb144, _, none⟩) NB142_144.out _).trans (((cell_far (p := ⟨gb144, _, none⟩) NB142_144.out _).trans (((cell_far (p := ⟨gb144, _, none⟩) NB142_144.out _).trans (((cell_far (p := ⟨gb144, _, none⟩) NB142_144.out _).trans (hHeld.1)))))))), ((cell_far (p := ⟨gb144, _, none⟩) NB142_144.out _).trans (((cell_far (p := ⟨gb144, _, none⟩) NB142_144.out _).trans (((cell_far (p := ⟨gb144, _, none⟩) NB142_144.out _).trans (((cell_far (p := ⟨gb144, _, none⟩) NB142_144.out _).trans (hHeld.2.1)))))))), ((cell_far (p := ⟨gb144, _, none⟩) NB142_144.out _).trans (((cell_far (p := ⟨gb144, _, none⟩) NB142_144.out _).trans (((cell_far (p := ⟨gb144, _, none⟩) NB142_144.out _).trans (((cell_far (p := ⟨gb144, _, none⟩) NB142_144.out _).trans (hHeld.2.2.1)))))))), ((cell_far (p := ⟨gb144, _, none⟩) NB142_144.out _).trans (((cell_far (p := ⟨gb144, _, none⟩) NB142_144.out _).trans (((cell_far (p := ⟨gb144, _, none⟩) NB142_144.out _).trans (((cell_far (p := ⟨gb144, _, none⟩) NB142_144.out _).trans (hHeld.2.2.2.1)))))))), ((cell_far (p := ⟨gb144, _, none⟩) NB143_144.out _).trans (((cell_far (p := ⟨gb144, _, none⟩) NB143_144.out _).trans (((cell_far (p := ⟨gb144, _, none⟩) NB143_144.out _).trans (((cell_far (p := ⟨gb144, _, none⟩) NB143_144.out _).trans (hHeld.2.2.2.2.1)))))))), ((cell_far (p := ⟨gb144, _, none⟩) NB143_144.out _).trans (((cell_far (p := ⟨gb144, _, none⟩) NB143_144.out _).trans (((cell_far (p := ⟨gb144, _, none⟩) NB143_144.out _).trans (((cell_far (p := ⟨gb144, _, none⟩) NB143_144.out _).trans (hHeld.2.2.2.2.2.1)))))))), ((cell_far (p := ⟨gb144, _, none⟩) NB143_144.out _).trans (((cell_far (p := ⟨gb144, _, none⟩) NB143_144.out _).trans (((cell_far (p := ⟨gb144, _, none⟩) NB143_144.out _).trans (((cell_far (p := ⟨gb144, _, none⟩) NB143_144.out _).trans (hHeld.2.2.2.2.2.2.1)))))))), ((cell_far (p := ⟨gb144, _, none⟩) NB143_144.out _).trans (((cell_far (p := ⟨gb144, _, none⟩) NB143_144.out _).trans (((cell_far (p := ⟨gb144, _, none⟩) NB143_144.out _).trans (((cell_far (p := ⟨gb144, _, none⟩) NB143_144.out _).trans (hHeld.2.2.2.2.2.2.2))))))))⟩ (fun hHeld => ?_)
        clear hK K
        refine one_ (i := 3) (N := none) #[true, true, true, true] rfl rfl (by kernel_rfl) (by decide) (fun K hK => ?_)
        have hs127 : w122.cell? ⟨gb145, 0, none⟩ = some (.int .i64 0) := z_c BK145 0
        have hfs127 := blk_frozen BK145.out 0
        have hns127_0 := NB142_145.out
        have hns127_1 := NB143_145.out
        have hns127_2 := NB144_145.out
        have hms127_0 := NB145_142.out
        have hms127_1 := NB145_143.out
        have hms127_2 := NB145_144.out
        have hs128 : w122.cell? ⟨gb145, 1, none⟩ = some (.int .i64 0) := z_c BK145 1
        have hfs128 := blk_frozen BK145.out 1
        have hns128_0 := NB142_145.out
        have hns128_1 := NB143_145.out
        have hns128_2 := NB144_145.out
        have hms128_0 := NB145_142.out
        have hms128_1 := NB145_143.out
        have hms128_2 := NB145_144.out
        have hs129 : w122.cell? ⟨gb145, 2, none⟩ = some (.int .i64 0) := z_c BK145 2
        have hfs129 := blk_frozen BK145.out 2
        have hns129_0 := NB142_145.out
        have hns129_1 := NB143_145.out
        have hns129_2 := NB144_145.out
        have hms129_0 := NB145_142.out
        have hms129_1 := NB145_143.out
        have hms129_2 := NB145_144.out
        have hs130 : w122.cell? ⟨gb145, 3, none⟩ = some (.int .i64 0) := z_c BK145 3
        have hfs130 := blk_frozen BK145.out 3
        have hns130_0 := NB142_145.out
        have hns130_1 := NB143_145.out
        have hns130_2 := NB144_145.out
        have hms130_0 := NB145_142.out
        have hms130_1 := NB145_143.out
        have hms130_2 := NB145_144.out
        refine skip_ (w1 := ?_) (by rfl) rfl ?_ ?_
        rotate_left
        ·go_simp
         rfl
        refine hK.out _ _ ⟨((cell_far (p := ⟨gb145, _, none⟩) NB142_145.out _).trans (((cell_far (p := ⟨gb145, _, none⟩) NB142_145.out _).trans (((cell_far (p := ⟨gb145, _, none⟩) NB142_145.out _).trans (((cell_far (p := ⟨gb145, _, none⟩) NB142_145.out _).trans (hHeld.1)))))))), ((cell_far (p := ⟨gb145, _, none⟩) NB142_145.out _).trans (((cell_far (p := ⟨gb145, _, none⟩) NB142_145.out _).trans (((cell_far (p := ⟨gb145, _, none⟩) NB142_145.out _).trans (((cell_far (p := ⟨gb145, _, none⟩) NB142_145.out _).trans (hHeld.2.1)))))))), ((cell_far (p := ⟨gb145, _, none⟩) NB142_145.out _).trans (((cell_far (p := ⟨gb145, _, none⟩) NB142_145.out _).trans (((cell_far (p := ⟨gb145, _, none⟩) NB142_145.out _).trans (((cell_far (p := ⟨gb145, _, none⟩) NB142_145.out _).trans (hHeld.2.2.1)))))))), ((cell_far (p := ⟨gb145, _, none⟩) NB142_145.out _).trans (((cell_far (p := ⟨gb145, _, none⟩) NB142_145.out _).trans (((cell_far (p := ⟨gb145, _, none⟩) NB142_145.out _).trans (((cell_far (p := ⟨gb145, _, none⟩) NB142_145.out _).trans (hHeld.2.2.2.1)))))))), ((cell_far (p := ⟨gb145, _, none⟩) NB143_145.out _).trans (((cell_far (p := ⟨gb145, _, none⟩) NB143_145.out _).trans (((cell_far (p := ⟨gb145, _, none⟩) NB143_145.out _).trans (((cell_far (p := ⟨gb145, _, none⟩) NB143_145.out _).trans (hHeld.2.2.2.2.1)))))))), ((cell_far (p := ⟨gb145, _, none⟩) NB143_145.out _).trans (((cell_far (p := ⟨gb145, _, none⟩) NB143_145.out _).trans (((cell_far (p := ⟨gb145, _, none⟩) NB143_145.out _).trans (((cell_far (p := ⟨gb145, _, none⟩) NB143_145.out _).trans (hHeld.2.2.2.2.2.1)))))))), ((cell_far (p := ⟨gb145, _, none⟩) NB143_145.out _).trans (((cell_far (p := ⟨gb145, _, none⟩) NB143_145.out _).trans (((cell_far (p := ⟨gb145, _, none⟩) NB143_145.out _).trans (((cell_far (p := ⟨gb145, _, none⟩) NB143_145.out _).trans (hHeld.2.2.2.2.2.2.1)))))))), ((cell_far (p := ⟨gb145, _, none⟩) NB143_145.out _).trans (((cell_far (p := ⟨gb145, _, none⟩) NB143_145.out _).trans (((cell_far (p := ⟨gb145, _, none⟩) NB143_145.out _).trans (((cell_far (p := ⟨gb145, _, none⟩) NB143_145.out _).trans (hHeld.2.2.2.2.2.2.2))))))))⟩ (fun hHeld => ?_)
        clear hK K
        refine done_ (by kernel_rfl) ?_
        try go_wp2
        refine bodyPost_ret (results_cc rfl _ _ gb144 gb145 31 31 #[.int .i64 a0_0, .int .i64 a0_1, .int .i64 a0_2, .int .i64 a0_3] #[.int .i64 a1_0, .int .i64 a1_1, .int .i64 a1_2, .int .i64 a1_3] (0, 0) (0, 0) _ _ rfl (by (with_reducible repeat (first | refine blk_drewN ?_ _ | refine blk_drew ?_ | refine blk_alloc ?_ _)); refine blk_far ?_ NB144_145.out _; (with_reducible repeat (first | refine blk_drewN ?_ _ | refine blk_drew ?_ | refine blk_alloc ?_ _)); refine blk_far ?_ NB144_145.out _; (with_reducible repeat (first | refine blk_drewN ?_ _ | refine blk_drew ?_ | refine blk_alloc ?_ _)); refine blk_far ?_ NB144_145.out _; (with_reducible repeat (first | refine blk_drewN ?_ _ | refine blk_drew ?_ | refine blk_alloc ?_ _)); refine blk_far ?_ NB144_145.out _; (with_reducible repeat (first | refine blk_drewN ?_ _ | refine blk_drew ?_ | refine blk_alloc ?_ _)); refine blk_put (cs := #[.int .i64 a0_0, .int .i64 a0_1, .int .i64 a0_2, .int .i64 0]) ?_ 3 _ rfl; (with_reducible repeat (first | refine blk_drewN ?_ _ | refine blk_drew ?_ | refine blk_alloc ?_ _)); refine blk_put (cs := #[.int .i64 a0_0, .int .i64 a0_1, .int .i64 0, .int .i64 0]) ?_ 2 _ rfl; (with_reducible repeat (first | refine blk_drewN ?_ _ | refine blk_drew ?_ | refine blk_alloc ?_ _)); refine blk_put (cs := #[.int .i64 a0_0, .int .i64 0, .int .i64 0, .int .i64 0]) ?_ 1 _ rfl; (with_reducible repeat (first | refine blk_drewN ?_ _ | refine blk_drew ?_ | refine blk_alloc ?_ _)); refine blk_put (cs := #[.int .i64 0, .int .i64 0, .int .i64 0, .int .i64 0]) ?_ 0 _ rfl; (with_reducible repeat (first | refine blk_drewN ?_ _ | refine blk_drew ?_ | refine blk_alloc ?_ _)); exact BK144.out) Try.underlying31 rfl (by kernel_rfl) rfl (by (with_reducible repeat (first | refine blk_drewN ?_ _ | refine blk_drew ?_ | refine blk_alloc ?_ _)); refine blk_put (cs := #[.int .i64 a1_0, .int .i64 a1_1, .int .i64 a1_2, .int .i64 0]) ?_ 3 _ rfl; (with_reducible repeat (first | refine blk_drewN ?_ _ | refine blk_drew ?_ | refine blk_alloc ?_ _)); refine blk_put (cs := #[.int .i64 a1_0, .int .i64 a1_1, .int .i64 0, .int .i64 0]) ?_ 2 _ rfl; (with_reducible repeat (first | refine blk_drewN ?_ _ | refine blk_drew ?_ | refine blk_alloc ?_ _)); refine blk_put (cs := #[.int .i64 a1_0, .int .i64 0, .int .i64 0, .int .i64 0]) ?_ 1 _ rfl; (with_reducible repeat (first | refine blk_drewN ?_ _ | refine blk_drew ?_ | refine blk_alloc ?_ _)); refine blk_put (cs := #[.int .i64 0, .int .i64 0, .int .i64 0, .int .i64 0]) ?_ 0 _ rfl; (with_reducible repeat (first | refine blk_drewN ?_ _ | refine blk_drew ?_ | refine blk_alloc ?_ _)); refine blk_far ?_ NB145_144.out _; (with_reducible repeat (first | refine blk_drewN ?_ _ | refine blk_drew ?_ | refine blk_alloc ?_ _)); refine blk_far ?_ NB145_144.out _; (with_reducible repeat (first | refine blk_drewN ?_ _ | refine blk_drew ?_ | refine blk_alloc ?_ _)); refine blk_far ?_ NB145_144.out _; (with_reducible repeat (first | refine blk_drewN ?_ _ | refine blk_drew ?_ | refine blk_alloc ?_ _)); refine blk_far ?_ NB145_144.out _; (with_reducible repeat (first | refine blk_drewN ?_ _ | refine blk_drew ?_ | refine blk_alloc ?_ _)); exact BK145.out) Try.underlying31 rfl (by kernel_rfl)) rfl ?_
        exact ⟨by first | rfl | (simp [errW_none, errW_some] <;> rfl) | (simp [*, errW_none, errW_some] <;> rfl), blw⟩

end Go.Proofs.Ytlijlailbjjfbaa.PFnExactStepIslands
