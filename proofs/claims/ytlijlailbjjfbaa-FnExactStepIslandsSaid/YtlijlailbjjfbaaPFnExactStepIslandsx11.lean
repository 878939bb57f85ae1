/- The machine's side of a law, function by function: a Lean function with the Go function's answers and the proof that the Go code comes to them. No condition. Written by this session's program over the kit's print, this session's own contracts set in. -/
import Derived.Test.YtlijlailbjjfbaaPFnExactStepIslandsx0
namespace Go.Proofs.Ytlijlailbjjfbaa.PFnExactStepIslands
open Go.RowKit Go.Proofs.YtlijlailbjjfbaaW.PrintWords Go.Proofs.YtlijlailbjjfbaaW.PrintLast Go.Proofs.YtlijlailbjjfbaaW.PrintMore
attribute [local go_sem] max2_int min2_int max_two min_two max_three min_three max_four min_four   -- for this text's walks alone
set_option linter.unusedVariables false
set_option linter.unusedSimpArgs false

/-! ### impl_pushed: function 76 -/
mutual
def impl_pushed.j0 : Nat → Int → Int → Bool → Int → Int → Int → Int → Int → Int → Int → Int → Option (Int × Int × Int × Int × Int × Int × Int × Int)
 | 0, _, _, _, _, _, _, _, _, _, _, _ => none
 | k + 1, x2, x8, x47, x242000, x242001, x242002, x242003, x243000, x243001, x243002, x243003 => if x47 = true then (some (x242000, x242001, x242002, x242003, x243000, x243001, x243002, x243003)) else (if x243002 = 0 then (impl_pushed.j1 k (wrap64 (Int.tdiv (wrap64 ((wrap64 (100 + x2)) * x242001)) 100)) x242000 x242001 x242002 x242003 x243000 x243001 x243002 x243003) else (if x242002 = 0 then (impl_pushed.j1 k (wrap64 (Int.tdiv (wrap64 ((wrap64 (100 + x2)) * (wrap64 (-x243001)))) 100)) x242000 x242001 x242002 x242003 x243000 x243001 x243002 x243003) else (if (wrap64 (100 * (wrap64 (x242002 + x243002)))) = 0 then (none) else (impl_pushed.j1 k (wrap64 (Int.tdiv (wrap64 ((wrap64 (100 + x2)) * x8)) (wrap64 (100 * (wrap64 (x242002 + x243002)))))) x242000 x242001 x242002 x242003 x243000 x243001 x243002 x243003))))
def impl_pushed.j1 : Nat → Int → Int → Int → Int → Int → Int → Int → Int → Int → Option (Int × Int × Int × Int × Int × Int × Int × Int)
 | 0, _, _, _, _, _, _, _, _, _ => none
 | k + 1, x9, x242000, x242001, x242002, x242003, x243000, x243001, x243002, x243003 => if x242002 > 0 then (if x243002 > 0 then (some (x242000, wrap64 (x242001 - x9), x242002, x242003, x243000, wrap64 (x243001 + x9), x243002, x243003)) else (some (x242000, wrap64 (x242001 - x9), x242002, x242003, x243000, x243001, x243002, x243003))) else (if x243002 > 0 then (some (x242000, x242001, x242002, x242003, x243000, wrap64 (x243001 + x9), x243002, x243003)) else (some (x242000, x242001, x242002, x242003, x243000, x243001, x243002, x243003)))
end
def impl_pushed.f (k : Nat) (a0_0 : Int) (a0_1 : Int) (a0_2 : Int) (a0_3 : Int) (a1_0 : Int) (a1_1 : Int) (a1_2 : Int) (a1_3 : Int) (a2 : Int) : Option (Int × Int × Int × Int × Int × Int × Int × Int) := if (wrap64 (a0_0 + a0_3)) < (wrap64 (a1_0 - a1_3)) then (impl_pushed.j0 k a2 (wrap64 ((wrap64 (a0_1 * (mx a1_2 1))) - (wrap64 (a1_1 * (mx a0_2 1))))) true a0_0 a0_1 a0_2 a0_3 a1_0 a1_1 a1_2 a1_3) else (if a0_2 = 0 then (if a1_2 = 0 then (impl_pushed.j0 k a2 (wrap64 ((wrap64 (a0_1 * (mx a1_2 1))) - (wrap64 (a1_1 * (mx a0_2 1))))) true a0_0 a0_1 a0_2 a0_3 a1_0 a1_1 a1_2 a1_3) else (impl_pushed.j0 k a2 (wrap64 ((wrap64 (a0_1 * (mx a1_2 1))) - (wrap64 (a1_1 * (mx a0_2 1))))) (decide ((wrap64 ((wrap64 (a0_1 * (mx a1_2 1))) - (wrap64 (a1_1 * (mx a0_2 1))))) ≤ 0)) a0_0 a0_1 a0_2 a0_3 a1_0 a1_1 a1_2 a1_3)) else (impl_pushed.j0 k a2 (wrap64 ((wrap64 (a0_1 * (mx a1_2 1))) - (wrap64 (a1_1 * (mx a0_2 1))))) (decide ((wrap64 ((wrap64 (a0_1 * (mx a1_2 1))) - (wrap64 (a1_1 * (mx a0_2 1))))) ≤ 0)) a0_0 a0_1 a0_2 a0_3 a1_0 a1_1 a1_2 a1_3))
theorem impl_pushed.mono_l : ∀ k, (∀ y0 y1 y2 y3 y4 y5 y6 y7 y8 y9 y10, LeO (impl_pushed.j0 k y0 y1 y2 y3 y4 y5 y6 y7 y8 y9 y10) (impl_pushed.j0 (k + 1) y0 y1 y2 y3 y4 y5 y6 y7 y8 y9 y10)) ∧ (∀ y0 y1 y2 y3 y4 y5 y6 y7 y8, LeO (impl_pushed.j1 k y0 y1 y2 y3 y4 y5 y6 y7 y8) (impl_pushed.j1 (k + 1) y0 y1 y2 y3 y4 y5 y6 y7 y8))
 | 0 => ⟨fun _ _ _ _ _ _ _ _ _ _ _ r h => by simp [impl_pushed.j0] at h, fun _ _ _ _ _ _ _ _ _ r h => by simp [impl_pushed.j1] at h⟩
 | k + 1 => by
  obtain ⟨ih0, ih1⟩ := impl_pushed.mono_l k
  refine ⟨?_, ?_⟩
  ·intro y0 y1 y2 y3 y4 y5 y6 y7 y8 y9 y10
   unfold impl_pushed.j0
   repeat' first
   | (with_reducible exact ih0 _ _ _ _ _ _ _ _ _ _ _)
   | (with_reducible exact ih1 _ _ _ _ _ _ _ _ _)
   | (with_reducible exact LeO.refl _)
   | (with_reducible exact LeO.none _)
   | (with_reducible refine LeO.ite ?_ ?_)
   | (with_reducible refine LeO.bind ?_ (fun _ => ?_))
   | exact ih0 _ _ _ _ _ _ _ _ _ _ _
   | exact ih1 _ _ _ _ _ _ _ _ _
   | exact LeO.none _
   | refine LeO.ite ?_ ?_
   | refine LeO.bind ?_ (fun _ => ?_)
  ·intro y0 y1 y2 y3 y4 y5 y6 y7 y8
   unfold impl_pushed.j1
   repeat' first
   | (with_reducible exact ih0 _ _ _ _ _ _ _ _ _ _ _)
   | (with_reducible exact ih1 _ _ _ _ _ _ _ _ _)
   | (with_reducible exact LeO.refl _)
   | (with_reducible exact LeO.none _)
   | (with_reducible refine LeO.ite ?_ ?_)
   | (with_reducible refine LeO.bind ?_ (fun _ => ?_))
   | exact ih0 _ _ _ _ _ _ _ _ _ _ _
   | exact ih1 _ _ _ _ _ _ _ _ _
   | exact LeO.none _
   | refine LeO.ite ?_ ?_
   | refine LeO.bind ?_ (fun _ => ?_)
theorem impl_pushed.mono : ∀ a0 a1 a2 a3 a4 a5 a6 a7 a8 k, LeO (impl_pushed.f k a0 a1 a2 a3 a4 a5 a6 a7 a8) (impl_pushed.f (k + 1) a0 a1 a2 a3 a4 a5 a6 a7 a8) := by
 intro a0 a1 a2 a3 a4 a5 a6 a7 a8 k
 obtain ⟨ih0, ih1⟩ := impl_pushed.mono_l k
 unfold impl_pushed.f
 repeat' first
   | (with_reducible exact ih0 _ _ _ _ _ _ _ _ _ _ _)
   | (with_reducible exact ih1 _ _ _ _ _ _ _ _ _)
   | (with_reducible exact LeO.refl _)
   | (with_reducible exact LeO.none _)
   | (with_reducible refine LeO.ite ?_ ?_)
   | (with_reducible refine LeO.bind ?_ (fun _ => ?_))
   | exact ih0 _ _ _ _ _ _ _ _ _ _ _
   | exact ih1 _ _ _ _ _ _ _ _ _
   | exact LeO.none _
   | refine LeO.ite ?_ ?_
   | refine LeO.bind ?_ (fun _ => ?_)
set_option maxHeartbeats 8000000 in
set_option maxRecDepth 100000 in
theorem impl_pushed.calls (k : Nat) (a0_0 : Int) (a0_1 : Int) (a0_2 : Int) (a0_3 : Int) (a1_0 : Int) (a1_1 : Int) (a1_2 : Int) (a1_3 : Int) (a2 : Int) (r1 : Int) (r2 : Int) (r3 : Int) (r4 : Int) (r5 : Int) (r6 : Int) (r7 : Int) (r8 : Int) (w : World) (h : impl_pushed.f k a0_0 a0_1 a0_2 a0_3 a1_0 a1_1 a1_2 a1_3 a2 = some (r1, r2, r3, r4, r5, r6, r7, r8)) :
  Calls Try.prog 76 #[.agg #[.int .i64 a0_0, .int .i64 a0_1, .int .i64 a0_2, .int .i64 a0_3], .agg #[.int .i64 a1_0, .int .i64 a1_1, .int .i64 a1_2, .int .i64 a1_3], .int .i64 a2] w fun e w' => e = .returned (.tuple #[.agg #[.int .i64 r1, .int .i64 r2, .int .i64 r3, .int .i64 r4], .agg #[.int .i64 r5, .int .i64 r6, .int .i64 r7, .int .i64 r8]]) ∧ Below w.heap.size w w' := by
 have hu31 := Try.underlying31
 have HB := Aside0.mk (Below.refl w.heap.size w)
 have H : (if (wrap64 (a0_0 + a0_3)) < (wrap64 (a1_0 - a1_3)) then (impl_pushed.j0 k a2 (wrap64 ((wrap64 (a0_1 * (mx a1_2 1))) - (wrap64 (a1_1 * (mx a0_2 1))))) true a0_0 a0_1 a0_2 a0_3 a1_0 a1_1 a1_2 a1_3) else (if a0_2 = 0 then (if a1_2 = 0 then (impl_pushed.j0 k a2 (wrap64 ((wrap64 (a0_1 * (mx a1_2 1))) - (wrap64 (a1_1 * (mx a0_2 1))))) true a0_0 a0_1 a0_2 a0_3 a1_0 a1_1 a1_2 a1_3) else (impl_pushed.j0 k a2 (wrap64 ((wrap64 (a0_1 * (mx a1_2 1))) - (wrap64 (a1_1 * (mx a0_2 1))))) (decide ((wrap64 ((wrap64 (a0_1 * (mx a1_2 1))) - (wrap64 (a1_1 * (mx a0_2 1))))) ≤ 0)) a0_0 a0_1 a0_2 a0_3 a1_0 a1_1 a1_2 a1_3)) else (impl_pushed.j0 k a2 (wrap64 ((wrap64 (a0_1 * (mx a1_2 1))) - (wrap64 (a1_1 * (mx a0_2 1))))) (decide ((wrap64 ((wrap64 (a0_1 * (mx a1_2 1))) - (wrap64 (a1_1 * (mx a0_2 1))))) ≤ 0)) a0_0 a0_1 a0_2 a0_3 a1_0 a1_1 a1_2 a1_3))) = some (r1, r2, r3, r4, r5, r6, r7, r8) := h
 clear h
 obtain ⟨ji4, hji4⟩ : ∃ j_ : Int, (mx a1_2 1) = j_ := ⟨_, rfl⟩
 replace H : (if (wrap64 (a0_0 + a0_3)) < (wrap64 (a1_0 - a1_3)) then (impl_pushed.j0 k a2 (wrap64 ((wrap64 (a0_1 * (ji4))) - (wrap64 (a1_1 * (mx a0_2 1))))) true a0_0 a0_1 a0_2 a0_3 a1_0 a1_1 a1_2 a1_3) else (if a0_2 = 0 then (if a1_2 = 0 then (impl_pushed.j0 k a2 (wrap64 ((wrap64 (a0_1 * (ji4))) - (wrap64 (a1_1 * (mx a0_2 1))))) true a0_0 a0_1 a0_2 a0_3 a1_0 a1_1 a1_2 a1_3) else (impl_pushed.j0 k a2 (wrap64 ((wrap64 (a0_1 * (ji4))) - (wrap64 (a1_1 * (mx a0_2 1))))) (decide ((wrap64 ((wrap64 (a0_1 * (ji4))) - (wrap64 (a1_1 * (mx a0_2 1))))) ≤ 0)) a0_0 a0_1 a0_2 a0_3 a1_0 a1_1 a1_2 a1_3)) else (impl_pushed.j0 k a2 (wrap64 ((wrap64 (a0_1 * (ji4))) - (wrap64 (a1_1 * (mx a0_2 1))))) (decide ((wrap64 ((wrap64 (a0_1 * (ji4))) - (wrap64 (a1_1 * (mx a0_2 1))))) ≤ 0)) a0_0 a0_1 a0_2 a0_3 a1_0 a1_1 a1_2 a1_3))) = some (r1, r2, r3, r4, r5, r6, r7, r8) := by first | (rw [hji4] at H; exact H) | (simp only [hji4] at H ⊢; exact H)
 (try (have hji4l : 1 ≤ ji4 := by (rw [← hji4]; unfold mx; (repeat' split) <;> omega)))
 (try (have hji4m : 0 ≤ ji4 := by omega))
 have hji4_ : (if a1_2 < 1 then 1 else a1_2) = ji4 := hji4
 obtain ⟨ji5, hji5⟩ : ∃ j_ : Int, (mx a0_2 1) = j_ := ⟨_, rfl⟩
 replace H : (if (wrap64 (a0_0 + a0_3)) < (wrap64 (a1_0 - a1_3)) then (impl_pushed.j0 k a2 (wrap64 ((wrap64 (a0_1 * (ji4))) - (wrap64 (a1_1 * (ji5))))) true a0_0 a0_1 a0_2 a0_3 a1_0 a1_1 a1_2 a1_3) else (if a0_2 = 0 then (if a1_2 = 0 then (impl_pushed.j0 k a2 (wrap64 ((wrap64 (a0_1 * (ji4))) - (wrap64 (a1_1 * (ji5))))) true a0_0 a0_1 a0_2 a0_3 a1_0 a1_1 a1_2 a1_3) else (impl_pushed.j0 k a2 (wrap64 ((wrap64 (a0_1 * (ji4))) - (wrap64 (a1_1 * (ji5))))) (decide ((wrap64 ((wrap64 (a0_1 * (ji4))) - (wrap64 (a1_1 * (ji5))))) ≤ 0)) a0_0 a0_1 a0_2 a0_3 a1_0 a1_1 a1_2 a1_3)) else (impl_pushed.j0 k a2 (wrap64 ((wrap64 (a0_1 * (ji4))) - (wrap64 (a1_1 * (ji5))))) (decide ((wrap64 ((wrap64 (a0_1 * (ji4))) - (wrap64 (a1_1 * (ji5))))) ≤ 0)) a0_0 a0_1 a0_2 a0_3 a1_0 a1_1 a1_2 a1_3))) = some (r1, r2, r3, r4, r5, r6, r7, r8) := by first | (rw [hji5] at H; exact H) | (simp only [hji5] at H ⊢; exact H)
 (try (have hji5l : 1 ≤ ji5 := by (rw [← hji5]; unfold mx; (repeat' split) <;> omega)))
 (try (have hji5m : 0 ≤ ji5 := by omega))
 have hji5_ : (if a0_2 < 1 then 1 else a0_2) = ji5 := hji5
 have HC6 := Aside0.mk H
 clear H
 go_enter Try.func76, Try.ntmps76
 go_upto_region 2 with (first | ((with_reducible refine gate_dst (N := 3) rfl ?_); refine box_event ?hg (N := 3) ?hd (cs := #[.int .i64 a0_0, .int .i64 a0_1, .int .i64 a0_2, .int .i64 a0_3]) (t := 31) ?hr ?_; (case hd => rfl); (case hg => rfl); (case hr => first | (go_simp; done) | (go_simp; rfl)); intro gb241 hg w7 hbox hb; have n0_ := z_bs HB hb; have n1_ := Aside0.mk (hbox); have n2_ := z_gw HB hg; have n3_ := z_gw HB hg; clear HB; have HB := n0_; have BK241 := n1_; have GW241 := n2_; have GE241 := n3_; clear n0_ n1_ n2_ n3_; clear hb hbox hg) | ((with_reducible refine gate_dst (N := 4) rfl ?_); refine box_event ?hg (N := 4) ?hd (cs := #[.int .i64 a1_0, .int .i64 a1_1, .int .i64 a1_2, .int .i64 a1_3]) (t := 31) ?hr ?_; (case hd => rfl); (case hg => rfl); (case hr => first | (go_simp; done) | (go_simp; rfl)); intro gb242 hg w8 hbox hb; have n0_ := z_bk BK241 hb; have n1_ := z_bs HB hb; have n2_ := Aside0.mk (hbox); have n3_ := z_gw HB hg; have n4_ := z_gw HB hg; have n5_ := z_nl BK241 hg; have n6_ := z_ng BK241 hg; clear BK241; clear HB; have BK241 := n0_; have HB := n1_; have BK242 := n2_; have GW242 := n3_; have GE242 := n4_; have NB241_242 := n5_; have NB242_241 := n6_; clear n0_ n1_ n2_ n3_ n4_ n5_ n6_; clear hb hbox hg) | ((with_reducible refine gate_dst (N := 6) rfl ?_); refine box_event ?hg (N := 6) ?hd (cs := #[.int .i64 0, .int .i64 0, .int .i64 0, .int .i64 0]) (t := 31) ?hr ?_; (case hd => rfl); (case hg => rfl); (case hr => first | (go_simp; done) | (go_simp; rfl)); intro gb243 hg w9 hbox hb; have n0_ := z_bk BK241 hb; have n1_ := z_bk BK242 hb; have n2_ := z_bs HB hb; have n3_ := Aside0.mk (hbox); have n4_ := z_gw HB hg; have n5_ := z_gw HB hg; have n6_ := z_nl BK241 hg; have n7_ := z_ng BK241 hg; have n8_ := z_nl BK242 hg; have n9_ := z_ng BK242 hg; clear BK241; clear BK242; clear HB; have BK241 := n0_; have BK242 := n1_; have HB := n2_; have BK243 := n3_; have GW243 := n4_; have GE243 := n5_; have NB241_243 := n6_; have NB243_241 := n7_; have NB242_243 := n8_; have NB243_242 := n9_; clear n0_ n1_ n2_ n3_ n4_ n5_ n6_ n7_ n8_ n9_; clear hb hbox hg) | ((with_reducible refine gate_dst (N := 7) rfl ?_); refine box_event ?hg (N := 7) ?hd (cs := #[.int .i64 0, .int .i64 0, .int .i64 0, .int .i64 0]) (t := 31) ?hr ?_; (case hd => rfl); (case hg => rfl); (case hr => first | (go_simp; done) | (go_simp; rfl)); intro gb244 hg w10 hbox hb; have n0_ := z_bk BK241 hb; have n1_ := z_bk BK242 hb; have n2_ := z_bk BK243 hb; have n3_ := z_bs HB hb; have n4_ := Aside0.mk (hbox); have n5_ := z_gw HB hg; have n6_ := z_gw HB hg; have n7_ := z_nl BK241 hg; have n8_ := z_ng BK241 hg; have n9_ := z_nl BK242 hg; have n10_ := z_ng BK242 hg; have n11_ := z_nl BK243 hg; have n12_ := z_ng BK243 hg; clear BK241; clear BK242; clear BK243; clear HB; have BK241 := n0_; have BK242 := n1_; have BK243 := n2_; have HB := n3_; have BK244 := n4_; have GW244 := n5_; have GE244 := n6_; have NB241_244 := n7_; have NB244_241 := n8_; have NB242_244 := n9_; have NB244_242 := n10_; have NB243_244 := n11_; have NB244_243 := n12_; clear n0_ n1_ n2_ n3_ n4_ n5_ n6_ n7_ n8_ n9_ n10_ n11_ n12_; clear hb hbox hg; have hnb11 := NB241_242.out; have hnc11 := NB242_241.out; have hnb12 := NB241_243.out; have hnc12 := NB243_241.out; have hnb13 := NB241_244.out; have hnc13 := NB244_241.out; have hcz14_0 : w10.cell? ⟨gb241, 0, none⟩ = some (.int .i64 a0_0) := z_c BK241 0; have hcz14_1 : w10.cell? ⟨gb241, 1, none⟩ = some (.int .i64 a0_1) := z_c BK241 1; have hcz14_2 : w10.cell? ⟨gb241, 2, none⟩ = some (.int .i64 a0_2) := z_c BK241 2; have hcz14_3 : w10.cell? ⟨gb241, 3, none⟩ = some (.int .i64 a0_3) := z_c BK241 3; have hfz14_0 := blk_frozen BK241.out 0; have hfz14_1 := blk_frozen BK241.out 1; have hfz14_2 := blk_frozen BK241.out 2; have hfz14_3 := blk_frozen BK241.out 3; have hnb15 := NB242_243.out; have hnc15 := NB243_242.out; have hnb16 := NB242_244.out; have hnc16 := NB244_242.out; have hcz17_0 : w10.cell? ⟨gb242, 0, none⟩ = some (.int .i64 a1_0) := z_c BK242 0; have hcz17_1 : w10.cell? ⟨gb242, 1, none⟩ = some (.int .i64 a1_1) := z_c BK242 1; have hcz17_2 : w10.cell? ⟨gb242, 2, none⟩ = some (.int .i64 a1_2) := z_c BK242 2; have hcz17_3 : w10.cell? ⟨gb242, 3, none⟩ = some (.int .i64 a1_3) := z_c BK242 3; have hfz17_0 := blk_frozen BK242.out 0; have hfz17_1 := blk_frozen BK242.out 1; have hfz17_2 := blk_frozen BK242.out 2; have hfz17_3 := blk_frozen BK242.out 3))
 (try simp only [Act.put, List.setIfInBounds_toArray, List.set_cons_zero, List.set_cons_succ])
 go_cut [47] (fun v47 wc => ∃ (kq : Nat) (x47_5 : Bool), v47 = .bool x47_5 ∧ Aside0 (impl_pushed.j0 kq a2 (wrap64 ((wrap64 (a0_1 * (ji4))) - (wrap64 (a1_1 * (ji5))))) x47_5 a0_0 a0_1 a0_2 a0_3 a1_0 a1_1 a1_2 a1_3 = some (r1, r2, r3, r4, r5, r6, r7, r8)) ∧ Aside0 (kq ≤ k) ∧ Aside0 (wc.heap[gb241]? = some (.cells #[.int .i64 a0_0, .int .i64 a0_1, .int .i64 a0_2, .int .i64 a0_3] 31 (0, 0))) ∧ Aside0 (wc.heap[gb242]? = some (.cells #[.int .i64 a1_0, .int .i64 a1_1, .int .i64 a1_2, .int .i64 a1_3] 31 (0, 0))) ∧ Aside0 (wc.heap[gb243]? = some (.cells #[.int .i64 0, .int .i64 0, .int .i64 0, .int .i64 0] 31 (0, 0))) ∧ Aside0 (wc.heap[gb244]? = some (.cells #[.int .i64 0, .int .i64 0, .int .i64 0, .int .i64 0] 31 (0, 0))) ∧ Aside0 (Below w.heap.size w wc))
 case first =>
  have H := HC6.out
  clear HC6
  by_cases c18 : (wrap64 (a0_0 + a0_3)) < (wrap64 (a1_0 - a1_3))
  ·rw [if_pos c18] at H
   have c18b0 : decide ((wrap64 (a0_0 + a0_3)) < (wrap64 (a1_0 - a1_3))) = true := decide_eq_true c18
   clear c18
   (first | rw [c18b0] | (simp only [i64_w, i32_w]; rw [c18b0]) | skip)
   have H' := Aside0.mk H
   clear H
   have hnb19 := NB241_242.out
   have hnc19 := NB242_241.out
   have hnb20 := NB241_243.out
   have hnc20 := NB243_241.out
   have hnb21 := NB241_244.out
   have hnc21 := NB244_241.out
   have hcz22_0 : w10.cell? ⟨gb241, 0, none⟩ = some (.int .i64 a0_0) := z_c BK241 0
   have hcz22_1 : w10.cell? ⟨gb241, 1, none⟩ = some (.int .i64 a0_1) := z_c BK241 1
   have hcz22_2 : w10.cell? ⟨gb241, 2, none⟩ = some (.int .i64 a0_2) := z_c BK241 2
   have hcz22_3 : w10.cell? ⟨gb241, 3, none⟩ = some (.int .i64 a0_3) := z_c BK241 3
   have hfz22_0 := blk_frozen BK241.out 0
   have hfz22_1 := blk_frozen BK241.out 1
   have hfz22_2 := blk_frozen BK241.out 2
   have hfz22_3 := blk_frozen BK241.out 3
   have hnb23 := NB242_243.out
   have hnc23 := NB243_242.out
   have hnb24 := NB242_244.out
   have hnc24 := NB244_242.out
   have hcz25_0 : w10.cell? ⟨gb242, 0, none⟩ = some (.int .i64 a1_0) := z_c BK242 0
   have hcz25_1 : w10.cell? ⟨gb242, 1, none⟩ = some (.int .i64 a1_1) := z_c BK242 1
   have hcz25_2 : w10.cell? ⟨gb242, 2, none⟩ = some (.int .i64 a1_2) := z_c BK242 2
   have hcz25_3 : w10.cell? ⟨gb242, 3, none⟩ = some (.int .i64 a1_3) := z_c BK242 3
   have hfz25_0 := blk_frozen BK242.out 0
   have hfz25_1 := blk_frozen BK242.out 1
   have hfz25_2 := blk_frozen BK242.out 2
   have hfz25_3 := blk_frozen BK242.out 3
   go_wp2
   go_meet
   case rel => exact ⟨_, (true), (by first | rfl | (simp; done) | (simp [*]; done)), H', ⟨by first | omega | exact Nat.le_refl _⟩, ⟨by (with_reducible repeat (first | refine blk_drewN ?_ _ | refine blk_drew ?_ | refine blk_alloc ?_ _)); exact BK241.out⟩, ⟨by (with_reducible repeat (first | refine blk_drewN ?_ _ | refine blk_drew ?_ | refine blk_alloc ?_ _)); exact BK242.out⟩, ⟨by (with_reducible repeat (first | refine blk_drewN ?_ _ | refine blk_drew ?_ | refine blk_alloc ?_ _)); exact BK243.out⟩, ⟨by (with_reducible repeat (first | refine blk_drewN ?_ _ | refine blk_drew ?_ | refine blk_alloc ?_ _)); exact BK244.out⟩, ⟨blw⟩⟩
  ·rw [if_neg c18] at H
   have c18b0 : decide ((wrap64 (a0_0 + a0_3)) < (wrap64 (a1_0 - a1_3))) = false := decide_eq_false c18
   clear c18
   (first | rw [c18b0] | (simp only [i64_w, i32_w]; rw [c18b0]) | skip)
   by_cases c26 : a0_2 = 0
   ·rw [if_pos c26] at H
    have c26b0 : (a0_2 == 0) = true := beq_iff_eq.mpr c26
    have c26b1 : (a0_2 != 0) = false := bne_eq_false_iff_eq.mpr c26
    clear c26
    by_cases c27 : a1_2 = 0
    ·rw [if_pos c27] at H
     have c27b0 : (a1_2 == 0) = true := beq_iff_eq.mpr c27
     have c27b1 : (a1_2 != 0) = false := bne_eq_false_iff_eq.mpr c27
     clear c27
     have H' := Aside0.mk H
     clear H
     have hnb28 := NB241_242.out
     have hnc28 := NB242_241.out
     have hnb29 := NB241_243.out
     have hnc29 := NB243_241.out
     have hnb30 := NB241_244.out
     have hnc30 := NB244_241.out
     have hcz31_0 : w10.cell? ⟨gb241, 0, none⟩ = some (.int .i64 a0_0) := z_c BK241 0
     have hcz31_1 : w10.cell? ⟨gb241, 1, none⟩ = some (.int .i64 a0_1) := z_c BK241 1
     have hcz31_2 : w10.cell? ⟨gb241, 2, none⟩ = some (.int .i64 a0_2) := z_c BK241 2
     have hcz31_3 : w10.cell? ⟨gb241, 3, none⟩ = some (.int .i64 a0_3) := z_c BK241 3
     have hfz31_0 := blk_frozen BK241.out 0
     have hfz31_1 := blk_frozen BK241.out 1
     have hfz31_2 := blk_frozen BK241.out 2
     have hfz31_3 := blk_frozen BK241.out 3
     have hnb32 := NB242_243.out
     have hnc32 := NB243_242.out
     have hnb33 := NB242_244.out
     have hnc33 := NB244_242.out
     have hcz34_0 : w10.cell? ⟨gb242, 0, none⟩ = some (.int .i64 a1_0) := z_c BK242 0
     have hcz34_1 : w10.cell? ⟨gb242, 1, none⟩ = some (.int .i64 a1_1) := z_c BK242 1
     have hcz34_2 : w10.cell? ⟨gb242, 2, none⟩ = some (.int .i64 a1_2) := z_c BK242 2
     have hcz34_3 : w10.cell? ⟨gb242, 3, none⟩ = some (.int .i64 a1_3) := z_c BK242 3
     have hfz34_0 := blk_frozen BK242.out 0
     have hfz34_1 := blk_frozen BK242.out 1
     have hfz34_2 := blk_frozen BK242.out 2
     have hfz34_3 := blk_frozen BK242.out 3
     go_wp2
     go_meet
     case rel => exact ⟨_, (true), (by first | rfl | (simp; done) | (simp [*]; done)), H', ⟨by first | omega | exact Nat.le_refl _⟩, ⟨by (with_reducible repeat (first | refine blk_drewN ?_ _ | refine blk_drew ?_ | refine blk_alloc ?_ _)); exact BK241.out⟩, ⟨by (with_reducible repeat (first | refine blk_drewN ?_ _ | refine blk_drew ?_ | refine blk_alloc ?_ _)); exact BK242.out⟩, ⟨by (with_reducible repeat (first | refine blk_drewN ?_ _ | refine blk_drew ?_ | refine blk_alloc ?_ _)); exact BK243.out⟩, ⟨by (with_reducible repeat (first | refine blk_drewN ?_ _ | refine blk_drew ?_ | refine blk_alloc ?_ _)); exact BK244.out⟩, ⟨blw⟩⟩
    ·rw [if_neg c27] at H
     have c27b0 : (a1_2 == 0) = false := beq_eq_false_iff_ne.mpr c27
     have c27b1 : (a1_2 != 0) = true := bne_iff_ne.mpr c27
     have H' := Aside0.mk H
     clear H
     have hnb35 := NB241_242.out
     have hnc35 := NB242_241.out
     have hnb36 := NB241_243.out
     have hnc36 := NB243_241.out
     have hnb37 := NB241_244.out
     have hnc37 := NB244_241.out
     have hcz38_0 : w10.cell? ⟨gb241, 0, none⟩ = some (.int .i64 a0_0) := z_c BK241 0
     have hcz38_1 : w10.cell? ⟨gb241, 1, none⟩ = some (.int .i64 a0_1) := z_c BK241 1
     have hcz38_2 : w10.cell? ⟨gb241, 2, none⟩ = some (.int .i64 a0_2) := z_c BK241 2
     have hcz38_3 : w10.cell? ⟨gb241, 3, none⟩ = some (.int .i64 a0_3) := z_c BK241 3
     have hfz38_0 := blk_frozen BK241.out 0
     have hfz38_1 := blk_frozen BK241.out 1
     have hfz38_2 := blk_frozen BK241.out 2
     have hfz38_3 := blk_frozen BK241.out 3
     have hnb39 := NB242_243.out
     have hnc39 := NB243_242.out
     have hnb40 := NB242_244.out
     have hnc40 := NB244_242.out
     have hcz41_0 : w10.cell? ⟨gb242, 0, none⟩ = some (.int .i64 a1_0) := z_c BK242 0
     have hcz41_1 : w10.cell? ⟨gb242, 1, none⟩ = some (.int .i64 a1_1) := z_c BK242 1
     have hcz41_2 : w10.cell? ⟨gb242, 2, none⟩ = some (.int .i64 a1_2) := z_c BK242 2
     have hcz41_3 : w10.cell? ⟨gb242, 3, none⟩ = some (.int .i64 a1_3) := z_c BK242 3
     have hfz41_0 := blk_frozen BK242.out 0
     have hfz41_1 := blk_frozen BK242.out 1
     have hfz41_2 := blk_frozen BK242.out 2
     have hfz41_3 := blk_frozen BK242.out 3
     go_wp2
     go_meet
     case rel => exact ⟨_, (decide ((wrap64 ((wrap64 (a0_1 * (ji4))) - (wrap64 (a1_1 * (ji5))))) ≤ 0)), (by first | rfl | (simp; done) | (simp only [← hji4, ← hji5] <;> (first | rfl | simp)) | (simp [*]; done)), H', ⟨by first | omega | exact Nat.le_refl _⟩, ⟨by (with_reducible repeat (first | refine blk_drewN ?_ _ | refine blk_drew ?_ | refine blk_alloc ?_ _)); exact BK241.out⟩, ⟨by (with_reducible repeat (first | refine blk_drewN ?_ _ | refine blk_drew ?_ | refine blk_alloc ?_ _)); exact BK242.out⟩, ⟨by (with_reducible repeat (first | refine blk_drewN ?_ _ | refine blk_drew ?_ | refine blk_alloc ?_ _)); exact BK243.out⟩, ⟨by (with_reducible repeat (first | refine blk_drewN ?_ _ | refine blk_drew ?_ | refine blk_alloc ?_ _)); exact BK244.out⟩, ⟨blw⟩⟩
   ·rw [if_neg c26] at H
    have c26b0 : (a0_2 == 0) = false := beq_eq_false_iff_ne.mpr c26
    have c26b1 : (a0_2 != 0) = true := bne_iff_ne.mpr c26
    have H' := Aside0.mk H
    clear H
    have hnb42 := NB241_242.out
    have hnc42 := NB242_241.out
    have hnb43 := NB241_243.out
    have hnc43 := NB243_241.out
    have hnb44 := NB241_244.out
    have hnc44 := NB244_241.out
    have hcz45_0 : w10.cell? ⟨gb241, 0, none⟩ = some (.int .i64 a0_0) := z_c BK241 0
    have hcz45_1 : w10.cell? ⟨gb241, 1, none⟩ = some (.int .i64 a0_1) := z_c BK241 1
    have hcz45_2 : w10.cell? ⟨gb241, 2, none⟩ = some (.int .i64 a0_2) := z_c BK241 2
    have hcz45_3 : w10.cell? ⟨gb241, 3, none⟩ = some (.int .i64 a0_3) := z_c BK241 3
    have hfz45_0 := blk_frozen BK241.out 0
    have hfz45_1 := blk_frozen BK241.out 1
    have hfz45_2 := blk_frozen BK241.out 2
    have hfz45_3 := blk_frozen BK241.out 3
    have hnb46 := NB242_243.out
    have hnc46 := NB243_242.out
    have hnb47 := NB242_244.out
    have hnc47 := NB244_242.out
    have hcz48_0 : w10.cell? ⟨gb242, 0, none⟩ = some (.int .i64 a1_0) := z_c BK242 0
    have hcz48_1 : w10.cell? ⟨gb242, 1, none⟩ = some (.int .i64 a1_1) := z_c BK242 1
    have hcz48_2 : w10.cell? ⟨gb242, 2, none⟩ = some (.int .i64 a1_2) := z_c BK242 2
    have hcz48_3 : w10.cell? ⟨gb242, 3, none⟩ = some (.int .i64 a1_3) := z_c BK242 3
    have hfz48_0 := blk_frozen BK242.out 0
    have hfz48_1 := blk_frozen BK242.out 1
    have hfz48_2 := blk_frozen BK242.out 2
    have hfz48_3 := blk_frozen BK242.out 3
    go_wp2
    go_meet
    case rel => exact ⟨_, (decide ((wrap64 ((wrap64 (a0_1 * (ji4))) - (wrap64 (a1_1 * (ji5))))) ≤ 0)), (by first | rfl | (simp; done) | (simp only [← hji4, ← hji5] <;> (first | rfl | simp)) | (simp [*]; done)), H', ⟨by first | omega | exact Nat.le_refl _⟩, ⟨by (with_reducible repeat (first | refine blk_drewN ?_ _ | refine blk_drew ?_ | refine blk_alloc ?_ _)); exact BK241.out⟩, ⟨by (with_reducible repeat (first | refine blk_drewN ?_ _ | refine blk_drew ?_ | refine blk_alloc ?_ _)); exact BK242.out⟩, ⟨by (with_reducible repeat (first | refine blk_drewN ?_ _ | refine blk_drew ?_ | refine blk_alloc ?_ _)); exact BK243.out⟩, ⟨by (with_reducible repeat (first | refine blk_drewN ?_ _ | refine blk_drew ?_ | refine blk_alloc ?_ _)); exact BK244.out⟩, ⟨blw⟩⟩
 case rest =>
  clear HC6
  try clear c1
  try clear c2
  try clear p2
  try clear c3
  try clear c4
  try clear p6
  try clear c7
  try clear c11
  try clear c12
  try clear c13
  try clear c15
  try clear c16
  try clear c18
  try clear c18b0
  try clear c19
  try clear c20
  try clear c21
  try clear c23
  try clear c24
  try clear c26
  try clear c26b0
  try clear c26b1
  try clear c27
  try clear c27b0
  try clear c27b1
  try clear c28
  try clear c29
  try clear c30
  try clear c32
  try clear c33
  try clear c35
  try clear c36
  try clear c37
  try clear c39
  try clear c40
  try clear c42
  try clear c43
  try clear c44
  try clear c46
  try clear c47
  try clear hcz14_0
  try clear hcz14_1
  try clear hcz14_2
  try clear hcz14_3
  try clear hcz17_0
  try clear hcz17_1
  try clear hcz17_2
  try clear hcz17_3
  try clear hcz22_0
  try clear hcz22_1
  try clear hcz22_2
  try clear hcz22_3
  try clear hcz25_0
  try clear hcz25_1
  try clear hcz25_2
  try clear hcz25_3
  try clear hcz31_0
  try clear hcz31_1
  try clear hcz31_2
  try clear hcz31_3
  try clear hcz34_0
  try clear hcz34_1
  try clear hcz34_2
  try clear hcz34_3
  try clear hcz38_0
  try clear hcz38_1
  try clear hcz38_2
  try clear hcz38_3
  try clear hcz41_0
  try clear hcz41_1
  try clear hcz41_2
  try clear hcz41_3
  try clear hcz45_0
  try clear hcz45_1
  try clear hcz45_2
  try clear hcz45_3
  try clear hcz48_0
  try clear hcz48_1
  try clear hcz48_2
  try clear hcz48_3
  try clear hfz14_0
  try clear hfz14_1
  try clear hfz14_2
  try clear hfz14_3
  try clear hfz17_0
  try clear hfz17_1
  try clear hfz17_2
  try clear hfz17_3
  try clear hfz22_0
  try clear hfz22_1
  try clear hfz22_2
  try clear hfz22_3
  try clear hfz25_0
  try clear hfz25_1
  try clear hfz25_2
  try clear hfz25_3
  try clear hfz31_0
  try clear hfz31_1
  try clear hfz31_2
  try clear hfz31_3
  try clear hfz34_0
  try clear hfz34_1
  try clear hfz34_2
  try clear hfz34_3
  try clear hfz38_0
  try clear hfz38_1
  try clear hfz38_2
  try clear hfz38_3
  try clear hfz41_0
  try clear hfz41_1
  try clear hfz41_2
  try clear hfz41_3
  try clear hfz45_0
  try clear hfz45_1
  try clear hfz45_2
  try clear hfz45_3
  try clear hfz48_0
  try clear hfz48_1
  try clear hfz48_2
  try clear hfz48_3
  obtain ⟨kq, x47_5, rfl, HA, HJ5, BK241, BK242, BK243, BK244, HB⟩ := hcut
  cases kq with
  | zero => exact absurd HA.out (by simp [impl_pushed.j0])
  | succ kj5 =>
   have H := HA.out
   clear HA
   simp only [impl_pushed.j0] at H
   by_cases c49 : x47_5 = true
   ·subst c49
    have H1 : (some (a0_0, a0_1, a0_2, a0_3, a1_0, a1_1, a1_2, a1_3)) = some (r1, r2, r3, r4, r5, r6, r7, r8) := by rw [if_pos rfl] at H; exact H
    clear H
    have H := H1
    clear H1
    simp only [Option.some.injEq, Prod.mk.injEq] at H
    obtain ⟨rfl, rfl, rfl, rfl, rfl, rfl, rfl, rfl⟩ := H
    try go_wp2
    have n0_ := Aside0.mk (blk_drew BK241.out)
    have n1_ := Aside0.mk (blk_drew BK242.out)
    have n2_ := Aside0.mk (blk_drew BK243.out)
    have n3_ := Aside0.mk (blk_drew BK244.out)
    have n4_ := Aside0.mk (below_drew1 HB.out)
    clear BK241
    clear BK242
    clear BK243
    clear BK244
    clear HB
    have BK241 := n0_
    have BK242 := n1_
    have BK243 := n2_
    have BK244 := n3_
    have HB := n4_
    clear n0_ n1_ n2_ n3_ n4_
    refine start_ (n := 4) (S := fun w' => w'.cell? ⟨gb241, 0, none⟩ = some (.int .i64 a0_0) ∧ w'.cell? ⟨gb241, 1, none⟩ = some (.int .i64 a0_1) ∧ w'.cell? ⟨gb241, 2, none⟩ = some (.int .i64 a0_2) ∧ w'.cell? ⟨gb241, 3, none⟩ = some (.int .i64 a0_3) ∧ w'.cell? ⟨gb242, 0, none⟩ = some (.int .i64 a1_0) ∧ w'.cell? ⟨gb242, 1, none⟩ = some (.int .i64 a1_1) ∧ w'.cell? ⟨gb242, 2, none⟩ = some (.int .i64 a1_2) ∧ w'.cell? ⟨gb242, 3, none⟩ = some (.int .i64 a1_3)) (ds := []) #[false, false, false, false] (by kernel_rfl) rfl rfl ⟨z_c BK241 0, z_c BK241 1, z_c BK241 2, z_c BK241 3, z_c BK242 0, z_c BK242 1, z_c BK242 2, z_c BK242 3⟩ (fun hHeld => ?_)
    generalize wc.drew = w50 at BK241 BK242 BK243 BK244 HB hHeld ⊢
    refine take_ (i := 0) (N := some 48) (v := ?_) (a' := ?_) #[true, false, false, false] rfl rfl (by kernel_rfl) (fun _ _ _ h => h) (Or.inl ⟨by rfl, ?_⟩) hHeld ?_ ?_
    rotate_left; (· (rintro w' ⟨s0, s1, s2, s3, s4, s5, s6, s7⟩; go_simp; with_reducible rfl)); rotate_left; (· (simp only [Act.put, sp1, sp2, sp3, i64_w, i32_w]; rfl))
    refine take_ (i := 1) (N := some 49) (v := ?_) (a' := ?_) #[true, true, false, false] rfl rfl (by kernel_rfl) (fun _ _ _ h => h) (Or.inl ⟨by rfl, ?_⟩) hHeld ?_ ?_
    rotate_left; (· (rintro w' ⟨s0, s1, s2, s3, s4, s5, s6, s7⟩; go_simp; with_reducible rfl)); rotate_left; (· (simp only [Act.put, sp1, sp2, sp3, i64_w, i32_w]; rfl))
    refine one_ (i := 2) (N := none) #[true, true, true, false] rfl rfl (by kernel_rfl) (by decide) (fun K hK => ?_)
    have hs51 : w50.cell? ⟨gb243, 0, none⟩ = some (.int .i64 0) := z_c BK243 0
    have hfs51 := blk_frozen BK243.out 0
    have hns51_0 := NB241_243.out
    have hns51_1 := NB242_243.out
    have hns51_3 := NB244_243.out
    have hms51_0 := NB243_241.out
    have hms51_1 := NB243_242.out
    have hms51_3 := NB243_244.out
    have hs52 : w50.cell? ⟨gb243, 1, none⟩ = some (.int .i64 0) := z_c BK243 1
    have hfs52 := blk_frozen BK243.out 1
    have hns52_0 := NB241_243.out
    have hns52_1 := NB242_243.out
    have hns52_3 := NB244_243.out
    have hms52_0 := NB243_241.out
    have hms52_1 := NB243_242.out
    have hms52_3 := NB243_244.out
    have hs53 : w50.cell? ⟨gb243, 2, none⟩ = some (.int .i64 0) := z_c BK243 2
    have hfs53 := blk_frozen BK243.out 2
    have hns53_0 := NB241_243.out
    have hns53_1 := NB242_243.out
    have hns53_3 := NB244_243.out
    have hms53_0 := NB243_241.out
    have hms53_1 := NB243_242.out
    have hms53_3 := NB243_244.out
    have hs54 : w50.cell? ⟨gb243, 3, none⟩ = some (.int .i64 0) := z_c BK243 3
    have hfs54 := blk_frozen BK243.out 3
    have hns54_0 := NB241_243.out
    have hns54_1 := NB242_243.out
    have hns54_3 := NB244_243.out
    have hms54_0 := NB243_241.out
    have hms54_1 := NB243_242.out
    have hms54_3 := NB243_244.out
    refine skip_ (w1 := ?_) (by rfl) rfl ?_ ?_
    rotate_left
    ·go_simp
     rfl
    refine hK.out _ _ ⟨((cell_far (p := ⟨gb243, _, none⟩) NB241_243.out _).trans (((cell_far (p := ⟨gb243, _, none⟩) NB241_243.out _).trans (((cell_far (p := ⟨gb243, _, none⟩) NB241_243.out _).trans (((cell_far (p := ⟨gb243, _, none⟩) NB241_243.out _).trans (hHeld.1)))))))), ((cell_far (p := ⟨gb243, _, none⟩) NB241_243.out _).trans (((cell_far (p := ⟨gb243, _, none⟩) NB241_243.out _).trans (((cell_far (p := ⟨gb243, _, none⟩) NB241_243.out _).trans (((cell_far (p := ⟨gb243, _, none⟩) NB241_243.out _).trans (hHeld.2.1)))))))), ((cell_far (p := ⟨gb243, _, none⟩) NB241_243.out _).trans (((cell_far (p := ⟨gb243, _, none⟩) NB241_243.out _).trans (((cell_far (p := ⟨gb243, _, none⟩) NB241_243.out _).trans (((cell_far (p := ⟨gb243, _, none⟩) NB241_243.out _).trans (hHeld.2.2.1)))))))), ((cell_far (p := ⟨gb243, _, none⟩) NB241_243.out _).trans (((cell_far (p := ⟨gb243, _, none⟩) NB241_243.out _).trans (((cell_far (p := ⟨gb243, _, none⟩) NB241_243.out _).trans (((cell_far (p := ⟨gb243, _, none⟩) NB241_243.out _).trans (hHeld.2.2.2.1)))))))), ((cell_far (p := ⟨gb243, _, none⟩) NB242_243.out _).trans (((cell_far (p := ⟨gb243, _, none⟩) NB242_243.out _).trans (((cell_far (p := ⟨gb243, _, none⟩) NB242_243.out _).trans (((cell_far (p := ⟨gb243, _, none⟩) NB242_243.out _).trans (hHeld.2.2.2.2.1)))))))), ((cell_far (p := ⟨gb243, _, none⟩) NB242_243.out _).trans (((cell_far (p := ⟨gb243, _, none⟩) NB242_243.out _).trans (((cell_far (p := ⟨gb243, _, none⟩) NB242_243.out _).trans (((cell_far (p := ⟨gb243, _, none⟩) NB242_243.out _).trans (hHeld.2.2.2.2.2.1)))))))), ((cell_far (p := ⟨gb243, _, none⟩) NB242_243.out _).trans (((cell_far (p := ⟨gb243, _, none⟩) NB242_243.out _).trans (((cell_far (p := ⟨gb243, _, none⟩) NB242_243.out _).trans (((cell_far (p := ⟨gb243, _, none⟩) NB242_243.out _).trans (hHeld.2.2.2.2.2.2.1)))))))), ((cell_far (p := ⟨gb243, _, none⟩) NB242_243.out _).trans (((cell_far (p := ⟨gb243, _, none⟩) NB242_243.out _).trans (((cell_far (p := ⟨gb243, _, none⟩) NB242_243.out _).trans (((cell_far (p := ⟨gb243, _, none⟩) NB242_243.out _).trans (hHeld.2.2.2.2.2.2.2))))))))⟩ (fun hHeld => ?_)
    clear hK K
    refine one_ (i := 3) (N := none) #[true, true, true, true] rfl rfl (by kernel_rfl) (by decide) (fun K hK => ?_)
    have hs55 : w50.cell? ⟨gb244, 0, none⟩ = some (.int .i64 0) := z_c BK244 0
    have hfs55 := blk_frozen BK244.out 0
    have hns55_0 := NB241_244.out
    have hns55_1 := NB242_244.out
    have hns55_2 := NB243_244.out
    have hms55_0 := NB244_241.out
    have hms55_1 := NB244_242.out
    have hms55_2 := NB244_243.out
    have hs56 : w50.cell? ⟨gb244, 1, none⟩ = some (.int .i64 0) := z_c BK244 1
    have hfs56 := blk_frozen BK244.out 1
    have hns56_0 := NB241_244.out
    have hns56_1 := NB242_244.out
    have hns56_2 := NB243_244.out
    have hms56_0 := NB244_241.out
    have hms56_1 := NB244_242.out
    have hms56_2 := NB244_243.out
    have hs57 : w50.cell? ⟨gb244, 2, none⟩ = some (.int .i64 0) := z_c BK244 2
    have hfs57 := blk_frozen BK244.out 2
    have hns57_0 := NB241_244.out
    have hns57_1 := NB242_244.out
    have hns57_2 := NB243_244.out
    have hms57_0 := NB244_241.out
    have hms57_1 := NB244_242.out
    have hms57_2 := NB244_243.out
    have hs58 : w50.cell? ⟨gb244, 3, none⟩ = some (.int .i64 0) := z_c BK244 3
    have hfs58 := blk_frozen BK244.out 3
    have hns58_0 := NB241_244.out
    have hns58_1 := NB242_244.out
    have hns58_2 := NB243_244.out
    have hms58_0 := NB244_241.out
    have hms58_1 := NB244_242.out
    have hms58_2 := NB244_243.out
    refine skip_ (w1 := ?_) (by rfl) rfl ?_ ?_
    rotate_left
    ·go_simp
     rfl
    refine hK.out _ _ ⟨((cell_far (p := ⟨gb244, _, none⟩) NB241_244.out _).trans (((cell_far (p := ⟨gb244, _, none⟩) NB241_244.out _).trans (((cell_far (p := ⟨gb244, _, none⟩) NB241_244.out _).trans (((cell_far (p := ⟨gb244, _, none⟩) NB241_244.out _).trans (hHeld.1)))))))), ((cell_far (p := ⟨gb244, _, none⟩) NB241_244.out _).trans (((cell_far (p := ⟨gb244, _, none⟩) NB241_244.out _).trans (((cell_far (p := ⟨gb244, _, none⟩) NB241_244.out _).trans (((cell_far (p := ⟨gb244, _, none⟩) NB241_244.out _).trans (hHeld.2.1)))))))), ((cell_far (p := ⟨gb244, _, none⟩) NB241_244.out _).trans (((cell_far (p := ⟨gb244, _, none⟩) NB241_244.out _).trans (((cell_far (p := ⟨gb244, _, none⟩) NB241_244.out _).trans (((cell_far (p := ⟨gb244, _, none⟩) NB241_244.out _).trans (hHeld.2.2.1)))))))), ((cell_far (p := ⟨gb244, _, none⟩) NB241_244.out _).trans (((cell_far (p := ⟨gb244, _, none⟩) NB241_244.out _).trans (((cell_far (p := ⟨gb244, _, none⟩) NB241_244.out _).trans (((cell_far (p := ⟨gb244, _, none⟩) NB241_244.out _).trans (hHeld.2.2.2.1)))))))), ((cell_far (p := ⟨gb244, _, none⟩) NB242_244.out _).trans (((cell_far (p := ⟨gb244, _, none⟩) NB242_244.out _).trans (((cell_far (p := ⟨gb244, _, none⟩) NB242_244.out _).trans (((cell_far (p := ⟨gb244, _, none⟩) NB242_244.out _).trans (hHeld.2.2.2.2.1)))))))), ((cell_far (p := ⟨gb244, _, none⟩) NB242_244.out _).trans (((cell_far (p := ⟨gb244, _, none⟩) NB242_244.out _).trans (((cell_far (p := ⟨gb244, _, none⟩) NB242_244.out _).trans (((cell_far (p := ⟨gb244, _, none⟩) NB242_244.out _).trans (hHeld.2.2.2.2.2.1)))))))), ((cell_far (p := ⟨gb244, _, none⟩) NB242_244.out _).trans (((cell_far (p := ⟨gb244, _, none⟩) NB242_244.out _).trans (((cell_far (p := ⟨gb244, _, none⟩) NB242_244.out _).trans (((cell_far (p := ⟨gb244, _, none⟩) NB242_244.out _).trans (hHeld.2.2.2.2.2.2.1)))))))), ((cell_far (p := ⟨gb244, _, none⟩) NB242_244.out _).trans (((cell_far (p := ⟨gb244, _, none⟩) NB242_244.out _).trans (((cell_far (p := ⟨gb244, _, none⟩) NB242_244.out _).trans (((cell_far (p := ⟨gb244, _, none⟩) NB242_244.out _).trans (hHeld.2.2.2.2.2.2.2))))))))⟩ (fun hHeld => ?_)
    clear hK K
    refine done_ (by kernel_rfl) ?_
    try go_wp2
    refine bodyPost_ret (results_cc rfl _ _ gb243 gb244 31 31 #[.int .i64 a0_0, .int .i64 a0_1, .int .i64 a0_2, .int .i64 a0_3] #[.int .i64 a1_0, .int .i64 a1_1, .int .i64 a1_2, .int .i64 a1_3] (0, 0) (0, 0) _ _ rfl (by (with_reducible repeat (first | refine blk_drewN ?_ _ | refine blk_drew ?_ | refine blk_alloc ?_ _)); refine blk_far ?_ NB243_244.out _; (with_reducible repeat (first | refine blk_drewN ?_ _ | refine blk_drew ?_ | refine blk_alloc ?_ _)); refine blk_far ?_ NB243_244.out _; (with_reducible repeat (first | refine blk_drewN ?_ _ | refine blk_drew ?_ | refine blk_alloc ?_ _)); refine blk_far ?_ NB243_244.out _; (with_reducible repeat (first | refine blk_drewN ?_ _ | refine blk_drew ?_ | refine blk_alloc ?_ _)); refine blk_far ?_ NB243_244.out _; (with_reducible repeat (first | refine blk_drewN ?_ _ | refine blk_drew ?_ | refine blk_alloc ?_ _)); refine blk_put (cs := #[.int .i64 a0_0, .int .i64 a0_1, .int .i64 a0_2, .int .i64 0]) ?_ 3 _ rfl; (with_reducible repeat (first | refine blk_drewN ?_ _ | refine blk_drew ?_ | refine blk_alloc ?_ _)); refine blk_put (cs := #[.int .i64 a0_0, .int .i64 a0_1, .int .i64 0, .int .i64 0]) ?_ 2 _ rfl; (with_reducible repeat (first | refine blk_drewN ?_ _ | refine blk_drew ?_ | refine blk_alloc ?_ _)); refine blk_put (cs := #[.int .i64 a0_0, .int .i64 0, .int .i64 0, .int .i64 0]) ?_ 1 _ rfl; (with_reducible repeat (first | refine blk_drewN ?_ _ | refine blk_drew ?_ | refine blk_alloc ?_ _)); refine blk_put (cs := #[.int .i64 0, .int .i64 0, .int .i64 0, .int .i64 0]) ?_ 0 _ rfl; (with_reducible repeat (first | refine blk_drewN ?_ _ | refine blk_drew ?_ | refine blk_alloc ?_ _)); exact BK243.out) Try.underlying31 rfl (by kernel_rfl) rfl (by (with_reducible repeat (first | refine blk_drewN ?_ _ | refine blk_drew ?_ | refine blk_alloc ?_ _)); refine blk_put (cs := #[.int .i64 a1_0, .int .i64 a1_1, .int .i64 a1_2, .int .i64 0]) ?_ 3 _ rfl; (with_reducible repeat (first | refine blk_drewN ?_ _ | refine blk_drew ?_ | refine blk_alloc ?_ _)); refine blk_put (cs := #[.int .i64 a1_0, .int .i64 a1_1, .int .i64 0, .int .i64 0]) ?_ 2 _ rfl; (with_reducible repeat (first | refine blk_drewN ?_ _ | refine blk_drew ?_ | refine blk_alloc ?_ _)); refine blk_put (cs := #[.int .i64 a1_0, .int .i64 0, .int .i64 0, .int .i64 0]) ?_ 1 _ rfl; (with_reducible repeat (first | refine blk_drewN ?_ _ | refine blk_drew ?_ | refine blk_alloc ?_ _)); refine blk_put (cs := #[.int .i64 0, .int .i64 0, .int .i64 0, .int .i64 0]) ?_ 0 _ rfl; (with_reducible repeat (first | refine blk_drewN ?_ _ | refine blk_drew ?_ | refine blk_alloc ?_ _)); refine blk_far ?_ NB244_243.out _; (with_reducible repeat (first | refine blk_drewN ?_ _ | refine blk_drew ?_ | refine blk_alloc ?_ _)); refine blk_far ?_ NB244_243.out _; (with_reducible repeat (first | refine blk_drewN ?_ _ | refine blk_drew ?_ | refine blk_alloc ?_ _)); refine blk_far ?_ NB244_243.out _; (with_reducible repeat (first | refine blk_drewN ?_ _ | refine blk_drew ?_ | refine blk_alloc ?_ _)); refine blk_far ?_ NB244_243.out _; (with_reducible repeat (first | refine blk_drewN ?_ _ | refine blk_drew ?_ | refine blk_alloc ?_ _)); exact BK244.out) Try.underlying31 rfl (by kernel_rfl)) rfl ?_
    exact ⟨by first | rfl | (simp [errW_none, errW_some] <;> rfl) | (simp only [← hji4, ← hji5]; first | rfl | (simp [errW_none, errW_some] <;> rfl)) | (simp [*, errW_none, errW_some] <;> rfl), blw⟩
   ·replace c49 := Bool.eq_false_iff.mpr c49
    subst c49
    have H1 : (if a1_2 = 0 then (impl_pushed.j1 kj5 (wrap64 (Int.tdiv (wrap64 ((wrap64 (100 + a2)) * a0_1)) 100)) a0_0 a0_1 a0_2 a0_3 a1_0 a1_1 a1_2 a1_3) else (if a0_2 = 0 then (impl_pushed.j1 kj5 (wrap64 (Int.tdiv (wrap64 ((wrap64 (100 + a2)) * (wrap64 (-a1_1)))) 100)) a0_0 a0_1 a0_2 a0_3 a1_0 a1_1 a1_2 a1_3) else (if (wrap64 (100 * (wrap64 (a0_2 + a1_2)))) = 0 then (none) else (impl_pushed.j1 kj5 (wrap64 (Int.tdiv (wrap64 ((wrap64 (100 + a2)) * (wrap64 ((wrap64 (a0_1 * (ji4))) - (wrap64 (a1_1 * (ji5))))))) (wrap64 (100 * (wrap64 (a0_2 + a1_2)))))) a0_0 a0_1 a0_2 a0_3 a1_0 a1_1 a1_2 a1_3)))) = some (r1, r2, r3, r4, r5, r6, r7, r8) := by rw [if_neg (show ¬ (false = true) by decide)] at H; exact H
    clear H
    have H := H1
    clear H1
    have HC59 := Aside0.mk H
    clear H
    go_upto_block 0 with (fail)
    go_cut [9] (fun v9 wc => ∃ (kq : Nat) (x9_58 : Int), v9 = .int .i64 x9_58 ∧ Aside0 (impl_pushed.j1 kq x9_58 a0_0 a0_1 a0_2 a0_3 a1_0 a1_1 a1_2 a1_3 = some (r1, r2, r3, r4, r5, r6, r7, r8)) ∧ Aside0 (kq ≤ kj5) ∧ Aside0 (wc.heap[gb241]? = some (.cells #[.int .i64 a0_0, .int .i64 a0_1, .int .i64 a0_2, .int .i64 a0_3] 31 (0, 0))) ∧ Aside0 (wc.heap[gb242]? = some (.cells #[.int .i64 a1_0, .int .i64 a1_1, .int .i64 a1_2, .int .i64 a1_3] 31 (0, 0))) ∧ Aside0 (wc.heap[gb243]? = some (.cells #[.int .i64 0, .int .i64 0, .int .i64 0, .int .i64 0] 31 (0, 0))) ∧ Aside0 (wc.heap[gb244]? = some (.cells #[.int .i64 0, .int .i64 0, .int .i64 0, .int .i64 0] 31 (0, 0))) ∧ Aside0 (Below w.heap.size w wc))
    case first =>
     have H := HC59.out
     clear HC59
     by_cases c60 : a1_2 = 0
     ·rw [if_pos c60] at H
      have c60b0 : (a1_2 == 0) = true := beq_iff_eq.mpr c60
      have c60b1 : (a1_2 != 0) = false := bne_eq_false_iff_eq.mpr c60
      clear c60
      (first | rw [c60b0] | (simp only [i64_w, i32_w]; rw [c60b0]) | skip)
      have H' := Aside0.mk H
      clear H
      have hnb61 := NB242_241.out
      have hnc61 := NB241_242.out
      have hnb62 := NB242_243.out
      have hnc62 := NB243_242.out
      have hnb63 := NB242_244.out
      have hnc63 := NB244_242.out
      have hcz64_0 : wc.cell? ⟨gb242, 0, none⟩ = some (.int .i64 a1_0) := z_c BK242 0
      have hcz64_1 : wc.cell? ⟨gb242, 1, none⟩ = some (.int .i64 a1_1) := z_c BK242 1
      have hcz64_2 : wc.cell? ⟨gb242, 2, none⟩ = some (.int .i64 a1_2) := z_c BK242 2
      have hcz64_3 : wc.cell? ⟨gb242, 3, none⟩ = some (.int .i64 a1_3) := z_c BK242 3
      have hfz64_0 := blk_frozen BK242.out 0
      have hfz64_1 := blk_frozen BK242.out 1
      have hfz64_2 := blk_frozen BK242.out 2
      have hfz64_3 := blk_frozen BK242.out 3
      have hnb65 := NB241_243.out
      have hnc65 := NB243_241.out
      have hnb66 := NB241_244.out
      have hnc66 := NB244_241.out
      have hcz67_0 : wc.cell? ⟨gb241, 0, none⟩ = some (.int .i64 a0_0) := z_c BK241 0
      have hcz67_1 : wc.cell? ⟨gb241, 1, none⟩ = some (.int .i64 a0_1) := z_c BK241 1
      have hcz67_2 : wc.cell? ⟨gb241, 2, none⟩ = some (.int .i64 a0_2) := z_c BK241 2
      have hcz67_3 : wc.cell? ⟨gb241, 3, none⟩ = some (.int .i64 a0_3) := z_c BK241 3
      have hfz67_0 := blk_frozen BK241.out 0
      have hfz67_1 := blk_frozen BK241.out 1
      have hfz67_2 := blk_frozen BK241.out 2
      have hfz67_3 := blk_frozen BK241.out 3
      go_wp2
      go_meet
      case rel => exact ⟨_, (wrap64 (Int.tdiv (wrap64 ((wrap64 (100 + a2)) * a0_1)) 100)), (by first | rfl | (simp; done) | (simp [*]; done)), H', ⟨by have := HJ5.out; first | omega | exact Nat.le_refl _⟩, ⟨by (with_reducible repeat (first | refine blk_drewN ?_ _ | refine blk_drew ?_ | refine blk_alloc ?_ _)); exact BK241.out⟩, ⟨by (with_reducible repeat (first | refine blk_drewN ?_ _ | refine blk_drew ?_ | refine blk_alloc ?_ _)); exact BK242.out⟩, ⟨by (with_reducible repeat (first | refine blk_drewN ?_ _ | refine blk_drew ?_ | refine blk_alloc ?_ _)); exact BK243.out⟩, ⟨by (with_reducible repeat (first | refine blk_drewN ?_ _ | refine blk_drew ?_ | refine blk_alloc ?_ _)); exact BK244.out⟩, ⟨blw⟩⟩
     ·rw [if_neg c60] at H
      have c60b0 : (a1_2 == 0) = false := beq_eq_false_iff_ne.mpr c60
      have c60b1 : (a1_2 != 0) = true := bne_iff_ne.mpr c60
      (first | rw [c60b0] | (simp only [i64_w, i32_w]; rw [c60b0]) | skip)
      by_cases c68 : a0_2 = 0
      ·rw [if_pos c68] at H
       have c68b0 : (a0_2 == 0) = true := beq_iff_eq.mpr c68
       have c68b1 : (a0_2 != 0) = false := bne_eq_false_iff_eq.mpr c68
       clear c68
       have H' := Aside0.mk H
       clear H
       have hnb69 := NB242_241.out
       have hnc69 := NB241_242.out
       have hnb70 := NB242_243.out
       have hnc70 := NB243_242.out
       have hnb71 := NB242_244.out
       have hnc71 := NB244_242.out
       have hcz72_0 : wc.cell? ⟨gb242, 0, none⟩ = some (.int .i64 a1_0) := z_c BK242 0
       have hcz72_1 : wc.cell? ⟨gb242, 1, none⟩ = some (.int .i64 a1_1) := z_c BK242 1
       have hcz72_2 : wc.cell? ⟨gb242, 2, none⟩ = some (.int .i64 a1_2) := z_c BK242 2
       have hcz72_3 : wc.cell? ⟨gb242, 3, none⟩ = some (.int .i64 a1_3) := z_c BK242 3
       have hfz72_0 := blk_frozen BK242.out 0
       have hfz72_1 := blk_frozen BK242.out 1
       have hfz72_2 := blk_frozen BK242.out 2
       have hfz72_3 := blk_frozen BK242.out 3
       have hnb73 := NB241_243.out
       have hnc73 := NB243_241.out
       have hnb74 := NB241_244.out
       have hnc74 := NB244_241.out
       have hcz75_0 : wc.cell? ⟨gb241, 0, none⟩ = some (.int .i64 a0_0) := z_c BK241 0
       have hcz75_1 : wc.cell? ⟨gb241, 1, none⟩ = some (.int .i64 a0_1) := z_c BK241 1
       have hcz75_2 : wc.cell? ⟨gb241, 2, none⟩ = some (.int .i64 a0_2) := z_c BK241 2
       have hcz75_3 : wc.cell? ⟨gb241, 3, none⟩ = some (.int .i64 a0_3) := z_c BK241 3
       have hfz75_0 := blk_frozen BK241.out 0
       have hfz75_1 := blk_frozen BK241.out 1
       have hfz75_2 := blk_frozen BK241.out 2
       have hfz75_3 := blk_frozen BK241.out 3
       go_wp2
       go_meet
       case rel => exact ⟨_, (wrap64 (Int.tdiv (wrap64 ((wrap64 (100 + a2)) * (wrap64 (-a1_1)))) 100)), (by first | rfl | (simp; done) | (simp [*]; done)), H', ⟨by have := HJ5.out; first | omega | exact Nat.le_refl _⟩, ⟨by (with_reducible repeat (first | refine blk_drewN ?_ _ | refine blk_drew ?_ | refine blk_alloc ?_ _)); exact BK241.out⟩, ⟨by (with_reducible repeat (first | refine blk_drewN ?_ _ | refine blk_drew ?_ | refine blk_alloc ?_ _)); exact BK242.out⟩, ⟨by (with_reducible repeat (first | refine blk_drewN ?_ _ | refine blk_drew ?_ | refine blk_alloc ?_ _)); exact BK243.out⟩, ⟨by (with_reducible repeat (first | refine blk_drewN ?_ _ | refine blk_drew ?_ | refine blk_alloc ?_ _)); exact BK244.out⟩, ⟨blw⟩⟩
      ·rw [if_neg c68] at H
       have c68b0 : (a0_2 == 0) = false := beq_eq_false_iff_ne.mpr c68
       have c68b1 : (a0_2 != 0) = true := bne_iff_ne.mpr c68
       by_cases c76 : (wrap64 (100 * (wrap64 (a0_2 + a1_2)))) = 0
       ·rw [if_pos c76] at H
        exact absurd H (by simp)
       ·rw [if_neg c76] at H
        have c76b0 : ((wrap64 (100 * (wrap64 (a0_2 + a1_2)))) == 0) = false := beq_eq_false_iff_ne.mpr c76
        have c76b1 : ((wrap64 (100 * (wrap64 (a0_2 + a1_2)))) != 0) = true := bne_iff_ne.mpr c76
        have H' := Aside0.mk H
        clear H
        have hnb77 := NB242_241.out
        have hnc77 := NB241_242.out
        have hnb78 := NB242_243.out
        have hnc78 := NB243_242.out
        have hnb79 := NB242_244.out
        have hnc79 := NB244_242.out
        have hcz80_0 : wc.cell? ⟨gb242, 0, none⟩ = some (.int .i64 a1_0) := z_c BK242 0
        have hcz80_1 : wc.cell? ⟨gb242, 1, none⟩ = some (.int .i64 a1_1) := z_c BK242 1
        have hcz80_2 : wc.cell? ⟨gb242, 2, none⟩ = some (.int .i64 a1_2) := z_c BK242 2
        have hcz80_3 : wc.cell? ⟨gb242, 3, none⟩ = some (.int .i64 a1_3) := z_c BK242 3
        have hfz80_0 := blk_frozen BK242.out 0
        have hfz80_1 := blk_frozen BK242.out 1
        have hfz80_2 := blk_frozen BK242.out 2
        have hfz80_3 := blk_frozen BK242.out 3
        have hnb81 := NB241_243.out
        have hnc81 := NB243_241.out
        have hnb82 := NB241_244.out
        have hnc82 := NB244_241.out
        have hcz83_0 : wc.cell? ⟨gb241, 0, none⟩ = some (.int .i64 a0_0) := z_c BK241 0
        have hcz83_1 : wc.cell? ⟨gb241, 1, none⟩ = some (.int .i64 a0_1) := z_c BK241 1
        have hcz83_2 : wc.cell? ⟨gb241, 2, none⟩ = some (.int .i64 a0_2) := z_c BK241 2
        have hcz83_3 : wc.cell? ⟨gb241, 3, none⟩ = some (.int .i64 a0_3) := z_c BK241 3
        have hfz83_0 := blk_frozen BK241.out 0
        have hfz83_1 := blk_frozen BK241.out 1
        have hfz83_2 := blk_frozen BK241.out 2
        have hfz83_3 := blk_frozen BK241.out 3
        go_wp2
        go_meet
        case rel => exact ⟨_, (wrap64 (Int.tdiv (wrap64 ((wrap64 (100 + a2)) * (wrap64 ((wrap64 (a0_1 * (ji4))) - (wrap64 (a1_1 * (ji5))))))) (wrap64 (100 * (wrap64 (a0_2 + a1_2)))))), (by first | rfl | (simp; done) | (simp only [← hji4, ← hji5] <;> (first | rfl | simp)) | (simp [*]; done)), H', ⟨by have := HJ5.out; first | omega | exact Nat.le_refl _⟩, ⟨by (with_reducible repeat (first | refine blk_drewN ?_ _ | refine blk_drew ?_ | refine blk_alloc ?_ _)); exact BK241.out⟩, ⟨by (with_reducible repeat (first | refine blk_drewN ?_ _ | refine blk_drew ?_ | refine blk_alloc ?_ _)); exact BK242.out⟩, ⟨by (with_reducible repeat (first | refine blk_drewN ?_ _ | refine blk_drew ?_ | refine blk_alloc ?_ _)); exact BK243.out⟩, ⟨by (with_reducible repeat (first | refine blk_drewN ?_ _ | refine blk_drew ?_ | refine blk_alloc ?_ _)); exact BK244.out⟩, ⟨blw⟩⟩
    case rest =>
     clear HC59
     try clear c1
     try clear c2
     try clear p2
     try clear c3
     try clear c4
     try clear c6
     try clear p6
     try clear c7
     try clear c8
     try clear c11
     try clear c12
     try clear c13
     try clear c15
     try clear c16
     try clear c18
     try clear c18b0
     try clear c19
     try clear c20
     try clear c21
     try clear c23
     try clear c24
     try clear c26
     try clear c26b0
     try clear c26b1
     try clear c27
     try clear c27b0
     try clear c27b1
     try clear c28
     try clear c29
     try clear c30
     try clear c32
     try clear c33
     try clear c35
     try clear c36
     try clear c37
     try clear c39
     try clear c40
     try clear c42
     try clear c43
     try clear c44
     try clear c46
     try clear c47
     try clear c49
     try clear c60
     try clear c60b0
     try clear c60b1
     try clear c61
     try clear c62
     try clear c63
     try clear p64
     try clear c65
     try clear c66
     try clear c68
     try clear c68b0
     try clear c68b1
     try clear c69
     try clear c70
     try clear c71
     try clear c73
     try clear c74
     try clear c76
     try clear c76b0
     try clear c76b1
     try clear c77
     try clear c78
     try clear c79
     try clear c81
     try clear c82
     try clear hcz14_0
     try clear hcz14_1
     try clear hcz14_2
     try clear hcz14_3
     try clear hcz17_0
     try clear hcz17_1
     try clear hcz17_2
     try clear hcz17_3
     try clear hcz22_0
     try clear hcz22_1
     try clear hcz22_2
     try clear hcz22_3
     try clear hcz25_0
     try clear hcz25_1
     try clear hcz25_2
     try clear hcz25_3
     try clear hcz31_0
     try clear hcz31_1
     try clear hcz31_2
     try clear hcz31_3
     try clear hcz34_0
     try clear hcz34_1
     try clear hcz34_2
     try clear hcz34_3
     try clear hcz38_0
     try clear hcz38_1
     try clear hcz38_2
     try clear hcz38_3
     try clear hcz41_0
     try clear hcz41_1
     try clear hcz41_2
     try clear hcz41_3
     try clear hcz45_0
     try clear hcz45_1
     try clear hcz45_2
     try clear hcz45_3
     try clear hcz48_0
     try clear hcz48_1
     try clear hcz48_2
     try clear hcz48_3
     try clear hcz64_0
     try clear hcz64_1
     try clear hcz64_2
     try clear hcz64_3
     try clear hcz67_0
     try clear hcz67_1
     try clear hcz67_2
     try clear hcz67_3
     try clear hcz72_0
     try clear hcz72_1
     try clear hcz72_2
     try clear hcz72_3
     try clear hcz75_0
     try clear hcz75_1
     try clear hcz75_2
     try clear hcz75_3
     try clear hcz80_0
     try clear hcz80_1
     try clear hcz80_2
     try clear hcz80_3
     try clear hcz83_0
     try clear hcz83_1
     try clear hcz83_2
     try clear hcz83_3
     try clear hfz14_0
     try clear hfz14_1
     try clear hfz14_2
     try clear hfz14_3
     try clear hfz17_0
     try clear hfz17_1
     try clear hfz17_2
     try clear hfz17_3
     try clear hfz22_0
     try clear hfz22_1
     try clear hfz22_2
     try clear hfz22_3
     try clear hfz25_0
     try clear hfz25_1
     try clear hfz25_2
     try clear hfz25_3
     try clear hfz31_0
     try clear hfz31_1
     try clear hfz31_2
     try clear hfz31_3
     try clear hfz34_0
     try clear hfz34_1
     try clear hfz34_2
     try clear hfz34_3
     try clear hfz38_0
     try clear hfz38_1
     try clear hfz38_2
     try clear hfz38_3
     try clear hfz41_0
     try clear hfz41_1
     try clear hfz41_2
     try clear hfz41_3
     try clear hfz45_0
     try clear hfz45_1
     try clear hfz45_2
     try clear hfz45_3
     try clear hfz48_0
     try clear hfz48_1
     try clear hfz48_2
     try clear hfz48_3
     try clear hfz64_0
     try clear hfz64_1
     try clear hfz64_2
     try clear hfz64_3
     try clear hfz67_0
     try clear hfz67_1
     try clear hfz67_2
     try clear hfz67_3
     try clear hfz72_0
     try clear hfz72_1
     try clear hfz72_2
     try clear hfz72_3
     try clear hfz75_0
     try clear hfz75_1
     try clear hfz75_2
     try clear hfz75_3
     try clear hfz80_0
     try clear hfz80_1
     try clear hfz80_2
     try clear hfz80_3
     try clear hfz83_0
     try clear hfz83_1
     try clear hfz83_2
     try clear hfz83_3
     try clear p2
     try clear p6
     obtain ⟨kq, x9_58, rfl, HA, HJ58, BK241, BK242, BK243, BK244, HB⟩ := hcut
     cases kq with
     | zero => exact absurd HA.out (by simp [impl_pushed.j1])
     | succ kj58 =>
      have H := HA.out
      clear HA
      simp only [impl_pushed.j1] at H
      by_cases c84 : a0_2 > 0
      ·rw [if_pos c84] at H
       have c84b0 : decide (0 < a0_2) = true := decide_eq_true c84
       clear c84
       by_cases c85 : a1_2 > 0
       ·rw [if_pos c85] at H
        have c85b0 : decide (0 < a1_2) = true := decide_eq_true c85
        clear c85
        simp only [Option.some.injEq, Prod.mk.injEq] at H
        obtain ⟨rfl, rfl, rfl, rfl, rfl, rfl, rfl, rfl⟩ := H
        have hnb86 := NB241_242.out
        have hnc86 := NB242_241.out
        have hnb87 := NB241_243.out
        have hnc87 := NB243_241.out
        have hnb88 := NB241_244.out
        have hnc88 := NB244_241.out
        have hcz89_0 : wc.cell? ⟨gb241, 0, none⟩ = some (.int .i64 a0_0) := z_c BK241 0
        have hcz89_1 : wc.cell? ⟨gb241, 1, none⟩ = some (.int .i64 a0_1) := z_c BK241 1
        have hcz89_2 : wc.cell? ⟨gb241, 2, none⟩ = some (.int .i64 a0_2) := z_c BK241 2
        have hcz89_3 : wc.cell? ⟨gb241, 3, none⟩ = some (.int .i64 a0_3) := z_c BK241 3
        have hfz89_0 := blk_frozen BK241.out 0
        have hfz89_1 := blk_frozen BK241.out 1
        have hfz89_2 := blk_frozen BK241.out 2
        have hfz89_3 := blk_frozen BK241.out 3
        have hnb90 := NB242_243.out
        have hnc90 := NB243_242.out
        have hnb91 := NB242_244.out
        have hnc91 := NB244_242.out
        have hcz92_0 : wc.cell? ⟨gb242, 0, none⟩ = some (.int .i64 a1_0) := z_c BK242 0
        have hcz92_1 : wc.cell? ⟨gb242, 1, none⟩ = some (.int .i64 a1_1) := z_c BK242 1
        have hcz92_2 : wc.cell? ⟨gb242, 2, none⟩ = some (.int .i64 a1_2) := z_c BK242 2
        have hcz92_3 : wc.cell? ⟨gb242, 3, none⟩ = some (.int .i64 a1_3) := z_c BK242 3
        have hfz92_0 := blk_frozen BK242.out 0
        have hfz92_1 := blk_frozen BK242.out 1
        have hfz92_2 := blk_frozen BK242.out 2
        have hfz92_3 := blk_frozen BK242.out 3
        try go_wp2
        have n0_ : Aside0 (((wc.setCell ⟨gb241, 1, none⟩ (.int .i64 (wrap64 (a0_1 - x9_58)))).setCell ⟨gb242, 1, none⟩ (.int .i64 (wrap64 (a1_1 + x9_58)))).heap[gb241]? = some (.cells #[.int .i64 a0_0, .int .i64 (wrap64 (a0_1 - x9_58)), .int .i64 a0_2, .int .i64 a0_3] 31 (0, 0))) := ⟨by (with_reducible repeat (first | refine blk_drewN ?_ _ | refine blk_drew ?_ | refine blk_alloc ?_ _)); refine blk_far ?_ NB241_242.out _; (with_reducible repeat (first | refine blk_drewN ?_ _ | refine blk_drew ?_ | refine blk_alloc ?_ _)); refine blk_put (cs := #[.int .i64 a0_0, .int .i64 a0_1, .int .i64 a0_2, .int .i64 a0_3]) ?_ 1 _ rfl; (with_reducible repeat (first | refine blk_drewN ?_ _ | refine blk_drew ?_ | refine blk_alloc ?_ _)); exact BK241.out⟩
        have n1_ : Aside0 (((wc.setCell ⟨gb241, 1, none⟩ (.int .i64 (wrap64 (a0_1 - x9_58)))).setCell ⟨gb242, 1, none⟩ (.int .i64 (wrap64 (a1_1 + x9_58)))).heap[gb242]? = some (.cells #[.int .i64 a1_0, .int .i64 (wrap64 (a1_1 + x9_58)), .int .i64 a1_2, .int .i64 a1_3] 31 (0, 0))) := ⟨by (with_reducible repeat (first | refine blk_drewN ?_ _ | refine blk_drew ?_ | refine blk_alloc ?_ _)); refine blk_put (cs := #[.int .i64 a1_0, .int .i64 a1_1, .int .i64 a1_2, .int .i64 a1_3]) ?_ 1 _ rfl; (with_reducible repeat (first | refine blk_drewN ?_ _ | refine blk_drew ?_ | refine blk_alloc ?_ _)); refine blk_far ?_ NB242_241.out _; (with_reducible repeat (first | refine blk_drewN ?_ _ | refine blk_drew ?_ | refine blk_alloc ?_ _)); exact BK242.out⟩
        have n2_ : Aside0 (((wc.setCell ⟨gb241, 1, none⟩ (.int .i64 (wrap64 (a0_1 - x9_58)))).setCell ⟨gb242, 1, none⟩ (.int .i64 (wrap64 (a1_1 + x9_58)))).heap[gb243]? = some (.cells #[.int .i64 0, .int .i64 0, .int .i64 0, .int .i64 0] 31 (0, 0))) := ⟨by (with_reducible repeat (first | refine blk_drewN ?_ _ | refine blk_drew ?_ | refine blk_alloc ?_ _)); refine blk_far ?_ NB243_242.out _; (with_reducible repeat (first | refine blk_drewN ?_ _ | refine blk_drew ?_ | refine blk_alloc ?_ _)); refine blk_far ?_ NB243_241.out _; (with_reducible repeat (first | refine blk_drewN ?_ _ | refine blk_drew ?_ | refine blk_alloc ?_ _)); exact BK243.out⟩
        have n3_ : Aside0 (((wc.setCell ⟨gb241, 1, none⟩ (.int .i64 (wrap64 (a0_1 - x9_58)))).setCell ⟨gb242, 1, none⟩ (.int .i64 (wrap64 (a1_1 + x9_58)))).heap[gb244]? = some (.cells #[.int .i64 0, .int .i64 0, .int .i64 0, .int .i64 0] 31 (0, 0))) := ⟨by (with_reducible repeat (first | refine blk_drewN ?_ _ | refine blk_drew ?_ | refine blk_alloc ?_ _)); refine blk_far ?_ NB244_242.out _; (with_reducible repeat (first | refine blk_drewN ?_ _ | refine blk_drew ?_ | refine blk_alloc ?_ _)); refine blk_far ?_ NB244_241.out _; (with_reducible repeat (first | refine blk_drewN ?_ _ | refine blk_drew ?_ | refine blk_alloc ?_ _)); exact BK244.out⟩
        have n4_ : Aside0 (Below w.heap.size w ((wc.setCell ⟨gb241, 1, none⟩ (.int .i64 (wrap64 (a0_1 - x9_58)))).setCell ⟨gb242, 1, none⟩ (.int .i64 (wrap64 (a1_1 + x9_58))))) := ⟨blw⟩
        (try clear BK241)
        (try clear BK242)
        (try clear BK243)
        (try clear BK244)
        (try clear HB)
        generalize ((wc.setCell ⟨gb241, 1, none⟩ (.int .i64 (wrap64 (a0_1 - x9_58)))).setCell ⟨gb242, 1, none⟩ (.int .i64 (wrap64 (a1_1 + x9_58)))) = w93 at n0_ n1_ n2_ n3_ n4_ ⊢
        have BK241 := n0_
        have BK242 := n1_
        have BK243 := n2_
        have BK244 := n3_
        have HB := n4_
        clear n0_ n1_ n2_ n3_ n4_
        have n0_ := Aside0.mk (blk_drew BK241.out)
        have n1_ := Aside0.mk (blk_drew BK242.out)
        have n2_ := Aside0.mk (blk_drew BK243.out)
        have n3_ := Aside0.mk (blk_drew BK244.out)
        have n4_ := Aside0.mk (below_drew1 HB.out)
        clear BK241
        clear BK242
        clear BK243
        clear BK244
        clear HB
        have BK241 := n0_
        have BK242 := n1_
        have BK243 := n2_
        have BK244 := n3_
        have HB := n4_
        clear n0_ n1_ n2_ n3_ n4_
        refine start_ (n := 4) (S := fun w' => w'.cell? ⟨gb241, 0, none⟩ = some (.int .i64 a0_0) ∧ w'.cell? ⟨gb241, 1, none⟩ = some (.int .i64 (wrap64 (a0_1 - x9_58))) ∧ w'.cell? ⟨gb241, 2, none⟩ = some (.int .i64 a0_2) ∧ w'.cell? ⟨gb241, 3, none⟩ = some (.int .i64 a0_3) ∧ w'.cell? ⟨gb242, 0, none⟩ = some (.int .i64 a1_0) ∧ w'.cell? ⟨gb242, 1, none⟩ = some (.int .i64 (wrap64 (a1_1 + x9_58))) ∧ w'.cell? ⟨gb242, 2, none⟩ = some (.int .i64 a1_2) ∧ w'.cell? ⟨gb242, 3, none⟩ = some (.int .i64 a1_3)) (ds := []) #[false, false, false, false] (by kernel_rfl) rfl rfl ⟨z_c BK241 0, z_c BK241 1, z_c BK241 2, z_c BK241 3, z_c BK242 0, z_c BK242 1, z_c BK242 2, z_c BK242 3⟩ (fun hHeld => ?_)
        generalize w93.drew = w94 at BK241 BK242 BK243 BK244 HB hHeld ⊢
        refine take_ (i := 0) (N := some 98) (v := ?_) (a' := ?_) #[true, false, false, false] rfl rfl (by kernel_rfl) (fun _ _ _ h => h) (Or.inl ⟨by rfl, ?_⟩) hHeld ?_ ?_
        rotate_left; (· (rintro w' ⟨s0, s1, s2, s3, s4, s5, s6, s7⟩; go_simp; with_reducible rfl)); rotate_left; (· (simp only [Act.put, sp1, sp2, sp3, i64_w, i32_w]; rfl))
        refine take_ (i := 1) (N := some 99) (v := ?_) (a' := ?_) #[true, true, false, false] rfl rfl (by kernel_rfl) (fun _ _ _ h => h) (Or.inl ⟨by rfl, ?_⟩) hHeld ?_ ?_
        rotate_left; (· (rintro w' ⟨s0, s1, s2, s3, s4, s5, s6, s7⟩; go_simp; with_reducible rfl)); rotate_left; (· (simp only [Act.put, sp1, sp2, sp3, i64_w, i32_w]; rfl))
        refine one_ (i := 2) (N := none) #[true, true, true, false] rfl rfl (by kernel_rfl) (by decide) (fun K hK => ?_)
        have hs95 : w94.cell? ⟨gb243, 0, none⟩ = some (.int .i64 0) := z_c BK243 0
        have hfs95 := blk_frozen BK243.out 0
        have hns95_0 := NB241_243.out
        have hns95_1 := NB242_243.out
        have hns95_3 := NB244_243.out
        have hms95_0 := NB243_241.out
        have hms95_1 := NB243_242.out
        have hms95_3 := NB243_244.out
        have hs96 : w94.cell? ⟨gb243, 1, none⟩ = some (.int .i64 0) := z_c BK243 1
        have hfs96 := blk_frozen BK243.out 1
        have hns96_0 := NB241_243.out
        have hns96_1 := NB242_243.out
        have hns96_3 := NB244_243.out
        have hms96_0 := NB243_241.out
        have hms96_1 := NB243_242.out
        have hms96_3 := NB243_244.out
        have hs97 : w94.cell? ⟨gb243, 2, none⟩ = some (.int .i64 0) := z_c BK243 2
        have hfs97 := blk_frozen BK243.out 2
        have hns97_0 := NB241_243.out
        have hns97_1 := NB242_243.out
        have hns97_3 := NB244_243.out
        have hms97_0 := NB243_241.out
        have hms97_1 := NB243_242.out
        have hms97_3 := NB243_244.out
        have hs98 : w94.cell? ⟨gb243, 3, none⟩ = some (.int .i64 0) := z_c BK243 3
        have hfs98 := blk_frozen BK243.out 3
        have hns98_0 := NB241_243.out
        have hns98_1 := NB242_243.out
        have hns98_3 := NB244_243.out
        have hms98_0 := NB243_241.out
        have hms98_1 := NB243_242.out
        have hms98_3 := NB243_244.out
        refine skip_ (w1 := ?_) (by rfl) rfl ?_ ?_
        rotate_left
        ·go_simp
         rfl
        refine hK.out _ _ ⟨((cell_far (p := ⟨gb243, _, none⟩) NB241_243.out _).trans (((cell_far (p := ⟨gb243, _, none⟩) NB241_243.out _).trans (((cell_far (p := ⟨gb243, _, none⟩) NB241_243.out _).trans (((cell_far (p := ⟨gb243, _, none⟩) NB241_243.out _).trans (hHeld.1)))))))), ((cell_far (p := ⟨gb243, _, none⟩) NB241_243.out _).trans (((cell_far (p := ⟨gb243, _, none⟩) NB241_243.out _).trans (((cell_far (p := ⟨gb243, _, none⟩) NB241_243.out _).trans (((cell_far (p := ⟨gb243, _, none⟩) NB241_243.out _).trans (hHeld.2.1)))))))), ((cell_far (p := ⟨gb243, _, none⟩) NB241_243.out _).trans (((cell_far (p := ⟨gb243, _, none⟩) NB241_243.out _).trans (((cell_far (p := ⟨gb243, _, none⟩) NB241_243.out _).trans (((cell_far (p := ⟨gb243, _, none⟩) NB241_243.out _).trans (hHeld.2.2.1)))))))), ((cell_far (p := ⟨gb243, _, none⟩) NB241_243.out _).trans (((cell_far (p := ⟨gb243, _, none⟩) NB241_243.out _).trans (((cell_far (p := ⟨gb243, _, none⟩) NB241_243.out _).trans (((cell_far (p := ⟨gb243, _, none⟩) NB241_243.out _).trans (hHeld.2.2.2.1)))))))), ((cell_far (p := ⟨gb243, _, none⟩) NB242_243.out _).trans (((cell_far (p := ⟨gb243, _, none⟩) NB242_243.out _).trans (((cell_far (p := ⟨gb243, _, none⟩) NB242_243.out _).trans (((cell_far (p := ⟨gb243, _, none⟩) NB242_243.out _).trans (hHeld.2.2.2.2.1)))))))), ((cell_far (p := ⟨gb243, _, none⟩) NB242_243.out _).trans (((cell_far (p := ⟨gb243, _, none⟩) NB242_243.out _).trans (((cell_far (p := ⟨gb243, _, none⟩) NB242_243.out _).trans (((cell_far (p := ⟨gb243, _, none⟩) NB242_243.out _).trans (hHeld.2.2.2.2.2.1)))))))), ((cell_far (p := ⟨gb243, _, none⟩) NB242_243.out _).trans (((cell_far (p := ⟨gb243, _, none⟩) NB242_243.out _).trans (((cell_far (p := ⟨gb243, _, none⟩) NB242_243.out _).trans (((cell_far (p := ⟨gb243, _, none⟩) NB242_243.out _).trans (hHeld.2.2.2.2.2.2.1)))))))), ((cell_far (p := ⟨gb243, _, none⟩) NB242_243.out _).trans (((cell_far (p := ⟨gb243, _, none⟩) NB242_243.out _).trans (((cell_far (p := ⟨gb243, _, none⟩) NB242_243.out _).trans (((cell_far (p := ⟨gb243, _, none⟩) NB242_243.out _).trans (hHeld.2.2.2.2.2.2.2))))))))⟩ (fun hHeld => ?_)
        clear hK K
        refine one_ (i := 3) (N := none) #[true, true, true, true] rfl rfl (by kernel_rfl) (by decide) (fun K hK => ?_)
        have hs99 : w94.cell? ⟨gb244, 0, none⟩ = some (.int .i64 0) := z_c BK244 0
        have hfs99 := blk_frozen BK244.out 0
        have hns99_0 := NB241_244.out
        have hns99_1 := NB242_244.out
        have hns99_2 := NB243_244.out
        have hms99_0 := NB244_241.out
        have hms99_1 := NB244_242.out
        have hms99_2 := NB244_243.out
        have hs100 : w94.cell? ⟨gb244, 1, none⟩ = some (.int .i64 0) := z_c BK244 1
        have hfs100 := blk_frozen BK244.out 1
        have hns100_0 := NB241_244.out
        have hns100_1 := NB242_244.out
        have hns100_2 := NB243_244.out
        have hms100_0 := NB244_241.out
        have hms100_1 := NB244_242.out
        have hms100_2 := NB244_243.out
        have hs101 : w94.cell? ⟨gb244, 2, none⟩ = some (.int .i64 0) := z_c BK244 2
        have hfs101 := blk_frozen BK244.out 2
        have hns101_0 := NB241_244.out
        have hns101_1 := NB242_244.out
        have hns101_2 := NB243_244.out
        have hms101_0 := NB244_241.out
        have hms101_1 := NB244_242.out
        have hms101_2 := NB244_243.out
        have hs102 : w94.cell? ⟨gb244, 3, none⟩ = some (.int .i64 0) := z_c BK244 3
        have hfs102 := blk_frozen BK244.out 3
        have hns102_0 := NB241_244.out
        have hns102_1 := NB242_244.out
        have hns102_2 := NB243_244.out
        have hms102_0 := NB244_241.out
        have hms102_1 := NB244_242.out
        have hms102_2 := NB244_243.out
        refine skip_ (w1 := ?_) (by rfl) rfl ?_ ?_
        rotate_left
        ·go_simp
         rfl
        refine hK.out _ _ ⟨((cell_far (p := ⟨gb244, _, none⟩) NB241_244.out _).trans (((cell_far (p := ⟨gb244, _, none⟩) NB241_244.out _).trans (((cell_far (p := ⟨gb244, _, none⟩) NB241_244.out _).trans (((cell_far (p := ⟨gb244, _, none⟩) NB241_244.out _).trans (hHeld.1)))))))), ((cell_far (p := ⟨gb244, _, none⟩) NB241_244.out _).trans (((cell_far (p := ⟨gb244, _, none⟩) NB241_244.out _).trans (((cell_far (p := ⟨gb244, _, none⟩) NB241_244.out _).trans (((cell_far (p := ⟨gb244, _, none⟩) NB241_244.out _).trans (hHeld.2.1)))))))), ((cell_far (p := ⟨gb244, _, none⟩) NB241_244.out _).trans (((cell_far (p := ⟨gb244, _, none⟩) NB241_244.out _).trans (((cell_far (p := ⟨gb244, _, none⟩) NB241_244.out _).trans (((cell_far (p := ⟨gb244, _, none⟩) NB241_244.out _).trans (hHeld.2.2.1)))))))), ((cell_far (p := ⟨gb244, _, none⟩) NB241_244.out _).trans (((cell_far (p := ⟨gb244, _, none⟩) NB241_244.out _).trans (((cell_far (p := ⟨gb244, _, none⟩) NB241_244.out _).trans (((cell_far (p := ⟨gb244, _, none⟩) NB241_244.out _).trans (hHeld.2.2.2.1)))))))), ((cell_far (p := ⟨gb244, _, none⟩) NB242_244.out _).trans (((cell_far (p := ⟨gb244, _, none⟩) NB242_244.out _).trans (((cell_far (p := ⟨gb244, _, none⟩) NB242_244.out _).trans (((cell_far (p := ⟨gb244, _, none⟩) NB242_244.out _).trans (hHeld.2.2.2.2.1)))))))), ((cell_far (p := ⟨gb244, _, none⟩) NB242_244.out _).trans (((cell_far (p := ⟨gb244, _, none⟩) NB242_244.out _).trans (((cell_far (p := ⟨gb244, _, none⟩) NB242_244.out _).trans (((cell_far (p := ⟨gb244, _, none⟩) NB242_244.out _).trans (hHeld.2.2.2.2.2.1)))))))), ((cell_far (p := ⟨gb244, _, none⟩) NB242_244.out _).trans (((cell_far (p := ⟨gb244, _, none⟩) NB242_244.out _).trans (((cell_far (p := ⟨gb244, _, none⟩) NB242_244.out _).trans (((cell_far (p := ⟨gb244, _, none⟩) NB242_244.out _).trans (hHeld.2.2.2.2.2.2.1)))))))), ((cell_far (p := ⟨gb244, _, none⟩) NB242_244.out _).trans (((cell_far (p := ⟨gb244, _, none⟩) NB242_244.out _).trans (((cell_far (p := ⟨gb244, _, none⟩) NB242_244.out _).trans (((cell_far (p := ⟨gb244, _, none⟩) NB242_244.out _).trans (hHeld.2.2.2.2.2.2.2))))))))⟩ (fun hHeld => ?_)
        clear hK K
        refine done_ (by kernel_rfl) ?_
        try go_wp2
        refine bodyPost_ret (results_cc rfl _ _ gb243 gb244 31 31 #[.int .i64 a0_0, .int .i64 (wrap64 (a0_1 - x9_58)), .int .i64 a0_2, .int .i64 a0_3] #[.int .i64 a1_0, .int .i64 (wrap64 (a1_1 + x9_58)), .int .i64 a1_2, .int .i64 a1_3] (0, 0) (0, 0) _ _ rfl (by (with_reducible repeat (first | refine blk_drewN ?_ _ | refine blk_drew ?_ | refine blk_alloc ?_ _)); refine blk_far ?_ NB243_244.out _; (with_reducible repeat (first | refine blk_drewN ?_ _ | refine blk_drew ?_ | refine blk_alloc ?_ _)); refine blk_far ?_ NB243_244.out _; (with_reducible repeat (first | refine blk_drewN ?_ _ | refine blk_drew ?_ | refine blk_alloc ?_ _)); refine blk_far ?_ NB243_244.out _; (with_reducible repeat (first | refine blk_drewN ?_ _ | refine blk_drew ?_ | refine blk_alloc ?_ _)); refine blk_far ?_ NB243_244.out _; (with_reducible repeat (first | refine blk_drewN ?_ _ | refine blk_drew ?_ | refine blk_alloc ?_ _)); refine blk_put (cs := #[.int .i64 a0_0, .int .i64 (wrap64 (a0_1 - x9_58)), .int .i64 a0_2, .int .i64 0]) ?_ 3 _ rfl; (with_reducible repeat (first | refine blk_drewN ?_ _ | refine blk_drew ?_ | refine blk_alloc ?_ _)); refine blk_put (cs := #[.int .i64 a0_0, .int .i64 (wrap64 (a0_1 - x9_58)), .int .i64 0, .int .i64 0]) ?_ 2 _ rfl; (with_reducible repeat (first | refine blk_drewN ?_ _ | refine blk_drew ?_ | refine blk_alloc ?_ _)); refine blk_put (cs := #[.int .i64 a0_0, .int .i64 0, .int .i64 0, .int .i64 0]) ?_ 1 _ rfl; (with_reducible repeat (first | refine blk_drewN ?_ _ | refine blk_drew ?_ | refine blk_alloc ?_ _)); refine blk_put (cs := #[.int .i64 0, .int .i64 0, .int .i64 0, .int .i64 0]) ?_ 0 _ rfl; (with_reducible repeat (first | refine blk_drewN ?_ _ | refine blk_drew ?_ | refine blk_alloc ?_ _)); exact BK243.out) Try.underlying31 rfl (by kernel_rfl) rfl (by (with_reducible repeat (first | refine blk_drewN ?_ _ | refine blk_drew ?_ | refine blk_alloc ?_ _)); refine blk_put (cs := #[.int .i64 a1_0, .int .i64 (wrap64 (a1_1 + x9_58)), .int .i64 a1_2, .int .i64 0]) ?_ 3 _ rfl; (with_reducible repeat (first | refine blk_drewN ?_ _ | refine blk_drew ?_ | refine blk_alloc ?_ _)); refine blk_put (cs := #[.int .i64 a1_0, .int .i64 (wrap64 (a1_1 + x9_58)), .int .i64 0, .int .i64 0]) ?_ 2 _ rfl; (with_reducible repeat (first | refine blk_drewN ?_ _ | refine blk_drew ?_ | refine blk_alloc ?_ _)); refine blk_put (cs := #[.int .i64 a1_0, .int .i64 0, .int .i64 0, .int .i64 0]) ?_ 1 _ rfl; (with_reducible repeat (first | refine blk_drewN ?_ _ | refine blk_drew ?_ | refine blk_alloc ?_ _)); refine blk_put (cs := #[.int .i64 0, .int .i64 0, .int .i64 0, .int .i64 0]) ?_ 0 _ rfl; (with_reducible repeat (first | refine blk_drewN ?_ _ | refine blk_drew ?_ | refine blk_alloc ?_ _)); refine blk_far ?_ NB244_243.out _; (with_reducible repeat (first | refine blk_drewN ?_ _ | refine blk_drew ?_ | refine blk_alloc ?_ _)); refine blk_far ?_ NB244_243.out _; (with_reducible repeat (first | refine blk_drewN ?_ _ | refine blk_drew ?_ | refine blk_alloc ?_ _)); refine blk_far ?_ NB244_243.out _; (with_reducible repeat (first | refine blk_drewN ?_ _ | refine blk_drew ?_ | refine blk_alloc ?_ _)); refine blk_far ?_ NB244_243.out _; (with_reducible repeat (first | refine blk_drewN ?_ _ | refine blk_drew ?_ | refine blk_alloc ?_ _)); exact BK244.out) Try.underlying31 rfl (by kernel_rfl)) rfl ?_
        exact ⟨by first | rfl | (simp [errW_none, errW_some] <;> rfl) | (simp only [← hji4, ← hji5]; first | rfl | (simp [errW_none, errW_some] <;> rfl)) | (simp [*, errW_none, errW_some] <;> rfl), blw⟩
       ·rw [if_neg c85] at H
        have c85b0 : decide (0 < a1_2) = false := decide_eq_false c85
        clear c85
        simp only [Option.some.injEq, Prod.mk.injEq] at H
        obtain ⟨rfl, rfl, rfl, rfl, rfl, rfl, rfl, rfl⟩ := H
        have hnb103 := NB241_242.out
        have hnc103 := NB242_241.out
        have hnb104 := NB241_243.out
        have hnc104 := NB243_241.out
        have hnb105 := NB241_244.out
        have hnc105 := NB244_241.out
        have hcz106_0 : wc.cell? ⟨gb241, 0, none⟩ = some (.int .i64 a0_0) := z_c BK241 0
        have hcz106_1 : wc.cell? ⟨gb241, 1, none⟩ = some (.int .i64 a0_1) := z_c BK241 1
        have hcz106_2 : wc.cell? ⟨gb241, 2, none⟩ = some (.int .i64 a0_2) := z_c BK241 2
        have hcz106_3 : wc.cell? ⟨gb241, 3, none⟩ = some (.int .i64 a0_3) := z_c BK241 3
        have hfz106_0 := blk_frozen BK241.out 0
        have hfz106_1 := blk_frozen BK241.out 1
        have hfz106_2 := blk_frozen BK241.out 2
        have hfz106_3 := blk_frozen BK241.out 3
        have hnb107 := NB242_243.out
        have hnc107 := NB243_242.out
        have hnb108 := NB242_244.out
        have hnc108 := NB244_242.out
        have hcz109_0 : wc.cell? ⟨gb242, 0, none⟩ = some (.int .i64 a1_0) := z_c BK242 0
        have hcz109_1 : wc.cell? ⟨gb242, 1, none⟩ = some (.int .i64 a1_1) := z_c BK242 1
        have hcz109_2 : wc.cell? ⟨gb242, 2, none⟩ = some (.int .i64 a1_2) := z_c BK242 2
        have hcz109_3 : wc.cell? ⟨gb242, 3, none⟩ = some (.int .i64 a1_3) := z_c BK242 3
        have hfz109_0 := blk_frozen BK242.out 0
        have hfz109_1 := blk_frozen BK242.out 1
        have hfz109_2 := blk_frozen BK242.out 2
        have hfz109_3 := blk_frozen BK242.out 3
        try go_wp2
        have n0_ : Aside0 ((wc.setCell ⟨gb241, 1, none⟩ (.int .i64 (wrap64 (a0_1 - x9_58)))).heap[gb241]? = some (.cells #[.int .i64 a0_0, .int .i64 (wrap64 (a0_1 - x9_58)), .int .i64 a0_2, .int .i64 a0_3] 31 (0, 0))) := ⟨by (with_reducible repeat (first | refine blk_drewN ?_ _ | refine blk_drew ?_ | refine blk_alloc ?_ _)); refine blk_put (cs := #[.int .i64 a0_0, .int .i64 a0_1, .int .i64 a0_2, .int .i64 a0_3]) ?_ 1 _ rfl; (with_reducible repeat (first | refine blk_drewN ?_ _ | refine blk_drew ?_ | refine blk_alloc ?_ _)); exact BK241.out⟩
        have n1_ : Aside0 ((wc.setCell ⟨gb241, 1, none⟩ (.int .i64 (wrap64 (a0_1 - x9_58)))).heap[gb242]? = some (.cells #[.int .i64 a1_0, .int .i64 a1_1, .int .i64 a1_2, .int .i64 a1_3] 31 (0, 0))) := ⟨by (with_reducible repeat (first | refine blk_drewN ?_ _ | refine blk_drew ?_ | refine blk_alloc ?_ _)); refine blk_far ?_ NB242_241.out _; (with_reducible repeat (first | refine blk_drewN ?_ _ | refine blk_drew ?_ | refine blk_alloc ?_ _)); exact BK242.out⟩
        have n2_ : Aside0 ((wc.setCell ⟨gb241, 1, none⟩ (.int .i64 (wrap64 (a0_1 - x9_58)))).heap[gb243]? = some (.cells #[.int .i64 0, .int .i64 0, .int .i64 0, .int .i64 0] 31 (0, 0))) := ⟨by (with_reducible repeat (first | refine blk_drewN ?_ _ | refine blk_drew ?_ | refine blk_alloc ?_ _)); refine blk_far ?_ NB243_241.out _; (with_reducible repeat (first | refine blk_drewN ?_ _ | refine blk_drew ?_ | refine blk_alloc ?_ _)); exact BK243.out⟩
        have n3_ : Aside0 ((wc.setCell ⟨gb241, 1, none⟩ (.int .i64 (wrap64 (a0_1 - x9_58)))).heap[gb244]? = some (.cells #[.int .i64 0, .int .i64 0, .int .i64 0, .int .i64 0] 31 (0, 0))) := ⟨by (with_reducible repeat (first | refine blk_drewN ?_ _ | refine blk_drew ?_ | refine blk_alloc ?_ _)); refine blk_far ?_ NB244_241.out _; (with_reducible repeat (first | refine blk_drewN ?_ _ | refine blk_drew ?_ | refine blk_alloc ?_ _)); exact BK244.out⟩
        have n4_ : Aside0 (Below w.heap.size w (wc.setCell ⟨gb241, 1, none⟩ (.int .i64 (wrap64 (a0_1 - x9_58))))) := ⟨blw⟩
        (try clear BK241)
        (try clear BK242)
        (try clear BK243)
        (try clear BK244)
        (try clear HB)
        generalize (wc.setCell ⟨gb241, 1, none⟩ (.int .i64 (wrap64 (a0_1 - x9_58)))) = w110 at n0_ n1_ n2_ n3_ n4_ ⊢
        have BK241 := n0_
        have BK242 := n1_
        have BK243 := n2_
        have BK244 := n3_
        have HB := n4_
        clear n0_ n1_ n2_ n3_ n4_
        have n0_ := Aside0.mk (blk_drew BK241.out)
        have n1_ := Aside0.mk (blk_drew BK242.out)
        have n2_ := Aside0.mk (blk_drew BK243.out)
        have n3_ := Aside0.mk (blk_drew BK244.out)
        have n4_ := Aside0.mk (below_drew1 HB.out)
        clear BK241
        clear BK242
        clear BK243
        clear BK244
        clear HB
        have BK241 := n0_
        have BK242 := n1_
        have BK243 := n2_
        have BK244 := n3_
        have HB := n4_
        clear n0_ n1_ n2_ n3_ n4_
        refine start_ (n := 4) (S := fun w' => w'.cell? ⟨gb241, 0, none⟩ = some (.int .i64 a0_0) ∧ w'.cell? ⟨gb241, 1, none⟩ = some (.int .i64 (wrap64 (a0_1 - x9_58))) ∧ w'.cell? ⟨gb241, 2, none⟩ = some (.int .i64 a0_2) ∧ w'.cell? ⟨gb241, 3, none⟩ = some (.int .i64 a0_3) ∧ w'.cell? ⟨gb242, 0, none⟩ = some (.int .i64 a1_0) ∧ w'.cell? ⟨gb242, 1, none⟩ = some (.int .i64 a1_1) ∧ w'.cell? ⟨gb242, 2, none⟩ = some (.int .i64 a1_2) ∧ w'.cell? ⟨gb242, 3, none⟩ = some (.int .i64 a1_3)) (ds := []) #[false, false, false, false] (by kernel_rfl) rfl rfl ⟨z_c BK241 0, z_c BK241 1, z_c BK241 2, z_c BK241 3, z_c BK242 0, z_c BK242 1, z_c BK242 2, z_c BK242 3⟩ (fun hHeld => ?_)
        generalize w110.drew = w111 at BK241 BK242 BK243 BK244 HB hHeld ⊢
        refine take_ (i := 0) (N := some 98) (v := ?_) (a' := ?_) #[true, false, false, false] rfl rfl (by kernel_rfl) (fun _ _ _ h => h) (Or.inl ⟨by rfl, ?_⟩) hHeld ?_ ?_
        rotate_left; (· (rintro w' ⟨s0, s1, s2, s3, s4, s5, s6, s7⟩; go_simp; with_reducible rfl)); rotate_left; (· (simp only [Act.put, sp1, sp2, sp3, i64_w, i32_w]; rfl))
        refine take_ (i := 1) (N := some 99) (v := ?_) (a' := ?_) #[true, true, false, false] rfl rfl (by kernel_rfl) (fun _ _ _ h => h) (Or.inl ⟨by rfl, ?_⟩) hHeld ?_ ?_
        rotate_left; (· (rintro w' ⟨s0, s1, s2, s3, s4, s5, s6, s7⟩; go_simp; with_reducible rfl)); rotate_left; (· (simp only [Act.put, sp1, sp2, sp3, i64_w, i32_w]; rfl))
        refine one_ (i := 2) (N := none) #[true, true, true, false] rfl rfl (by kernel_rfl) (by decide) (fun K hK => ?_)
        have hs112 : w111.cell? ⟨gb243, 0, none⟩ = some (.int .i64 0) := z_c BK243 0
        have hfs112 := blk_frozen BK243.out 0
        have hns112_0 := NB241_243.out
        have hns112_1 := NB242_243.out
        have hns112_3 := NB244_243.out
        have hms112_0 := NB243_241.out
        have hms112_1 := NB243_242.out
        have hms112_3 := NB243_244.out
        have hs113 : w111.cell? ⟨gb243, 1, none⟩ = some (.int .i64 0) := z_c BK243 1
        have hfs113 := blk_frozen BK243.out 1
        have hns113_0 := NB241_243.out
        have hns113_1 := NB242_243.out
        have hns113_3 := NB244_243.out
        have hms113_0 := NB243_241.out
        have hms113_1 := NB243_242.out
        have hms113_3 := NB243_244.out
        have hs114 : w111.cell? ⟨gb243, 2, none⟩ = some (.int .i64 0) := z_c BK243 2
        have hfs114 := blk_frozen BK243.out 2
        have hns114_0 := NB241_243.out
        have hns114_1 := NB242_243.out
        have hns114_3 := NB244_243.out
        have hms114_0 := NB243_241.out
        have hms114_1 := NB243_242.out
        have hms114_3 := NB243_244.out
        have hs115 : w111.cell? ⟨gb243, 3, none⟩ = some (.int .i64 0) := z_c BK243 3
        have hfs115 := blk_frozen BK243.out 3
        have hns115_0 := NB241_243.out
        have hns115_1 := NB242_243.out
        have hns115_3 := NB244_243.out
        have hms115_0 := NB243_241.out
        have hms115_1 := NB243_242.out
        have hms115_3 := NB243_244.out
        refine skip_ (w1 := ?_) (by rfl) rfl ?_ ?_
        rotate_left
        ·go_simp
         rfl
        refine hK.out _ _ ⟨((cell_far (p := ⟨gb243, _, none⟩) NB241_243.out _).trans (((cell_far (p := ⟨gb243, _, none⟩) NB241_243.out _).trans (((cell_far (p := ⟨gb243, _, none⟩) NB241_243.out _).trans (((cell_far (p := ⟨gb243, _, none⟩) NB241_243.out _).trans (hHeld.1)))))))), ((cell_far (p := ⟨gb243, _, none⟩) NB241_243.out _).trans (((cell_far (p := ⟨gb243, _, none⟩) NB241_243.out _).trans (((cell_far (p := ⟨gb243, _, none⟩) NB241_243.out _).trans (((cell_far (p := ⟨gb243, _, none⟩) NB241_243.out _).trans (hHeld.2.1)))))))), ((cell_far (p := ⟨gb243, _, none⟩) NB241_243.out _).trans (((cell_far (p := ⟨gb243, _, none⟩) NB241_243.out _).trans (((cell_far (p := ⟨gb243, _, none⟩) NB241_243.out _).trans (((cell_far (p := ⟨gb243, _, none⟩) NB241_243.out _).trans (hHeld.2.2.1)))))))), ((cell_far (p := ⟨gb243, _, none⟩) NB241_243.out _).trans (((cell_far (p := ⟨gb243, _, none⟩) NB241_243.out _).trans (((cell_far (p := ⟨gb243, _, none⟩) NB241_243.out _).trans (((cell_far (p := ⟨gb243, _, none⟩) NB241_243.out _).trans (hHeld.2.2.2.1)))))))), ((cell_far (p := ⟨gb243, _, none⟩) NB242_243.out _).trans (((cell_far (p := ⟨gb243, _, none⟩) NB242_243.out _).trans (((cell_far (p := ⟨gb243, _, none⟩) NB242_243.out _).trans (((cell_far (p := ⟨gb243, _, none⟩) NB242_243.out _).trans (hHeld.2.2.2.2.1)))))))), ((cell_far (p := ⟨gb243, _, none⟩) NB242_243.out _).trans (((cell_far (p := ⟨gb243, _, none⟩) NB242_243.out _).trans (((cell_far (p := ⟨gb243, _, none⟩) NB242_243.out _).trans (((cell_far (p := ⟨gb243, _, none⟩) NB242_243.out _).trans (hHeld.2.2.2.2.2.1)))))))), ((cell_far (p := ⟨gb243, _, none⟩) NB242_243.out _).trans (((cell_far (p := ⟨gb243, _, none⟩) NB242_243.out _).trans (((cell_far (p := ⟨gb243, _, none⟩) NB242_243.out _).trans (((cell_far (p := ⟨gb243, _, none⟩) NB242_243.out _).trans (hHeld.2.2.2.2.2.2.1)))))))), ((cell_far (p := ⟨gb243, _, none⟩) NB242_243.out _).trans (((cell_far (p := ⟨gb243, _, none⟩) NB242_243.out _).trans (((cell_far (p := ⟨gb243, _, none⟩) NB242_243.out _).trans (((cell_far (p := ⟨gb243, _, none⟩) NB242_243.out _).trans (hHeld.2.2.2.2.2.2.2))))))))⟩ (fun hHeld => ?_)
        clear hK K
        refine one_ (i := 3) (N := none) #[true, true, true, true] rfl rfl (by kernel_rfl) (by decide) (fun K hK => ?_)
        have hs116 : w111.cell? ⟨gb244, 0, none⟩ = some (.int .i64 0) := z_c BK244 0
        have hfs116 := blk_frozen BK244.out 0
        have hns116_0 := NB241_244.out
        have hns116_1 := NB242_244.out
        have hns116_2 := NB243_244.out
        have hms116_0 := NB244_241.out
        have hms116_1 := NB244_242.out
        have hms116_2 := NB244_243.out
        have hs117 : w111.cell? ⟨gb244, 1, none⟩ = some (.int .i64 0) := z_c BK244 1
        have hfs117 := blk_frozen BK244.out 1
        have hns117_0 := NB241_244.out
        have hns117_1 := NB242_244.out
        have hns117_2 := NB243_244.out
        have hms117_0 := NB244_241.out
        have hms117_1 := NB244_242.out
        have hms117_2 := NB244_243.out
        have hs118 : w111.cell? ⟨gb244, 2, none⟩ = some (.int .i64 0) := z_c BK244 2
        have hfs118 := blk_frozen BK244.out 2
        have hns118_0 := NB241_244.out
        have hns118_1 := NB242_244.out
        have hns118_2 := NB243_244.out
        have hms118_0 := NB244_241.out
        have hms118_1 := NB244_242.out
        have hms118_2 := NB244_243.out
        have hs119 : w111.cell? ⟨gb244, 3, none⟩ = some (.int .i64 0) := z_c BK244 3
        have hfs119 := blk_frozen BK244.out 3
        have hns119_0 := NB241_244.out
        have hns119_1 := NB242_244.out
        have hns119_2 := NB243_244.out
        have hms119_0 := NB244_241.out
        have hms119_1 := NB244_242.out
        have hms119_2 := NB244_243.out
        refine skip_ (w1 := ?_) (by rfl) rfl ?_ ?_
        rotate_left
        ·go_simp
         rfl
        refine hK.out _ _ ⟨((cell_far (p := ⟨gb244, _, none⟩) NB241_244.out _).trans (((cell_far (p := ⟨gb244, _, none⟩) NB241_244.out _).trans (((cell_far (p := ⟨gb244, _, none⟩) NB241_244.out _).trans (((cell_far (p := ⟨gb244, _, none⟩) NB241_244.out _).trans (hHeld.1)))))))), ((cell_far (p := ⟨gb244, _, none⟩) NB241_244.out _).trans (((cell_far (p := ⟨gb244, _, none⟩) NB241_244.out _).trans (((cell_far (p := ⟨gb244, _, none⟩) NB241_244.out _).trans (((cell_far (p := ⟨gb244, _, none⟩) NB241_244.out _).trans (hHeld.2.1)))))))), ((cell_far (p := ⟨gb244, _, none⟩) NB241_244.out _).trans (((cell_far (p := ⟨gb244, _, none⟩) NB241_244.out _).trans (((cell_far (p := ⟨gb244, _, none⟩) NB241_244.out _).trans (((cell_far (p := ⟨gb244, _, none⟩) NB241_244.out _).trans (hHeld.2.2.1)))))))), ((cell_far (p := ⟨gb244, _, none⟩) NB241_244.out _).trans (((cell_far (p := ⟨gb244, _, none⟩) NB241_244.out _).trans (((cell_far (p := ⟨gb244, _, none⟩) NB241_244.out _).trans (((cell_far (p := ⟨gb244, _, none⟩) NB241_244.out _).trans (hHeld.2.2.2.1)))))))), ((cell_far (p := ⟨gb244, _, none⟩) NB242_244.out _).trans (((cell_far (p := ⟨gb244, _, none⟩) NB242_244.out _).trans (((cell_far (p := ⟨gb244, _, none⟩) NB242_244.out _).trans (((cell_far (p := ⟨gb244, _, none⟩) NB242_244.out _).trans (hHeld.2.2.2.2.1)))))))), ((cell_far (p := ⟨gb244, _, none⟩) NB242_244.out _).trans (((cell_far (p := ⟨gb244, _, none⟩) NB242_244.out _).trans (((cell_far (p := ⟨gb244, _, none⟩) NB242_244.out _).trans (((cell_far (p := ⟨gb244, _, none⟩) NB242_244.out _).trans (hHeld.2.2.2.2.2.1)))))))), ((cell_far (p := ⟨gb244, _, none⟩) NB242_244.out _).trans (((cell_far (p := ⟨gb244, _, none⟩) NB242_244.out _).trans (((cell_far (p := ⟨gb244, _, none⟩) NB242_244.out _).trans (((cell_far (p := ⟨gb244, _, none⟩) NB242_244.out _).trans (hHeld.2.2.2.2.2.2.1)))))))), ((cell_far (p := ⟨gb244, _, none⟩) NB242_244.out _).trans (((cell_far (p := ⟨gb244, _, none⟩) NB242_244.out _).trans (((cell_far (p := ⟨gb244, _, none⟩) NB242_244.out _).trans (((cell_far (p := ⟨gb244, _, none⟩) NB242_244.out _).trans (hHeld.2.2.2.2.2.2.2))))))))⟩ (fun hHeld => ?_)
        clear hK K
        refine done_ (by kernel_rfl) ?_
        try go_wp2
        refine bodyPost_ret (results_cc rfl _ _ gb243 gb244 31 31 #[.int .i64 a0_0, .int .i64 (wrap64 (a0_1 - x9_58)), .int .i64 a0_2, .int .i64 a0_3] #[.int .i64 a1_0, .int .i64 a1_1, .int .i64 a1_2, .int .i64 a1_3] (0, 0) (0, 0) _ _ rfl (by (with_reducible repeat (first | refine blk_drewN ?_ _ | refine blk_drew ?_ | refine blk_alloc ?_ _)); refine blk_far ?_ NB243_244.out _; (with_reducible repeat (first | refine blk_drewN ?_ _ | refine blk_drew ?_ | refine blk_alloc ?_ _)); refine blk_far ?_ NB243_244.out _; (with_reducible repeat (first | refine blk_drewN ?_ _ | refine blk_drew ?_ | refine blk_alloc ?_ _)); refine blk_far ?_ NB243_244.out _; (with_reducible repeat (first | refine blk_drewN ?_ _ | refine blk_drew ?_ | refine blk_alloc ?_ _)); refine blk_far ?_ NB243_244.out _; (with_reducible repeat (first | refine blk_drewN ?_ _ | refine blk_drew ?_ | refine blk_alloc ?_ _)); refine blk_put (cs := #[.int .i64 a0_0, .int .i64 (wrap64 (a0_1 - x9_58)), .int .i64 a0_2, .int .i64 0]) ?_ 3 _ rfl; (with_reducible repeat (first | refine blk_drewN ?_ _ | refine blk_drew ?_ | refine blk_alloc ?_ _)); refine blk_put (cs := #[.int .i64 a0_0, .int .i64 (wrap64 (a0_1 - x9_58)), .int .i64 0, .int .i64 0]) ?_ 2 _ rfl; (with_reducible repeat (first | refine blk_drewN ?_ _ | refine blk_drew ?_ | refine blk_alloc ?_ _)); refine blk_put (cs := #[.int .i64 a0_0, .int .i64 0, .int .i64 0, .int .i64 0]) ?_ 1 _ rfl; (with_reducible repeat (first | refine blk_drewN ?_ _ | refine blk_drew ?_ | refine blk_alloc ?_ _)); refine blk_put (cs := #[.int .i64 0, .int .i64 0, .int .i64 0, .int .i64 0]) ?_ 0 _ rfl; (with_reducible repeat (first | refine blk_drewN ?_ _ | refine blk_drew ?_ | refine blk_alloc ?_ _)); exact BK243.out) Try.underlying31 rfl (by kernel_rfl) rfl (by (with_reducible repeat (first | refine blk_drewN ?_ _ | refine blk_drew ?_ | refine blk_alloc ?_ _)); refine blk_put (cs := #[.int .i64 a1_0, .int .i64 a1_1, .int .i64 a1_2, .int .i64 0]) ?_ 3 _ rfl; (with_reducible repeat (first | refine blk_drewN ?_ _ | refine blk_drew ?_ | refine blk_alloc ?_ _)); refine blk_put (cs := #[.int .i64 a1_0, .int .i64 a1_1, .int .i64 0, .int .i64 0]) ?_ 2 _ rfl; (with_reducible repeat (first | refine blk_drewN ?_ _ | refine blk_drew ?_ | refine blk_alloc ?_ _)); refine blk_put (cs := #[.int .i64 a1_0, .int .i64 0, .int .i64 0, .int .i64 0]) ?_ 1 _ rfl; (with_reducible repeat (first | refine blk_drewN ?_ _ | refine blk_drew ?_ | refine blk_alloc ?_ _)); refine blk_put (cs := #[.int .i64 0, .int .i64 0, .int .i64 0, .int .i64 0]) ?_ 0 _ rfl; (with_reducible repeat (first | refine blk_drewN ?_ _ | refine blk_drew ?_ | refine blk_alloc ?_ _)); refine blk_far ?_ NB244_243.out _; (with_reducible repeat (first | refine blk_drewN ?_ _ | refine blk_drew ?_ | refine blk_alloc ?_ _)); refine blk_far ?_ NB244_243.out _; (with_reducible repeat (first | refine blk_drewN ?_ _ | refine blk_drew ?_ | refine blk_alloc ?_ _)); refine blk_far ?_ NB244_243.out _; (with_reducible repeat (first | refine blk_drewN ?_ _ | refine blk_drew ?_ | refine blk_alloc ?_ _)); refine blk_far ?_ NB244_243.out _; (with_reducible repeat (first | refine blk_drewN ?_ _ | refine blk_drew ?_ | refine blk_alloc ?_ _)); exact BK244.out) Try.underlying31 rfl (by kernel_rfl)) rfl ?_
        exact ⟨by first | rfl | (simp [errW_none, errW_some] <;> rfl) | (simp only [← hji4, ← hji5]; first | rfl | (simp [errW_none, errW_some] <;> rfl)) | (simp [*, errW_none, errW_some] <;> rfl), blw⟩
      ·rw [if_neg c84] at H
       have c84b0 : decide (0 < a0_2) = false := decide_eq_false c84
       clear c84
       by_cases c120 : a1_2 > 0
       ·rw [if_pos c120] at H
        have c120b0 : decide (0 < a1_2) = true := decide_eq_true c120
        clear c120
        simp only [Option.some.injEq, Prod.mk.injEq] at H
        obtain ⟨rfl, rfl, rfl, rfl, rfl, rfl, rfl, rfl⟩ := H
        have hnb121 := NB241_242.out
        have hnc121 := NB242_241.out
        have hnb122 := NB241_243.out
        have hnc122 := NB243_241.out
        have hnb123 := NB241_244.out
        have hnc123 := NB244_241.out
        have hcz124_0 : wc.cell? ⟨gb241, 0, none⟩ = some (.int .i64 a0_0) := z_c BK241 0
        have hcz124_1 : wc.cell? ⟨gb241, 1, none⟩ = some (.int .i64 a0_1) := z_c BK241 1
        have hcz124_2 : wc.cell? ⟨gb241, 2, none⟩ = some (.int .i64 a0_2) := z_c BK241 2
        have hcz124_3 : wc.cell? ⟨gb241, 3, none⟩ = some (.int .i64 a0_3) := z_c BK241 3
        have hfz124_0 := blk_frozen BK241.out 0
        have hfz124_1 := blk_frozen BK241.out 1
        have hfz124_2 := blk_frozen BK241.out 2
        have hfz124_3 := blk_frozen BK241.out 3
        have hnb125 := NB242_243.out
        have hnc125 := NB243_242.out
        have hnb126 := NB242_244.out
        have hnc126 := NB244_242.out
        have hcz127_0 : wc.cell? ⟨gb242, 0, none⟩ = some (.int .i64 a1_0) := z_c BK242 0
        have hcz127_1 : wc.cell? ⟨gb242, 1, none⟩ = some (.int .i64 a1_1) := z_c BK242 1
        have hcz127_2 : wc.cell? ⟨gb242, 2, none⟩ = some (.int .i64 a1_2) := z_c BK242 2
        have hcz127_3 : wc.cell? ⟨gb242, 3, none⟩ = some (.int .i64 a1_3) := z_c BK242 3
        have hfz127_0 := blk_frozen BK242.out 0
        have hfz127_1 := blk_frozen BK242.out 1
        have hfz127_2 := blk_frozen BK242.out 2
        have hfz127_3 := blk_frozen BK242.out 3
        try go_wp2
        have n0_ : Aside0 ((wc.setCell ⟨gb242, 1, none⟩ (.int .i64 (wrap64 (a1_1 + x9_58)))).heap[gb241]? = some (.cells #[.int .i64 a0_0, .int .i64 a0_1, .int .i64 a0_2, .int .i64 a0_3] 31 (0, 0))) := ⟨by (with_reducible repeat (first | refine blk_drewN ?_ _ | refine blk_drew ?_ | refine blk_alloc ?_ _)); refine blk_far ?_ NB241_242.out _; (with_reducible repeat (first | refine blk_drewN ?_ _ | refine blk_drew ?_ | refine blk_alloc ?_ _)); exact BK241.out⟩
        have n1_ : Aside0 ((wc.setCell ⟨gb242, 1, none⟩ (.int .i64 (wrap64 (a1_1 + x9_58)))).heap[gb242]? = some (.cells #[.int .i64 a1_0, .int .i64 (wrap64 (a1_1 + x9_58)), .int .i64 a1_2, .int .i64 a1_3] 31 (0, 0))) := ⟨by (with_reducible repeat (first | refine blk_drewN ?_ _ | refine blk_drew ?_ | refine blk_alloc ?_ _)); refine blk_put (cs := #[.int .i64 a1_0, .int .i64 a1_1, .int .i64 a1_2, .int .i64 a1_3]) ?_ 1 _ rfl; (with_reducible repeat (first | refine blk_drewN ?_ _ | refine blk_drew ?_ | refine blk_alloc ?_ _)); exact BK242.out⟩
        have n2_ : Aside0 ((wc.setCell ⟨gb242, 1, none⟩ (.int .i64 (wrap64 (a1_1 + x9_58)))).heap[gb243]? = some (.cells #[.int .i64 0, .int .i64 0, .int .i64 0, .int .i64 0] 31 (0, 0))) := ⟨by (with_reducible repeat (first | refine blk_drewN ?_ _ | refine blk_drew ?_ | refine blk_alloc ?_ _)); refine blk_far ?_ NB243_242.out _; (with_reducible repeat (first | refine blk_drewN ?_ _ | refine blk_drew ?_ | refine blk_alloc ?_ _)); exact BK243.out⟩
        have n3_ : Aside0 ((wc.setCell ⟨gb242, 1, none⟩ (.int .i64 (wrap64 (a1_1 + x9_58)))).heap[gb244]? = some (.cells #[.int .i64 0, .int .i64 0, .int .i64 0, .int .i64 0] 31 (0, 0))) := ⟨by (with_reducible repeat (first | refine blk_drewN ?_ _ | refine blk_drew ?_ | refine blk_alloc ?_ _)); refine blk_far ?_ NB244_242.out _; (with_reducible repeat (first | refine blk_drewN ?_ _ | refine blk_drew ?_ | refine blk_alloc ?_ _)); exact BK244.out⟩
        have n4_ : Aside0 (Below w.heap.size w (wc.setCell ⟨gb242, 1, none⟩ (.int .i64 (wrap64 (a1_1 + x9_58))))) := ⟨blw⟩
        (try clear BK241)
        (try clear BK242)
        (try clear BK243)
        (try clear BK244)
        (try clear HB)
        generalize (wc.setCell ⟨gb242, 1, none⟩ (.int .i64 (wrap64 (a1_1 + x9_58)))) = w128 at n0_ n1_ n2_ n3_ n4_ ⊢
        have BK241 := n0_
        have BK242 := n1_
        have BK243 := n2_
        have BK244 := n3_
        have HB := n4_
        clear n0_ n1_ n2_ n3_ n4_
        have n0_ := Aside0.mk (blk_drew BK241.out)
        have n1_ := Aside0.mk (blk_drew BK242.out)
        have n2_ := Aside0.mk (blk_drew BK243.out)
        have n3_ := Aside0.mk (blk_drew BK244.out)
        have n4_ := Aside0.mk (below_drew1 HB.out)
        clear BK241
        clear BK242
        clear BK243
        clear BK244
        clear HB
        have BK241 := n0_
        have BK242 := n1_
        have BK243 := n2_
        have BK244 := n3_
        have HB := n4_
        clear n0_ n1_ n2_ n3_ n4_
        refine start_ (n := 4) (S := fun w' => w'.cell? ⟨gb241, 0, none⟩ = some (.int .i64 a0_0) ∧ w'.cell? ⟨gb241, 1, none⟩ = some (.int .i64 a0_1) ∧ w'.cell? ⟨gb241, 2, none⟩ = some (.int .i64 a0_2) ∧ w'.cell? ⟨gb241, 3, none⟩ = some (.int .i64 a0_3) ∧ w'.cell? ⟨gb242, 0, none⟩ = some (.int .i64 a1_0) ∧ w'.cell? ⟨gb242, 1, none⟩ = some (.int .i64 (wrap64 (a1_1 + x9_58))) ∧ w'.cell? ⟨gb242, 2, none⟩ = some (.int .i64 a1_2) ∧ w'.cell? ⟨gb242, 3, none⟩ = some (.int .i64 a1_3)) (ds := []) #[false, false, false, false] (by kernel_rfl) rfl rfl ⟨z_c BK241 0, z_c BK241 1, z_c BK241 2, z_c BK241 3, z_c BK242 0, z_c BK242 1, z_c BK242 2, z_c BK242 3⟩ (fun hHeld => ?_)
        generalize w128.drew = w129 at BK241 BK242 BK243 BK244 HB hHeld ⊢
        refine take_ (i := 0) (N := some 98) (v := ?_) (a' := ?_) #[true, false, false, false] rfl rfl (by kernel_rfl) (fun _ _ _ h => h) (Or.inl ⟨by rfl, ?_⟩) hHeld ?_ ?_
        rotate_left; (· (rintro w' ⟨s0, s1, s2, s3, s4, s5, s6, s7⟩; go_simp; with_reducible rfl)); rotate_left; (· (simp only [Act.put, sp1, sp2, sp3, i64_w, i32_w]; rfl))
        refine take_ (i := 1) (N := some 99) (v := ?_) (a' := ?_) #[true, true, false, false] rfl rfl (by kernel_rfl) (fun _ _ _ h => h) (Or.inl ⟨by rfl, ?_⟩) hHeld ?_ ?_
        rotate_left; (· (rintro w' ⟨s0, s1, s2, s3, s4, s5, s6, s7⟩; go_simp; with_reducible rfl)); rotate_left; (· (simp only [Act.put, sp1, sp2, sp3, i64_w, i32_w]; rfl))
        refine one_ (i := 2) (N := none) #[true, true, true, false] rfl rfl (by kernel_rfl) (by decide) (fun K hK => ?_)
        have hs130 : w129.cell? ⟨gb243, 0, none⟩ = some (.int .i64 0) := z_c BK243 0
        have hfs130 := blk_frozen BK243.out 0
        have hns130_0 := NB241_243.out
        have hns130_1 := NB242_243.out
        have hns130_3 := NB244_243.out
        have hms130_0 := NB243_241.out
        have hms130_1 := NB243_242.out
        have hms130_3 := NB243_244.out
        have hs131 : w129.cell? ⟨gb243, 1, none⟩ = some (.int .i64 0) := z_c BK243 1
        have hfs131 := blk_frozen BK243.out 1
        have hns131_0 := NB241_243.out
        have hns131_1 := NB242_243.out
        have hns131_3 := NB244_243.out
        have hms131_0 := NB243_241.out
        have hms131_1 := NB243_242.out
        have hms131_3 := NB243_244.out
        have hs132 : w129.cell? ⟨gb243, 2, none⟩ = some (.int .i64 0) := z_c BK243 2
        have hfs132 := blk_frozen BK243.out 2
        have hns132_0 := NB241_243.out
        have hns132_1 := NB242_243.out
        have hns132_3 := NB244_243.out
        have hms132_0 := NB243_241.out
        have hms132_1 := NB243_242.out
        have hms132_3 := NB243_244.out
        have hs133 : w129.cell? ⟨gb243, 3, none⟩ = some (.int .i64 0) := z_c BK243 3
        have hfs133 := blk_frozen BK243.out 3
        have hns133_0 := NB241_243.out
        have hns133_1 := NB242_243.out
        have hns133_3 := NB244_243.out
        have hms133_0 := NB243_241.out
        have hms133_1 := NB243_242.out
        have hms133_3 := NB243_244.out
        refine skip_ (w1 := ?_) (by rfl) rfl ?_ ?_
        rotate_left
        ·go_simp
         rfl
        refine hK.out _ _ ⟨((cell_far (p := ⟨gb243, _, none⟩) NB241_243.out _).trans (((cell_far (p := ⟨gb243, _, none⟩) NB241_243.out _).trans (((cell_far (p := ⟨gb243, _, none⟩) NB241_243.out _).trans (((cell_far (p := ⟨gb243, _, none⟩) NB241_243.out _).trans (hHeld.1)))))))), ((cell_far (p := ⟨gb243, _, none⟩) NB241_243.out _).trans (((cell_far (p := ⟨gb243, _, none⟩) NB241_243.out _).trans (((cell_far (p := ⟨gb243, _, none⟩) NB241_243.out _).trans (((cell_far (p := ⟨gb243, _, none⟩) NB241_243.out _).trans (hHeld.2.1)))))))), ((cell_far (p := ⟨gb243, _, none⟩) NB241_243.out _).trans (((cell_far (p := ⟨gb243, _, none⟩) NB241_243.out _).trans (((cell_far (p := ⟨gb243, _, none⟩) NB241_243.out _).trans (((cell_far (p := ⟨gb243, _, none⟩) NB241_243.out _).trans (hHeld.2.2.1)))))))), ((cell_far (p := ⟨gb243, _, none⟩) NB241_243.out _).trans (((cell_far (p := ⟨gb243, _, none⟩) NB241_243.out _).trans (((cell_far (p := ⟨gb243, _, none⟩) NB241_243.out _).trans (((cell_far (p := ⟨gb243, _, none⟩) NB241_243.out _).trans (hHeld.2.2.2.1)))))))), ((cell_far (p := ⟨gb243, _, none⟩) NB242_243.out _).trans (((cell_far (p := ⟨gb243, _, none⟩) NB242_243.out _).trans (((cell_far (p := ⟨gb243, _, none⟩) NB242_243.out _).trans (((cell_far (p := ⟨gb243, _, none⟩) NB242_243.out _).trans (hHeld.2.2.2.2.1)))))))), ((cell_far (p := ⟨gb243, _, none⟩) NB242_243.out _).trans (((cell_far (p := ⟨gb243, _, none⟩) NB242_243.out _).trans (((cell_far (p := ⟨gb243, _, none⟩) NB242_243.out _).trans (((cell_far (p := ⟨gb243, _, none⟩) NB242_243.out _).trans (hHeld.2.2.2.2.2.1)))))))), ((cell_far (p := ⟨gb243, _, none⟩) NB242_243.out _).trans (((cell_far (p := ⟨gb243, _, none⟩) NB242_243.out _).trans (((cell_far (p := ⟨gb243, _, none⟩) NB242_243.out _).trans (((cell_far (p := ⟨gb243, _, none⟩) NB242_243.out _).trans (hHeld.2.2.2.2.2.2.1)))))))), ((cell_far (p := ⟨gb243, _, none⟩) NB242_243.out _).trans (((cell_far (p := ⟨gb243, _, none⟩) NB242_243.out _).trans (((cell_far (p := ⟨gb243, _, none⟩) NB242_243.out _).trans (((cell_far (p := ⟨gb243, _, none⟩) NB242_243.out _).trans (hHeld.2.2.2.2.2.2.2))))))))⟩ (fun hHeld => ?_)
        clear hK K
        refine one_ (i := 3) (N := none) #[true, true, true, true] rfl rfl (by kernel_rfl) (by decide) (fun K hK => ?_)
        have hs134 : w129.cell? ⟨gb244, 0, none⟩ = some (.int .i64 0) := z_c BK244 0
        have hfs134 := blk_frozen BK244.out 0
        have hns134_0 := NB241_244.out
        have hns134_1 := NB242_244.out
        have hns134_2 := NB243_244.out
        have hms134_0 := NB244_241.out
        have hms134_1 := NB244_242.out
        have hms134_2 := NB244_243.out
        have hs135 : w129.cell? ⟨gb244, 1, none⟩ = some (.int .i64 0) := z_c BK244 1
        have hfs135 := blk_frozen BK244.out 1
        have hns135_0 := NB241_244.out
        have hns135_1 := NB242_244.out
        have hns135_2 := NB243_244.out
        have hms135_0 := NB244_241.out
        have hms135_1 := NB244_242.out
        have hms135_2 := NB244_243.out
        have hs136 : w129.cell? ⟨gb244, 2, none⟩ = some (.int .i64 0) := z_c BK244 2
        have hfs136 := blk_frozen BK244.out 2
        have hns136_0 := NB241_244.out
        have hns136_1 := NB242_244.out
        have hns136_2 := NB243_244.out
        have hms136_0 := NB244_241.out
        have hms136_1 := NB244_242.out
        have hms136_2 := NB244_243.out
        have hs137 : w129.cell? ⟨gb244, 3, none⟩ = some (.int .i64 0) := z_c BK244 3
        have hfs137 := blk_frozen BK244.out 3
        have hns137_0 := NB241_244.out
        have hns137_1 := NB242_244.out
        have hns137_2 := NB243_244.out
        have hms137_0 := NB244_241.out
        have hms137_1 := NB244_242.out
        have hms137_2 := NB244_243.out
        refine skip_ (w1 := ?_) (by rfl) rfl ?_ ?_
        rotate_left
        ·go_simp
         rfl
        refine hK.out _ _ ⟨((cell_far (p := ⟨gb244, _, none⟩) NB241_244.out _).trans (((cell_far (p := ⟨gb244, _, none⟩) NB241_244.out _).trans (((cell_far (p := ⟨gb244, _, none⟩) NB241_244.out _).trans (((cell_far (p := ⟨gb244, _, none⟩) NB241_244.out _).trans (hHeld.1)))))))), ((cell_far (p := ⟨gb244, _, none⟩) NB241_244.out _).trans (((cell_far (p := ⟨gb244, _, none⟩) NB241_244.out _).trans (((cell_far (p := ⟨gb244, _, none⟩) NB241_244.out _).trans (((cell_far (p := ⟨gb244, _, none⟩) NB241_244.out _).trans (hHeld.2.1)))))))), ((cell_far (p := ⟨gb244, _, none⟩) NB241_244.out _).trans (((cell_far (p := ⟨gb244, _, none⟩) NB241_244.out _).trans (((cell_far (p := ⟨gb244, _, none⟩) NB241_244.out _).trans (((cell_far (p := ⟨gb244, _, none⟩) NB241_244.out _).trans (hHeld.2.2.1)))))))), ((cell_far (p := ⟨gb244, _, none⟩) NB241_244.out _).trans (((cell_far (p := ⟨gb244, _, none⟩) NB241_244.out _).trans (((cell_far (p := ⟨gb244, _, none⟩) NB241_244.out _).trans (((cell_far (p := ⟨gb244, _, none⟩) NB241_244.out _).trans (hHeld.2.2.2.1)))))))), ((cell_far (p := ⟨gb244, _, none⟩) NB242_244.out _).trans (((cell_far (p := ⟨gb244, _, none⟩) NB242_244.out _).trans (((cell_far (p := ⟨gb244, _, none⟩) NB242_244.out _).trans (((cell_far (p := ⟨gb244, _, none⟩) NB242_244.out _).trans (hHeld.2.2.2.2.1)))))))), ((cell_far (p := ⟨gb244, _, none⟩) NB242_244.out _).trans (((cell_far (p := ⟨gb244, _, none⟩) NB242_244.out _).trans (((cell_far (p := ⟨gb244, _, none⟩) NB242_244.out _).trans (((cell_far (p := ⟨gb244, _, none⟩) NB242_244.out _).trans (hHeld.2.2.2.2.2.1)))))))), ((cell_far (p := ⟨gb244, _, none⟩) NB242_244.out _).trans (((cell_far (p := ⟨gb244, _, none⟩) NB242_244.out _).trans (((cell_far (p := ⟨gb244, _, none⟩) NB242_244.out _).trans (((cell_far (p := ⟨gb244, _, none⟩) NB242_244.out _).trans (hHeld.2.2.2.2.2.2.1)))))))), ((cell_far (p := ⟨gb244, _, none⟩) NB242_244.out _).trans (((cell_far (p := ⟨gb244, _, none⟩) NB242_244.out _).trans (((cell_far (p := ⟨gb244, _, none⟩) NB242_244.out _).trans (((cell_far (p := ⟨gb244, _, none⟩) NB242_244.out _).trans (hHeld.2.2.2.2.2.2.2))))))))⟩ (fun hHeld => ?_)
        clear hK K
        refine done_ (by kernel_rfl) ?_
        try go_wp2
        refine bodyPost_ret (results_cc rfl _ _ gb243 gb244 31 31 #[.int .i64 a0_0, .int .i64 a0_1, .int .i64 a0_2, .int .i64 a0_3] #[.int .i64 a1_0, .int .i64 (wrap64 (a1_1 + x9_58)), .int .i64 a1_2, .int .i64 a1_3] (0, 0) (0, 0) _ _ rfl (by (with_reducible repeat (first | refine blk_drewN ?_ _ | refine blk_drew ?_ | refine blk_alloc ?_ _)); refine blk_far ?_ NB243_244.out _; (with_reducible repeat (first | refine blk_drewN ?_ _ | refine blk_drew ?_ | refine blk_alloc ?_ _)); refine blk_far ?_ NB243_244.out _; (with_reducible repeat (first | refine blk_drewN ?_ _ | refine blk_drew ?_ | refine blk_alloc ?_ _)); refine blk_far ?_ NB243_244.out _; (with_reducible repeat (first | refine blk_drewN ?_ _ | refine blk_drew ?_ | refine blk_alloc ?_ _)); refine blk_far ?_ NB243_244.out _; (with_reducible repeat (first | refine blk_drewN ?_ _ | refine blk_drew ?_ | refine blk_alloc ?_ _)); refine blk_put (cs := #[.int .i64 a0_0, .int .i64 a0_1, .int .i64 a0_2, .int .i64 0]) ?_ 3 _ rfl; (with_reducible repeat (first | refine blk_drewN ?_ _ | refine blk_drew ?_ | refine blk_alloc ?_ _)); refine blk_put (cs := #[.int .i64 a0_0, .int .i64 a0_1, .int .i64 0, .int .i64 0]) ?_ 2 _ rfl; (with_reducible repeat (first | refine blk_drewN ?_ _ | refine blk_drew ?_ | refine blk_alloc ?_ _)); refine blk_put (cs := #[.int .i64 a0_0, .int .i64 0, .int .i64 0, .int .i64 0]) ?_ 1 _ rfl; (with_reducible repeat (first | refine blk_drewN ?_ _ | refine blk_drew ?_ | refine blk_alloc ?_ _)); refine blk_put (cs := #[.int .i64 0, .int .i64 0, .int .i64 0, .int .i64 0]) ?_ 0 _ rfl; (with_reducible repeat (first | refine blk_drewN ?_ _ | refine blk_drew ?_ | refine blk_alloc ?_ _)); exact BK243.out) Try.underlying31 rfl (by kernel_rfl) rfl (by (with_reducible repeat (first | refine blk_drewN ?_ _ | refine blk_drew ?_ | refine blk_alloc ?_ _)); refine blk_put (cs := #[.int .i64 a1_0, .int .i64 (wrap64 (a1_1 + x9_58)), .int .i64 a1_2, .int .i64 0]) ?_ 3 _ rfl; (with_reducible repeat (first | refine blk_drewN ?_ _ | refine blk_drew ?_ | refine blk_alloc ?_ _)); refine blk_put (cs := #[.int .i64 a1_0, .int .i64 (wrap64 (a1_1 + x9_58)), .int .i64 0, .int .i64 0]) ?_ 2 _ rfl; (with_reducible repeat (first | refine blk_drewN ?_ _ | refine blk_drew ?_ | refine blk_alloc ?_ _)); refine blk_put (cs := #[.int .i64 a1_0, .int .i64 0, .int .i64 0, .int .i64 0]) ?_ 1 _ rfl; (with_reducible repeat (first | refine blk_drewN ?_ _ | refine blk_drew ?_ | refine blk_alloc ?_ _)); refine blk_put (cs := #[.int .i64 0, .int .i64 0, .int .i64 0, .int .i64 0]) ?_ 0 _ rfl; (with_reducible repeat (first | refine blk_drewN ?_ _ | refine blk_drew ?_ | refine blk_alloc ?_ _)); refine blk_far ?_ NB244_243.out _; (with_reducible repeat (first | refine blk_drewN ?_ _ | refine blk_drew ?_ | refine blk_alloc ?_ _)); refine blk_far ?_ NB244_243.out _; (with_reducible repeat (first | refine blk_drewN ?_ _ | refine blk_drew ?_ | refine blk_alloc ?_ _)); refine blk_far ?_ NB244_243.out _; (with_reducible repeat (first | refine blk_drewN ?_ _ | refine blk_drew ?_ | refine blk_alloc ?_ _)); refine blk_far ?_ NB244_243.out _; (with_reducible repeat (first | refine blk_drewN ?_ _ | refine blk_drew ?_ | refine blk_alloc ?_ _)); exact BK244.out) Try.underlying31 rfl (by kernel_rfl)) rfl ?_
        exact ⟨by first | rfl | (simp [errW_none, errW_some] <;> rfl) | (simp only [← hji4, ← hji5]; first | rfl | (simp [errW_none, errW_some] <;> rfl)) | (simp [*, errW_none, errW_some] <;> rfl), blw⟩
       ·rw [if_neg c120] at H
        have c120b0 : decide (0 < a1_2) = false := decide_eq_false c120
        clear c120
        simp only [Option.some.injEq, Prod.mk.injEq] at H
        obtain ⟨rfl, rfl, rfl, rfl, rfl, rfl, rfl, rfl⟩ := H
        have hnb138 := NB241_242.out
        have hnc138 := NB242_241.out
        have hnb139 := NB241_243.out
        have hnc139 := NB243_241.out
        have hnb140 := NB241_244.out
        have hnc140 := NB244_241.out
        have hcz141_0 : wc.cell? ⟨gb241, 0, none⟩ = some (.int .i64 a0_0) := z_c BK241 0
        have hcz141_1 : wc.cell? ⟨gb241, 1, none⟩ = some (.int .i64 a0_1) := z_c BK241 1
        have hcz141_2 : wc.cell? ⟨gb241, 2, none⟩ = some (.int .i64 a0_2) := z_c BK241 2
        have hcz141_3 : wc.cell? ⟨gb241, 3, none⟩ = some (.int .i64 a0_3) := z_c BK241 3
        have hfz141_0 := blk_frozen BK241.out 0
        have hfz141_1 := blk_frozen BK241.out 1
        have hfz141_2 := blk_frozen BK241.out 2
        have hfz141_3 := blk_frozen BK241.out 3
        have hnb142 := NB242_243.out
        have hnc142 := NB243_242.out
        have hnb143 := NB242_244.out
        have hnc143 := NB244_242.out
        have hcz144_0 : wc.cell? ⟨gb242, 0, none⟩ = some (.int .i64 a1_0) := z_c BK242 0
        have hcz144_1 : wc.cell? ⟨gb242, 1, none⟩ = some (.int .i64 a1_1) := z_c BK242 1
        have hcz144_2 : wc.cell? ⟨gb242, 2, none⟩ = some (.int .i64 a1_2) := z_c BK242 2
        have hcz144_3 : wc.cell? ⟨gb242, 3, none⟩ = some (.int .i64 a1_3) := z_c BK242 3
        have hfz144_0 := blk_frozen BK242.out 0
        have hfz144_1 := blk_frozen BK242.out 1
        have hfz144_2 := blk_frozen BK242.out 2
        have hfz144_3 := blk_frozen BK242.out 3
        try go_wp2
        have n0_ := Aside0.mk (blk_drew BK241.out)
        have n1_ := Aside0.mk (blk_drew BK242.out)
        have n2_ := Aside0.mk (blk_drew BK243.out)
        have n3_ := Aside0.mk (blk_drew BK244.out)
        have n4_ := Aside0.mk (below_drew1 HB.out)
        clear BK241
        clear BK242
        clear BK243
        clear BK244
        clear HB
        have BK241 := n0_
        have BK242 := n1_
        have BK243 := n2_
        have BK244 := n3_
        have HB := n4_
        clear n0_ n1_ n2_ n3_ n4_
        refine start_ (n := 4) (S := fun w' => w'.cell? ⟨gb241, 0, none⟩ = some (.int .i64 a0_0) ∧ w'.cell? ⟨gb241, 1, none⟩ = some (.int .i64 a0_1) ∧ w'.cell? ⟨gb241, 2, none⟩ = some (.int .i64 a0_2) ∧ w'.cell? ⟨gb241, 3, none⟩ = some (.int .i64 a0_3) ∧ w'.cell? ⟨gb242, 0, none⟩ = some (.int .i64 a1_0) ∧ w'.cell? ⟨gb242, 1, none⟩ = some (.int .i64 a1_1) ∧ w'.cell? ⟨gb242, 2, none⟩ = some (.int .i64 a1_2) ∧ w'.cell? ⟨gb242, 3, none⟩ = some (.int .i64 a1_3)) (ds := []) #[false, false, false, false] (by kernel_rfl) rfl rfl ⟨z_c BK241 0, z_c BK241 1, z_c BK241 2, z_c BK241 3, z_c BK242 0, z_c BK242 1, z_c BK242 2, z_c BK242 3⟩ (fun hHeld => ?_)
        generalize wc.drew = w145 at BK241 BK242 BK243 BK244 HB hHeld ⊢
        refine take_ (i := 0) (N := some 98) (v := ?_) (a' := ?_) #[true, false, false, false] rfl rfl (by kernel_rfl) (fun _ _ _ h => h) (Or.inl ⟨by rfl, ?_⟩) hHeld ?_ ?_
        rotate_left; (· (rintro w' ⟨s0, s1, s2, s3, s4, s5, s6, s7⟩; go_simp; with_reducible rfl)); rotate_left; (· (simp only [Act.put, sp1, sp2, sp3, i64_w, i32_w]; rfl))
        refine take_ (i := 1) (N := some 99) (v := ?_) (a' := ?_) #[true, true, false, false] rfl rfl (by kernel_rfl) (fun _ _ _ h => h) (Or.inl ⟨by rfl, ?_⟩) hHeld ?_ ?_
        rotate_left; (· (rintro w' ⟨s0, s1, s2, s3, s4, s5, s6, s7⟩; go_simp; with_reducible rfl)); rotate_left; (· (simp only [Act.put, sp1, sp2, sp3, i64_w, i32_w]; rfl))
        refine one_ (i := 2) (N := none) #[true, true, true, false] rfl rfl (by kernel_rfl) (by decide) (fun K hK => ?_)
        have hs146 : w145.cell? ⟨gb243, 0, none⟩ = some (.int .i64 0) := z_c BK243 0
        have hfs146 := blk_frozen BK243.out 0
        have hns146_0 := NB241_243.out
        have hns146_1 := NB242_243.out
        have hns146_3 := NB244_243.out
        have hms146_0 := NB243_241.out
        have hms146_1 := NB243_242.out
        have hms146_3 := NB243_244.out
        have hs147 : w145.cell? ⟨gb243, 1, none⟩ = some (.int .i64 0) := z_c BK243 1
        have hfs147 := blk_frozen BK243.out 1
        have hns147_0 := NB241_243.out
        have hns147_1 := NB242_243.out
        have hns147_3 := NB244_243.out
        have hms147_0 := NB243_241.out
        have hms147_1 := NB243_242.out
        have hms147_3 := NB243_244.out
        have hs148 : w145.cell? ⟨gb243, 2, none⟩ = some (.int .i64 0) := z_c BK243 2
        have hfs148 := blk_frozen BK243.out 2
        have hns148_0 := NB241_243.out
        have hns148_1 := NB242_243.out
        have hns148_3 := NB244_243.out
        have hms148_0 := NB243_241.out
        have hms148_1 := NB243_242.out
        have hms148_3 := NB243_244.out
        have hs149 : w145.cell? ⟨gb243, 3, none⟩ = some (.int .i64 0) := z_c BK243 3
        have hfs149 := blk_frozen BK243.out 3
        have hns149_0 := NB241_243.out
        have hns149_1 := NB242_243.out
        have hns149_3 := NB244_243.out
        have hms149_0 := NB243_241.out
        have hms149_1 := NB243_242.out
        have hms149_3 := NB243_244.out
        refine skip_ (w1 := ?_) (by rfl) rfl ?_ ?_
        rotate_left
        ·go_simp
         rfl
        refine hK.out _ _ ⟨((cell_far (p := ⟨gb243, _, none⟩) NB241_243.out _).trans (((cell_far (p := ⟨gb243, _, none⟩) NB241_243.out _).trans (((cell_far (p := ⟨gb243, _, none⟩) NB241_243.out _).trans (((cell_far (p := ⟨gb243, _, none⟩) NB241_243.out _).trans (hHeld.1)))))))), ((cell_far (p := ⟨gb243, _, none⟩) NB241_243.out _).trans (((cell_far (p := ⟨gb243, _, none⟩) NB241_243.out _).trans (((cell_far (p := ⟨gb243, _, none⟩) NB241_243.out _).trans (((cell_far (p := ⟨gb243, _, none⟩) NB241_243.out _).trans (hHeld.2.1)))))))), ((cell_far (p := ⟨gb243, _, none⟩) NB241_243.out _).trans (((cell_far (p := ⟨gb243, _, none⟩) NB241_243.out _).trans (((cell_far (p := ⟨gb243, _, none⟩) NB241_243.out _).trans (((cell_far (p := ⟨gb243, _, none⟩) NB241_243.out _).trans (hHeld.2.2.1)))))))), ((cell_far (p := ⟨gb243, _, none⟩) NB241_243.out _).trans (((cell_far (p := ⟨gb243, _, none⟩) NB241_243.out _).trans (((cell_far (p := ⟨gb243, _, none⟩) NB241_243.out _).trans (((cell_far (p := ⟨gb243, _, none⟩) NB241_243.out _).trans (hHeld.2.2.2.1)))))))), ((cell_far (p := ⟨gb243, _, none⟩) NB242_243.out _).trans (((cell_far (p := ⟨gb243, _, none⟩) NB242_243.out _).trans (((cell_far (p := ⟨gb243, _, none⟩) NB242_243.out _).trans (((cell_far (p := ⟨gb243, _, none⟩) NB242_243.out _).trans (hHeld.2.2.2.2.1)))))))), ((cell_far (p := ⟨gb243, _, none⟩) NB242_243.out _).trans (((cell_far (p := ⟨gb243, _, none⟩) NB242_243.out _).trans (((cell_far (p := ⟨gb243, _, none⟩) NB242_243.out _).trans (((cell_far (p := ⟨gb243, _, none⟩) NB242_243.out _).trans (hHeld.2.2.2.2.2.1)))))))), ((cell_far (p := ⟨gb243, _, none⟩) NB242_243.out _).trans (((cell_far (p := ⟨gb243, _, none⟩) NB242_243.out _).trans (((cell_far (p := ⟨gb243, _, none⟩) NB242_243.out _).trans (((cell_far (p := ⟨gb243, _, none⟩) NB242_243.out _).trans (hHeld.2.2.2.2.2.2.1)))))))), ((cell_far (p := ⟨gb243, _, none⟩) NB242_243.out _).trans (((cell_far (p := ⟨gb243, _, none⟩) NB242_243.out _).trans (((cell_far (p := ⟨gb243, _, none⟩) NB242_243.out _).trans (((cell_far (p := ⟨gb243, _, none⟩) NB242_243.out _).trans (hHeld.2.2.2.2.2.2.2))))))))⟩ (fun hHeld => ?_)
        clear hK K
        refine one_ (i := 3) (N := none) #[true, true, true, true] rfl rfl (by kernel_rfl) (by decide) (fun K hK => ?_)
        have hs150 : w145.cell? ⟨gb244, 0, none⟩ = some (.int .i64 0) := z_c BK244 0
        have hfs150 := blk_frozen BK244.out 0
        have hns150_0 := NB241_244.out
        have hns150_1 := NB242_244.out
        have hns150_2 := NB243_244.out
        have hms150_0 := NB244_241.out
        have hms150_1 := NB244_242.out
        have hms150_2 := NB244_243.out
        have hs151 : w145.cell? ⟨gb244, 1, none⟩ = some (.int .i64 0) := z_c BK244 1
        have hfs151 := blk_frozen BK244.out 1
        have hns151_0 := NB241_244.out
        have hns151_1 := NB242_244.out
        have hns151_2 := NB243_244.out
        have hms151_0 := NB244_241.out
        have hms151_1 := NB244_242.out
        have hms151_2 := NB244_243.out
        have hs152 : w145.cell? ⟨gb244, 2, none⟩ = some (.int .i64 0) := z_c BK244 2
        have hfs152 := blk_frozen BK244.out 2
        have hns152_0 := NB241_244.out
        have hns152_1 := NB242_244.out
        have hns152_2 := NB243_244.out
        have hms152_0 := NB244_241.out
        have hms152_1 := NB244_242.out
        have hms152_2 := NB244_243.out
        have hs153 : w145.cell? ⟨gb244, 3, none⟩ = some (.int .i64 0) := z_c BK244 3
        have hfs153 := blk_frozen BK244.out 3
        have hns153_0 := NB241_244.out
        have hns153_1 := NB242_244.out
        have hns153_2 := NB243_244.out
        have hms153_0 := NB244_241.out
        have hms153_1 := NB244_242.out
        have hms153_2 := NB244_243.out
        refine skip_ (w1 := ?_) (by rfl) rfl ?_ ?_
        rotate_left
        ·go_simp
         rfl
        refine hK.out _ _ ⟨((cell_far (p := ⟨gb244, _, none⟩) NB241_244.out _).trans (((cell_far (p := ⟨gb244, _, none⟩) NB241_244.out _).trans (((cell_far (p := ⟨gb244, _, none⟩) NB241_244.out _).trans (((cell_far (p := ⟨gb244, _, none⟩) NB241_244.out _).trans (hHeld.1)))))))), ((cell_far (p := ⟨gb244, _, none⟩) NB241_244.out _).trans (((cell_far (p := ⟨gb244, _, none⟩) NB241_244.out _).trans (((cell_far (p := ⟨gb244, _, none⟩) NB241_244.out _).trans (((cell_far (p := ⟨gb244, _, none⟩) NB241_244.out _).trans (hHeld.2.1)))))))), ((cell_far (p := ⟨gb244, _, none⟩) NB241_244.out _).trans (((cell_far (p := ⟨gb244, _, none⟩) NB241_244.out _).trans (((cell_far (p := ⟨gb244, _, none⟩) NB241_244.out _).trans (((cell_far (p := ⟨gb244, _, none⟩) NB241_244.out _).trans (hHeld.2.2.1)))))))), ((cell_far (p := ⟨gb244, _, none⟩) NB241_244.out _).trans (((cell_far (p := ⟨gb244, _, none⟩) NB241_244.out _).trans (((cell_far (p := ⟨gb244, _, none⟩) NB241_244.out _).trans (((cell_far (p := ⟨gb244, _, none⟩) NB241_244.out _).trans (hHeld.2.2.2.1)))))))), ((cell_far (p := ⟨gb244, _, none⟩) NB242_244.out _).trans (((cell_far (p := ⟨gb244, _, none⟩) NB242_244.out _).trans (((cell_far (p := ⟨gb244, _, none⟩) NB242_244.out _).trans (((cell_far (p := ⟨gb244, _, none⟩) NB242_244.out _).trans (hHeld.2.2.2.2.1)))))))), ((cell_far (p := ⟨gb244, _, none⟩) NB242_244.out _).trans (((cell_far (p := ⟨gb244, _, none⟩) NB242_244.out _).trans (((cell_far (p := ⟨gb244, _, none⟩) NB242_244.out _).trans (((cell_far (p := ⟨gb244, _, none⟩) NB242_244.out _).trans (hHeld.2.2.2.2.2.1)))))))), ((cell_far (p := ⟨gb244, _, none⟩) NB242_244.out _).trans (((cell_far (p := ⟨gb244, _, none⟩) NB242_244.out _).trans (((cell_far (p := ⟨gb244, _, none⟩) NB242_244.out _).trans (((cell_far (p := ⟨gb244, _, none⟩) NB242_244.out _).trans (hHeld.2.2.2.2.2.2.1)))))))), ((cell_far (p := ⟨gb244, _, none⟩) NB242_244.out _).trans (((cell_far (p := ⟨gb244, _, none⟩) NB242_244.out _).trans (((cell_far (p := ⟨gb244, _, none⟩) NB242_244.out _).trans (((cell_far (p := ⟨gb244, _, none⟩) NB242_244.out _).trans (hHeld.2.2.2.2.2.2.2))))))))⟩ (fun hHeld => ?_)
        clear hK K
        refine done_ (by kernel_rfl) ?_
        try go_wp2
        refine bodyPost_ret (results_cc rfl _ _ gb243 gb244 31 31 #[.int .i64 a0_0, .int .i64 a0_1, .int .i64 a0_2, .int .i64 a0_3] #[.int .i64 a1_0, .int .i64 a1_1, .int .i64 a1_2, .int .i64 a1_3] (0, 0) (0, 0) _ _ rfl (by (with_reducible repeat (first | refine blk_drewN ?_ _ | refine blk_drew ?_ | refine blk_alloc ?_ _)); refine blk_far ?_ NB243_244.out _; (with_reducible repeat (first | refine blk_drewN ?_ _ | refine blk_drew ?_ | refine blk_alloc ?_ _)); refine blk_far ?_ NB243_244.out _; (with_reducible repeat (first | refine blk_drewN ?_ _ | refine blk_drew ?_ | refine blk_alloc ?_ _)); refine blk_far ?_ NB243_244.out _; (with_reducible repeat (first | refine blk_drewN ?_ _ | refine blk_drew ?_ | refine blk_alloc ?_ _)); refine blk_far ?_ NB243_244.out _; (with_reducible repeat (first | refine blk_drewN ?_ _ | refine blk_drew ?_ | refine blk_alloc ?_ _)); refine blk_put (cs := #[.int .i64 a0_0, .int .i64 a0_1, .int .i64 a0_2, .int .i64 0]) ?_ 3 _ rfl; (with_reducible repeat (first | refine blk_drewN ?_ _ | refine blk_drew ?_ | refine blk_alloc ?_ _)); refine blk_put (cs := #[.int .i64 a0_0, .int .i64 a0_1, .int .i64 0, .int .i64 0]) ?_ 2 _ rfl; (with_reducible repeat (first | refine blk_drewN ?_ _ | refine blk_drew ?_ | refine blk_alloc ?_ _)); refine blk_put (cs := #[.int .i64 a0_0, .int .i64 0, .int .i64 0, .int .i64 0]) ?_ 1 _ rfl; (with_reducible repeat (first | refine blk_drewN ?_ _ | refine blk_drew ?_ | refine blk_alloc ?_ _)); refine blk_put (cs := #[.int .i64 0, .int .i64 0, .int .i64 0, .int .i64 0]) ?_ 0 _ rfl; (with_reducible repeat (first | refine blk_drewN ?_ _ | refine blk_drew ?_ | refine blk_alloc ?_ _)); exact BK243.out) Try.underlying31 rfl (by kernel_rfl) rfl (by (with_reducible repeat (first | refine blk_drewN ?_ _ | refine blk_drew ?_ | refine blk_alloc ?_ _)); refine blk_put (cs := #[.int .i64 a1_0, .int .i64 a1_1, .int .i64 a1_2, .int .i64 0]) ?_ 3 _ rfl; (with_reducible repeat (first | refine blk_drewN ?_ _ | refine blk_drew ?_ | refine blk_alloc ?_ _)); refine blk_put (cs := #[.int .i64 a1_0, .int .i64 a1_1, .int .i64 0, .int .i64 0]) ?_ 2 _ rfl; (with_reducible repeat (first | refine blk_drewN ?_ _ | refine blk_drew ?_ | refine blk_alloc ?_ _)); refine blk_put (cs := #[.int .i64 a1_0, .int .i64 0, .int .i64 0, .int .i64 0]) ?_ 1 _ rfl; (with_reducible repeat (first | refine blk_drewN ?_ _ | refine blk_drew ?_ | refine blk_alloc ?_ _)); refine blk_put (cs := #[.int .i64 0, .int .i64 0, .int .i64 0, .int .i64 0]) ?_ 0 _ rfl; (with_reducible repeat (first | refine blk_drewN ?_ _ | refine blk_drew ?_ | refine blk_alloc ?_ _)); refine blk_far ?_ NB244_243.out _; (with_reducible repeat (first | refine blk_drewN ?_ _ | refine blk_drew ?_ | refine blk_alloc ?_ _)); refine blk_far ?_ NB244_243.out _; (with_reducible repeat (first | refine blk_drewN ?_ _ | refine blk_drew ?_ | refine blk_alloc ?_ _)); refine blk_far ?_ NB244_243.out _; (with_reducible repeat (first | refine blk_drewN ?_ _ | refine blk_drew ?_ | refine blk_alloc ?_ _)); refine blk_far ?_ NB244_243.out _; (with_reducible repeat (first | refine blk_drewN ?_ _ | refine blk_drew ?_ | refine blk_alloc ?_ _)); exact BK244.out) Try.underlying31 rfl (by kernel_rfl)) rfl ?_
        exact ⟨by first | rfl | (simp [errW_none, errW_some] <;> rfl) | (simp only [← hji4, ← hji5]; first | rfl | (simp [errW_none, errW_some] <;> rfl)) | (simp [*, errW_none, errW_some] <;> rfl), blw⟩

end Go.Proofs.Ytlijlailbjjfbaa.PFnExactStepIslands
