/- The machine's side of a law, function by function: a Lean function with the Go function's answers and the proof that the Go code comes to them. No condition. Written by this session's program over the kit's print, this session's own contracts set in. -/
import Derived.Test.YtlijlailbjjfbaaPFnExactStepIslandsx0
import Derived.Test.YtlijlailbjjfbaaPFnExactStepIslandsx1
namespace Go.Proofs.Ytlijlailbjjfbaa.PFnExactStepIslands
open Go.RowKit Go.Proofs.YtlijlailbjjfbaaW.PrintWords Go.Proofs.YtlijlailbjjfbaaW.PrintLast Go.Proofs.YtlijlailbjjfbaaW.PrintMore
attribute [local go_sem] max2_int min2_int max_two min_two max_three min_three max_four min_four   -- for this text's walks alone
set_option linter.unusedVariables false
set_option linter.unusedSimpArgs false

/-! ### spec_l10Bounce: function 73 -/
def spec_l10Bounce.f (a0 : Int) : Option (Bool) := (spec_l1In.f a0 0 100).bind fun t139 => (some t139)
set_option maxHeartbeats 8000000 in
set_option maxRecDepth 100000 in
theorem spec_l10Bounce.calls (a0 : Int) (r : Bool) (w : World) (h : spec_l10Bounce.f a0 = some r) :
  Calls Try.prog 73 #[.int .i64 a0] w fun e w' => e = .returned (.bool r) ∧ Drawn0 w w' := by
 have H : ((spec_l1In.f a0 0 100).bind fun t139 => (some t139)) = some r := h
 clear h
 replace H := Option.bind_eq_some_iff.mp H
 obtain ⟨t139, A20, H⟩ := H
 replace H : (some t139) = some r := H
 have A2 := Aside0.mk A20
 clear A20
 obtain rfl := Option.some.inj H
 go_enter Try.func73, Try.ntmps73
 go_wp2_with (first | ((with_reducible refine gate_callee (f := 79) rfl ?_); refine goesL_ (some 4) rfl rfl Try.func79 (by kernel_rfl) rfl #[.int .i64 a0, .int .i64 0, .int .i64 100] rfl (by (try simp only [List.map_toArray, List.map_cons, List.map_nil]); first | done | rfl | (simp only [List.length_drop, List.length_take]; rfl)) ?_; (with_reducible refine (spec_l1In.calls a0 0 100 t139 _ A2.out).mono ?_); rintro e w' ⟨rfl, ⟨nd, rfl⟩⟩; refine ⟨_, rfl, ?_⟩))
 go_ret
 exact ⟨by first | rfl | (simp; done) | (simp [*]; done), by repeat (first | exact Drawn0.refl _ | apply Drawn0.step)⟩

/-! ### spec_l10Near: function 117 -/
def spec_l10Near.j0 : Nat → Bool → Int → Int → Int → Int → Int → Int → Int → Int → Option (Bool)
 | 0, _, _, _, _, _, _, _, _, _ => none
 | k + 1, x5, x141000, x141001, x141002, x141003, x142000, x142001, x142002, x142003 => if x5 = true then (some false) else (if x141002 = 0 then (some (decide (x142001 < 0))) else (if x142002 = 0 then (some (decide (x141001 > 0))) else (some (decide ((wrap64 (x141001 * x142002)) > (wrap64 (x142001 * x141002)))))))
def spec_l10Near.f (k : Nat) (a0_0 : Int) (a0_1 : Int) (a0_2 : Int) (a0_3 : Int) (a1_0 : Int) (a1_1 : Int) (a1_2 : Int) (a1_3 : Int) : Option (Bool) := if a0_2 = 0 then (spec_l10Near.j0 k (a1_2 == 0) a0_0 a0_1 a0_2 a0_3 a1_0 a1_1 a1_2 a1_3) else (spec_l10Near.j0 k false a0_0 a0_1 a0_2 a0_3 a1_0 a1_1 a1_2 a1_3)
theorem spec_l10Near.mono_l : ∀ k, (∀ y0 y1 y2 y3 y4 y5 y6 y7 y8, LeO (spec_l10Near.j0 k y0 y1 y2 y3 y4 y5 y6 y7 y8) (spec_l10Near.j0 (k + 1) y0 y1 y2 y3 y4 y5 y6 y7 y8))
 | 0 => fun _ _ _ _ _ _ _ _ _ r h => by simp [spec_l10Near.j0] at h
 | k + 1 => by
  have ih0 := spec_l10Near.mono_l k
  ·intro y0 y1 y2 y3 y4 y5 y6 y7 y8
   unfold spec_l10Near.j0
   repeat' first
   | (with_reducible exact ih0 _ _ _ _ _ _ _ _ _)
   | (with_reducible exact LeO.refl _)
   | (with_reducible exact LeO.none _)
   | (with_reducible refine LeO.ite ?_ ?_)
   | (with_reducible refine LeO.bind ?_ (fun _ => ?_))
   | exact ih0 _ _ _ _ _ _ _ _ _
   | exact LeO.none _
   | refine LeO.ite ?_ ?_
   | refine LeO.bind ?_ (fun _ => ?_)
theorem spec_l10Near.mono : ∀ a0 a1 a2 a3 a4 a5 a6 a7 k, LeO (spec_l10Near.f k a0 a1 a2 a3 a4 a5 a6 a7) (spec_l10Near.f (k + 1) a0 a1 a2 a3 a4 a5 a6 a7) := by
 intro a0 a1 a2 a3 a4 a5 a6 a7 k
 have ih0 := spec_l10Near.mono_l k
 unfold spec_l10Near.f
 repeat' first
   | (with_reducible exact ih0 _ _ _ _ _ _ _ _ _)
   | (with_reducible exact LeO.refl _)
   | (with_reducible exact LeO.none _)
   | (with_reducible refine LeO.ite ?_ ?_)
   | (with_reducible refine LeO.bind ?_ (fun _ => ?_))
   | exact ih0 _ _ _ _ _ _ _ _ _
   | exact LeO.none _
   | refine LeO.ite ?_ ?_
   | refine LeO.bind ?_ (fun _ => ?_)
set_option maxHeartbeats 8000000 in
set_option maxRecDepth 100000 in
theorem spec_l10Near.calls (k : Nat) (a0_0 : Int) (a0_1 : Int) (a0_2 : Int) (a0_3 : Int) (a1_0 : Int) (a1_1 : Int) (a1_2 : Int) (a1_3 : Int) (r : Bool) (w : World) (h : spec_l10Near.f k a0_0 a0_1 a0_2 a0_3 a1_0 a1_1 a1_2 a1_3 = some r) :
  Calls Try.prog 117 #[.agg #[.int .i64 a0_0, .int .i64 a0_1, .int .i64 a0_2, .int .i64 a0_3], .agg #[.int .i64 a1_0, .int .i64 a1_1, .int .i64 a1_2, .int .i64 a1_3]] w fun e w' => e = .returned (.bool r) ∧ Below w.heap.size w w' := by
 have hu31 := Try.underlying31
 have HB := Aside0.mk (Below.refl w.heap.size w)
 have H : (if a0_2 = 0 then (spec_l10Near.j0 k (a1_2 == 0) a0_0 a0_1 a0_2 a0_3 a1_0 a1_1 a1_2 a1_3) else (spec_l10Near.j0 k false a0_0 a0_1 a0_2 a0_3 a1_0 a1_1 a1_2 a1_3)) = some r := h
 clear h
 have HC3 := Aside0.mk H
 clear H
 go_enter Try.func117, Try.ntmps117
 go_upto_region 1 with (first | ((with_reducible refine gate_dst (N := 2) rfl ?_); refine box_event ?hg (N := 2) ?hd (cs := #[.int .i64 a0_0, .int .i64 a0_1, .int .i64 a0_2, .int .i64 a0_3]) (t := 31) ?hr ?_; (case hd => rfl); (case hg => rfl); (case hr => first | (go_simp; done) | (go_simp; rfl)); intro gb140 hg w4 hbox hb; have n0_ := z_bs HB hb; have n1_ := Aside0.mk (hbox); have n2_ := z_gw HB hg; have n3_ := z_gw HB hg; clear HB; have HB := n0_; have BK140 := n1_; have GW140 := n2_; have GE140 := n3_; clear n0_ n1_ n2_ n3_; clear hb hbox hg) | ((with_reducible refine gate_dst (N := 3) rfl ?_); refine box_event ?hg (N := 3) ?hd (cs := #[.int .i64 a1_0, .int .i64 a1_1, .int .i64 a1_2, .int .i64 a1_3]) (t := 31) ?hr ?_; (case hd => rfl); (case hg => rfl); (case hr => first | (go_simp; done) | (go_simp; rfl)); intro gb141 hg w5 hbox hb; have n0_ := z_bk BK140 hb; have n1_ := z_bs HB hb; have n2_ := Aside0.mk (hbox); have n3_ := z_gw HB hg; have n4_ := z_gw HB hg; have n5_ := z_nl BK140 hg; have n6_ := z_ng BK140 hg; clear BK140; clear HB; have BK140 := n0_; have HB := n1_; have BK141 := n2_; have GW141 := n3_; have GE141 := n4_; have NB140_141 := n5_; have NB141_140 := n6_; clear n0_ n1_ n2_ n3_ n4_ n5_ n6_; clear hb hbox hg))
 (try simp only [Act.put, List.setIfInBounds_toArray, List.set_cons_zero, List.set_cons_succ])
 go_cut [5] (fun v5 wc => ∃ (kq : Nat) (x5_2 : Bool), v5 = .bool x5_2 ∧ Aside0 (spec_l10Near.j0 kq x5_2 a0_0 a0_1 a0_2 a0_3 a1_0 a1_1 a1_2 a1_3 = some r) ∧ Aside0 (kq ≤ k) ∧ Aside0 (wc.heap[gb140]? = some (.cells #[.int .i64 a0_0, .int .i64 a0_1, .int .i64 a0_2, .int .i64 a0_3] 31 (0, 0))) ∧ Aside0 (wc.heap[gb141]? = some (.cells #[.int .i64 a1_0, .int .i64 a1_1, .int .i64 a1_2, .int .i64 a1_3] 31 (0, 0))) ∧ Aside0 (Below w.heap.size w wc))
 case first =>
  have H := HC3.out
  clear HC3
  by_cases c6 : a0_2 = 0
  ·rw [if_pos c6] at H
   have c6b0 : (a0_2 == 0) = true := beq_iff_eq.mpr c6
   have c6b1 : (a0_2 != 0) = false := bne_eq_false_iff_eq.mpr c6
   clear c6
   (first | rw [c6b0] | (simp only [i64_w, i32_w]; rw [c6b0]) | skip)
   have H' := Aside0.mk H
   clear H
   have hnb7 := NB140_141.out
   have hnc7 := NB141_140.out
   have hcz8_0 : w5.cell? ⟨gb140, 0, none⟩ = some (.int .i64 a0_0) := z_c BK140 0
   have hcz8_1 : w5.cell? ⟨gb140, 1, none⟩ = some (.int .i64 a0_1) := z_c BK140 1
   have hcz8_2 : w5.cell? ⟨gb140, 2, none⟩ = some (.int .i64 a0_2) := z_c BK140 2
   have hcz8_3 : w5.cell? ⟨gb140, 3, none⟩ = some (.int .i64 a0_3) := z_c BK140 3
   have hfz8_0 := blk_frozen BK140.out 0
   have hfz8_1 := blk_frozen BK140.out 1
   have hfz8_2 := blk_frozen BK140.out 2
   have hfz8_3 := blk_frozen BK140.out 3
   have hcz9_0 : w5.cell? ⟨gb141, 0, none⟩ = some (.int .i64 a1_0) := z_c BK141 0
   have hcz9_1 : w5.cell? ⟨gb141, 1, none⟩ = some (.int .i64 a1_1) := z_c BK141 1
   have hcz9_2 : w5.cell? ⟨gb141, 2, none⟩ = some (.int .i64 a1_2) := z_c BK141 2
   have hcz9_3 : w5.cell? ⟨gb141, 3, none⟩ = some (.int .i64 a1_3) := z_c BK141 3
   have hfz9_0 := blk_frozen BK141.out 0
   have hfz9_1 := blk_frozen BK141.out 1
   have hfz9_2 := blk_frozen BK141.out 2
   have hfz9_3 := blk_frozen BK141.out 3
   go_wp2
   go_meet
   case rel => exact ⟨_, ((a1_2 == 0)), (by first | rfl | (simp; done) | (simp [*]; done)), H', ⟨by first | omega | exact Nat.le_refl _⟩, ⟨by (with_reducible repeat (first | refine blk_drewN ?_ _ | refine blk_drew ?_ | refine blk_alloc ?_ _)); exact BK140.out⟩, ⟨by (with_reducible repeat (first | refine blk_drewN ?_ _ | refine blk_drew ?_ | refine blk_alloc ?_ _)); exact BK141.out⟩, ⟨blw⟩⟩
  ·rw [if_neg c6] at H
   have c6b0 : (a0_2 == 0) = false := beq_eq_false_iff_ne.mpr c6
   have c6b1 : (a0_2 != 0) = true := bne_iff_ne.mpr c6
   (first | rw [c6b0] | (simp only [i64_w, i32_w]; rw [c6b0]) | skip)
   have H' := Aside0.mk H
   clear H
   have hnb10 := NB140_141.out
   have hnc10 := NB141_140.out
   have hcz11_0 : w5.cell? ⟨gb140, 0, none⟩ = some (.int .i64 a0_0) := z_c BK140 0
   have hcz11_1 : w5.cell? ⟨gb140, 1, none⟩ = some (.int .i64 a0_1) := z_c BK140 1
   have hcz11_2 : w5.cell? ⟨gb140, 2, none⟩ = some (.int .i64 a0_2) := z_c BK140 2
   have hcz11_3 : w5.cell? ⟨gb140, 3, none⟩ = some (.int .i64 a0_3) := z_c BK140 3
   have hfz11_0 := blk_frozen BK140.out 0
   have hfz11_1 := blk_frozen BK140.out 1
   have hfz11_2 := blk_frozen BK140.out 2
   have hfz11_3 := blk_frozen BK140.out 3
   go_wp2
   go_meet
   case rel => exact ⟨_, (false), (by first | rfl | (simp; done) | (simp [*]; done)), H', ⟨by first | omega | exact Nat.le_refl _⟩, ⟨by (with_reducible repeat (first | refine blk_drewN ?_ _ | refine blk_drew ?_ | refine blk_alloc ?_ _)); exact BK140.out⟩, ⟨by (with_reducible repeat (first | refine blk_drewN ?_ _ | refine blk_drew ?_ | refine blk_alloc ?_ _)); exact BK141.out⟩, ⟨blw⟩⟩
 case rest =>
  clear HC3
  try clear c1
  try clear p2
  try clear c6
  try clear c6b0
  try clear c6b1
  try clear c7
  try clear c10
  try clear c11
  try clear hcz11_0
  try clear hcz11_1
  try clear hcz11_2
  try clear hcz11_3
  try clear hcz8_0
  try clear hcz8_1
  try clear hcz8_2
  try clear hcz8_3
  try clear hcz9_0
  try clear hcz9_1
  try clear hcz9_2
  try clear hcz9_3
  try clear hfz11_0
  try clear hfz11_1
  try clear hfz11_2
  try clear hfz11_3
  try clear hfz8_0
  try clear hfz8_1
  try clear hfz8_2
  try clear hfz8_3
  try clear hfz9_0
  try clear hfz9_1
  try clear hfz9_2
  try clear hfz9_3
  obtain ⟨kq, x5_2, rfl, HA, HJ2, BK140, BK141, HB⟩ := hcut
  cases kq with
  | zero => exact absurd HA.out (by simp [spec_l10Near.j0])
  | succ kj2 =>
   have H := HA.out
   clear HA
   simp only [spec_l10Near.j0] at H
   by_cases c12 : x5_2 = true
   ·subst c12
    have H1 : (some false) = some r := by rw [if_pos rfl] at H; exact H
    clear H
    have H := H1
    clear H1
    obtain rfl := Option.some.inj H
    go_wp2
    go_ret
    exact ⟨by first | rfl | (simp [errW_none, errW_some] <;> rfl) | (simp [*, errW_none, errW_some] <;> rfl), blw⟩
   ·replace c12 := Bool.eq_false_iff.mpr c12
    subst c12
    have H1 : (if a0_2 = 0 then (some (decide (a1_1 < 0))) else (if a1_2 = 0 then (some (decide (a0_1 > 0))) else (some (decide ((wrap64 (a0_1 * a1_2)) > (wrap64 (a1_1 * a0_2))))))) = some r := by rw [if_neg (show ¬ (false = true) by decide)] at H; exact H
    clear H
    have H := H1
    clear H1
    by_cases c13 : a0_2 = 0
    ·rw [if_pos c13] at H
     have c13b0 : (a0_2 == 0) = true := beq_iff_eq.mpr c13
     have c13b1 : (a0_2 != 0) = false := bne_eq_false_iff_eq.mpr c13
     clear c13
     obtain rfl := Option.some.inj H
     have hnb14 := NB140_141.out
     have hnc14 := NB141_140.out
     have hcz15_0 : wc.cell? ⟨gb140, 0, none⟩ = some (.int .i64 a0_0) := z_c BK140 0
     have hcz15_1 : wc.cell? ⟨gb140, 1, none⟩ = some (.int .i64 a0_1) := z_c BK140 1
     have hcz15_2 : wc.cell? ⟨gb140, 2, none⟩ = some (.int .i64 a0_2) := z_c BK140 2
     have hcz15_3 : wc.cell? ⟨gb140, 3, none⟩ = some (.int .i64 a0_3) := z_c BK140 3
     have hfz15_0 := blk_frozen BK140.out 0
     have hfz15_1 := blk_frozen BK140.out 1
     have hfz15_2 := blk_frozen BK140.out 2
     have hfz15_3 := blk_frozen BK140.out 3
     have hcz16_0 : wc.cell? ⟨gb141, 0, none⟩ = some (.int .i64 a1_0) := z_c BK141 0
     have hcz16_1 : wc.cell? ⟨gb141, 1, none⟩ = some (.int .i64 a1_1) := z_c BK141 1
     have hcz16_2 : wc.cell? ⟨gb141, 2, none⟩ = some (.int .i64 a1_2) := z_c BK141 2
     have hcz16_3 : wc.cell? ⟨gb141, 3, none⟩ = some (.int .i64 a1_3) := z_c BK141 3
     have hfz16_0 := blk_frozen BK141.out 0
     have hfz16_1 := blk_frozen BK141.out 1
     have hfz16_2 := blk_frozen BK141.out 2
     have hfz16_3 := blk_frozen BK141.out 3
     go_wp2
     go_ret
     exact ⟨by first | rfl | (simp [errW_none, errW_some] <;> rfl) | (simp [*, errW_none, errW_some] <;> rfl), blw⟩
    ·rw [if_neg c13] at H
     have c13b0 : (a0_2 == 0) = false := beq_eq_false_iff_ne.mpr c13
     have c13b1 : (a0_2 != 0) = true := bne_iff_ne.mpr c13
     by_cases c17 : a1_2 = 0
     ·rw [if_pos c17] at H
      have c17b0 : (a1_2 == 0) = true := beq_iff_eq.mpr c17
      have c17b1 : (a1_2 != 0) = false := bne_eq_false_iff_eq.mpr c17
      clear c17
      obtain rfl := Option.some.inj H
      have hnb18 := NB140_141.out
      have hnc18 := NB141_140.out
      have hcz19_0 : wc.cell? ⟨gb140, 0, none⟩ = some (.int .i64 a0_0) := z_c BK140 0
      have hcz19_1 : wc.cell? ⟨gb140, 1, none⟩ = some (.int .i64 a0_1) := z_c BK140 1
      have hcz19_2 : wc.cell? ⟨gb140, 2, none⟩ = some (.int .i64 a0_2) := z_c BK140 2
      have hcz19_3 : wc.cell? ⟨gb140, 3, none⟩ = some (.int .i64 a0_3) := z_c BK140 3
      have hfz19_0 := blk_frozen BK140.out 0
      have hfz19_1 := blk_frozen BK140.out 1
      have hfz19_2 := blk_frozen BK140.out 2
      have hfz19_3 := blk_frozen BK140.out 3
      have hcz20_0 : wc.cell? ⟨gb141, 0, none⟩ = some (.int .i64 a1_0) := z_c BK141 0
      have hcz20_1 : wc.cell? ⟨gb141, 1, none⟩ = some (.int .i64 a1_1) := z_c BK141 1
      have hcz20_2 : wc.cell? ⟨gb141, 2, none⟩ = some (.int .i64 a1_2) := z_c BK141 2
      have hcz20_3 : wc.cell? ⟨gb141, 3, none⟩ = some (.int .i64 a1_3) := z_c BK141 3
      have hfz20_0 := blk_frozen BK141.out 0
      have hfz20_1 := blk_frozen BK141.out 1
      have hfz20_2 := blk_frozen BK141.out 2
      have hfz20_3 := blk_frozen BK141.out 3
      go_wp2
      go_ret
      exact ⟨by first | rfl | (simp [errW_none, errW_some] <;> rfl) | (simp [*, errW_none, errW_some] <;> rfl), blw⟩
     ·rw [if_neg c17] at H
      have c17b0 : (a1_2 == 0) = false := beq_eq_false_iff_ne.mpr c17
      have c17b1 : (a1_2 != 0) = true := bne_iff_ne.mpr c17
      obtain rfl := Option.some.inj H
      have hnb21 := NB140_141.out
      have hnc21 := NB141_140.out
      have hcz22_0 : wc.cell? ⟨gb140, 0, none⟩ = some (.int .i64 a0_0) := z_c BK140 0
      have hcz22_1 : wc.cell? ⟨gb140, 1, none⟩ = some (.int .i64 a0_1) := z_c BK140 1
      have hcz22_2 : wc.cell? ⟨gb140, 2, none⟩ = some (.int .i64 a0_2) := z_c BK140 2
      have hcz22_3 : wc.cell? ⟨gb140, 3, none⟩ = some (.int .i64 a0_3) := z_c BK140 3
      have hfz22_0 := blk_frozen BK140.out 0
      have hfz22_1 := blk_frozen BK140.out 1
      have hfz22_2 := blk_frozen BK140.out 2
      have hfz22_3 := blk_frozen BK140.out 3
      have hcz23_0 : wc.cell? ⟨gb141, 0, none⟩ = some (.int .i64 a1_0) := z_c BK141 0
      have hcz23_1 : wc.cell? ⟨gb141, 1, none⟩ = some (.int .i64 a1_1) := z_c BK141 1
      have hcz23_2 : wc.cell? ⟨gb141, 2, none⟩ = some (.int .i64 a1_2) := z_c BK141 2
      have hcz23_3 : wc.cell? ⟨gb141, 3, none⟩ = some (.int .i64 a1_3) := z_c BK141 3
      have hfz23_0 := blk_frozen BK141.out 0
      have hfz23_1 := blk_frozen BK141.out 1
      have hfz23_2 := blk_frozen BK141.out 2
      have hfz23_3 := blk_frozen BK141.out 3
      go_wp2
      go_ret
      exact ⟨by first | rfl | (simp [errW_none, errW_some] <;> rfl) | (simp [*, errW_none, errW_some] <;> rfl), blw⟩

end Go.Proofs.Ytlijlailbjjfbaa.PFnExactStepIslands
