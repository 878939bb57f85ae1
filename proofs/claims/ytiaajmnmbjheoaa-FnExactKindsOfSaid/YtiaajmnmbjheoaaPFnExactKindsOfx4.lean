/- The machine's side of a law, function by function: a Lean function with the Go function's answers and the proof that the Go code comes to them. No condition. Written by this session's program over the kit's print, this session's own contracts set in. -/
import Derived.Test.YtiaajmnmbjheoaaPFnExactKindsOfx0
import Derived.Test.YtiaajmnmbjheoaaPFnExactKindsOfx2
import Derived.Test.YtiaajmnmbjheoaaPFnExactKindsOfx3
namespace Go.Proofs.Ytiaajmnmbjheoaa.PFnExactKindsOf
open Go.RowKit Go.Proofs.YtiaajmnmbjheoaaW.PrintWords Go.Proofs.YtiaajmnmbjheoaaW.PrintLast Go.Proofs.YtiaajmnmbjheoaaW.PrintMore
attribute [local go_sem] max2_int min2_int max_two min_two max_three min_three max_four min_four   -- for this text's walks alone
set_option linter.unusedVariables false
set_option linter.unusedSimpArgs false

/-! ### spec_KindsOf: function 8 -/
mutual
def spec_KindsOf.l0 : Nat → List (S76) → List (S69) → Int → Int → Option ((List (S76)) × Bool)
 | 0, _, _, _, _ => none
 | k + 1, x4, x16, x17, x18 => if x18 < x17 then (if 0 ≤ x18 then (if x18 < (x16.length : Int) then (spec_KindsOf.l1 k x4 ([] : List ByteArray) x16 x17 x18 ((rd_T69 x16 x18).f1) (((rd_T69 x16 x18).f1).length : Int) 0 ((rd_T69 x16 x18).f0) ((rd_T69 x16 x18).f1)) else (none)) else (none)) else (some (x4, true))
def spec_KindsOf.l1 : Nat → List (S76) → List ByteArray → List (S69) → Int → Int → List (S72) → Int → Int → Int → List (S72) → Option ((List (S76)) × Bool)
 | 0, _, _, _, _, _, _, _, _, _, _ => none
 | k + 1, x4, x7, x16, x17, x18, x23, x24, x25, x133000, x133001 => if x25 < x24 then (if 0 ≤ x25 then (if x25 < (x23.length : Int) then (if x7.length < 8796093022208 then (spec_KindsOf.l1 k x4 (x7 ++ [(rd_T72 x23 x25).f0]) x16 x17 x18 x23 x24 (wrap64 (x25 + 1)) x133000 x133001) else (none)) else (none)) else (none)) else (spec_KindsOf.l2 k x4 x7 0 x16 x17 x18 x133000 x133001)
def spec_KindsOf.l2 : Nat → List (S76) → List ByteArray → Int → List (S69) → Int → Int → Int → List (S72) → Option ((List (S76)) × Bool)
 | 0, _, _, _, _, _, _, _, _ => none
 | k + 1, x4, x7, x10, x16, x17, x18, x133000, x133001 => if x10 < (x4.length : Int) then (if 0 ≤ x10 then ((spec_l3Cmp.f k ((rd_T76 x4 x10).f0) x7).bind fun t139 => (if t139 < 0 then (spec_KindsOf.l2 k x4 x7 (wrap64 (x10 + 1)) x16 x17 x18 x133000 x133001) else ((spec_l3Cmp.f k ((rd_T76 x4 x10).f0) x7).bind fun t141 => (if t141 = 0 then (if ((rd_T76 x4 x10).f1).length < 17592186044416 then (spec_KindsOf.l0 k (x4.set (x10 : Int).toNat (⟨(rd_T76 x4 x10).f0, (((rd_T76 x4 x10).f1) ++ [x133000])⟩ : S76)) x16 x17 (wrap64 (x18 + 1))) else (none)) else (if x10 ≤ (x4.length : Int) then (if x4.length < 2932031007402 then (spec_KindsOf.l0 k (x4.take (x10 : Int).toNat ++ [(⟨x7, (([x133000] : List Int))⟩ : S76)] ++ x4.drop (x10 : Int).toNat) x16 x17 (wrap64 (x18 + 1))) else (none)) else (none)))))) else (none)) else (if 0 ≤ x10 then (if x10 ≤ (x4.length : Int) then (if x4.length < 2932031007402 then (spec_KindsOf.l0 k (x4.take (x10 : Int).toNat ++ [(⟨x7, (([x133000] : List Int))⟩ : S76)] ++ x4.drop (x10 : Int).toNat) x16 x17 (wrap64 (x18 + 1))) else (none)) else (none)) else (none))
end
def spec_KindsOf.f (k : Nat) (a0_0 : Int) (a0_1 : Int) (l0_2 : List (S69)) : Option ((List (S76)) × Bool) := (spec_GoodWorld.f k a0_0 a0_1 l0_2).bind fun t130 => (if t130 = true then (spec_KindsOf.l0 k ([] : List (S76)) l0_2 (l0_2.length : Int) 0) else (some (([] : List (S76)), false)))
theorem spec_KindsOf.mono_l : ∀ k, (∀ y0 y1 y2 y3, LeO (spec_KindsOf.l0 k y0 y1 y2 y3) (spec_KindsOf.l0 (k + 1) y0 y1 y2 y3)) ∧ (∀ y0 y1 y2 y3 y4 y5 y6 y7 y8 y9, LeO (spec_KindsOf.l1 k y0 y1 y2 y3 y4 y5 y6 y7 y8 y9) (spec_KindsOf.l1 (k + 1) y0 y1 y2 y3 y4 y5 y6 y7 y8 y9)) ∧ (∀ y0 y1 y2 y3 y4 y5 y6 y7, LeO (spec_KindsOf.l2 k y0 y1 y2 y3 y4 y5 y6 y7) (spec_KindsOf.l2 (k + 1) y0 y1 y2 y3 y4 y5 y6 y7))
 | 0 => ⟨fun _ _ _ _ r h => by simp [spec_KindsOf.l0] at h, fun _ _ _ _ _ _ _ _ _ _ r h => by simp [spec_KindsOf.l1] at h, fun _ _ _ _ _ _ _ _ r h => by simp [spec_KindsOf.l2] at h⟩
 | k + 1 => by
  obtain ⟨ih0, ih1, ih2⟩ := spec_KindsOf.mono_l k
  refine ⟨?_, ?_, ?_⟩
  ·intro y0 y1 y2 y3
   unfold spec_KindsOf.l0
   repeat' first
   | (with_reducible exact ih0 _ _ _ _)
   | (with_reducible exact ih1 _ _ _ _ _ _ _ _ _ _)
   | (with_reducible exact ih2 _ _ _ _ _ _ _ _)
   | (with_reducible exact spec_GoodWorld.mono _ _ _ _)
   | (with_reducible exact spec_l3Cmp.mono _ _ _)
   | (with_reducible exact LeO.refl _)
   | (with_reducible exact LeO.none _)
   | (with_reducible refine LeO.ite ?_ ?_)
   | (with_reducible refine LeO.bind ?_ (fun _ => ?_))
   | exact ih0 _ _ _ _
   | exact ih1 _ _ _ _ _ _ _ _ _ _
   | exact ih2 _ _ _ _ _ _ _ _
   | exact spec_GoodWorld.mono _ _ _ _
   | exact spec_l3Cmp.mono _ _ _
   | exact LeO.none _
   | refine LeO.ite ?_ ?_
   | refine LeO.bind ?_ (fun _ => ?_)
  ·intro y0 y1 y2 y3 y4 y5 y6 y7 y8 y9
   unfold spec_KindsOf.l1
   repeat' first
   | (with_reducible exact ih0 _ _ _ _)
   | (with_reducible exact ih1 _ _ _ _ _ _ _ _ _ _)
   | (with_reducible exact ih2 _ _ _ _ _ _ _ _)
   | (with_reducible exact spec_GoodWorld.mono _ _ _ _)
   | (with_reducible exact spec_l3Cmp.mono _ _ _)
   | (with_reducible exact LeO.refl _)
   | (with_reducible exact LeO.none _)
   | (with_reducible refine LeO.ite ?_ ?_)
   | (with_reducible refine LeO.bind ?_ (fun _ => ?_))
   | exact ih0 _ _ _ _
   | exact ih1 _ _ _ _ _ _ _ _ _ _
   | exact ih2 _ _ _ _ _ _ _ _
   | exact spec_GoodWorld.mono _ _ _ _
   | exact spec_l3Cmp.mono _ _ _
   | exact LeO.none _
   | refine LeO.ite ?_ ?_
   | refine LeO.bind ?_ (fun _ => ?_)
  ·intro y0 y1 y2 y3 y4 y5 y6 y7
   unfold spec_KindsOf.l2
   repeat' first
   | (with_reducible exact ih0 _ _ _ _)
   | (with_reducible exact ih1 _ _ _ _ _ _ _ _ _ _)
   | (with_reducible exact ih2 _ _ _ _ _ _ _ _)
   | (with_reducible exact spec_GoodWorld.mono _ _ _ _)
   | (with_reducible exact spec_l3Cmp.mono _ _ _)
   | (with_reducible exact LeO.refl _)
   | (with_reducible exact LeO.none _)
   | (with_reducible refine LeO.ite ?_ ?_)
   | (with_reducible refine LeO.bind ?_ (fun _ => ?_))
   | exact ih0 _ _ _ _
   | exact ih1 _ _ _ _ _ _ _ _ _ _
   | exact ih2 _ _ _ _ _ _ _ _
   | exact spec_GoodWorld.mono _ _ _ _
   | exact spec_l3Cmp.mono _ _ _
   | exact LeO.none _
   | refine LeO.ite ?_ ?_
   | refine LeO.bind ?_ (fun _ => ?_)
theorem spec_KindsOf.mono : ∀ a0 a1 a2 k, LeO (spec_KindsOf.f k a0 a1 a2) (spec_KindsOf.f (k + 1) a0 a1 a2) := by
 intro a0 a1 a2 k
 obtain ⟨ih0, ih1, ih2⟩ := spec_KindsOf.mono_l k
 unfold spec_KindsOf.f
 repeat' first
   | (with_reducible exact ih0 _ _ _ _)
   | (with_reducible exact ih1 _ _ _ _ _ _ _ _ _ _)
   | (with_reducible exact ih2 _ _ _ _ _ _ _ _)
   | (with_reducible exact spec_GoodWorld.mono _ _ _ _)
   | (with_reducible exact spec_l3Cmp.mono _ _ _)
   | (with_reducible exact LeO.refl _)
   | (with_reducible exact LeO.none _)
   | (with_reducible refine LeO.ite ?_ ?_)
   | (with_reducible refine LeO.bind ?_ (fun _ => ?_))
   | exact ih0 _ _ _ _
   | exact ih1 _ _ _ _ _ _ _ _ _ _
   | exact ih2 _ _ _ _ _ _ _ _
   | exact spec_GoodWorld.mono _ _ _ _
   | exact spec_l3Cmp.mono _ _ _
   | exact LeO.none _
   | refine LeO.ite ?_ ?_
   | refine LeO.bind ?_ (fun _ => ?_)
def spec_KindsOf.T17 : Bool × List (List Nat × List Nat) := (true, [([], []), ([], []), ([], []), ([], []), ([2, 3], [2, 3]), ([4], [4]), ([5], [5]), ([], []), ([7], [7]), ([8], [8]), ([6, 9], [6, 9]), ([0, 1, 0, 1, 2, 3, 4, 5, 6, 7, 8, 9, 10], [0, 1]), ([11, 0, 1, 2, 3, 4, 5, 6, 7, 8, 9, 10], [11]), ([12, 10, 10, 0, 1, 2, 3, 4, 5, 6, 7, 8, 9, 10], [10, 12])])
def spec_KindsOf.B17 : List Nat := [0, 0, 0, 0, 12, 28, 60, 0, 128, 384, 1020, 2047, 4095, 8191]
theorem spec_KindsOf.tab17 : rtab .any (opsOf Try.f8 17) = spec_KindsOf.T17 := by kernel_rfl
theorem spec_KindsOf.bits17 : waitsOk spec_KindsOf.T17.2 spec_KindsOf.B17 = true := by kernel_rfl
set_option maxHeartbeats 8000000 in
set_option maxRecDepth 100000 in
theorem spec_KindsOf.calls (k : Nat) (a0_0 : Int) (a0_1 : Int) (A0_2 : Option Addr) (c0_2 : Nat) (l0_2 : List (S69)) (r1 : List (S76)) (r2 : Bool) (w : World) (hr0_2 : Kd.C k69 w A0_2 l0_2.length l0_2) (hc0_2 : l0_2.length ≤ c0_2) (h : spec_KindsOf.f k a0_0 a0_1 l0_2 = some (r1, r2)) :
  Calls Try.prog 8 #[.agg #[.int .i64 a0_0, .int .i64 a0_1, .slice A0_2 l0_2.length c0_2]] w fun e w' => ∃ v0_ : Value, e = .returned (.tuple #[v0_, .bool r2]) ∧ Kd.S k76 76 w' w.heap.size (fun _ => True) v0_ r1 ∧ Below w.heap.size w w' := by
 have hu31 := Try.underlying31
 have hu69 := Try.underlying69
 have hu72 := Try.underlying72
 have hu76 := Try.underlying76
 have HR0_2 := Aside0.mk hr0_2
 have HC0_2 := Aside0.mk hc0_2
 clear hr0_2 hc0_2
 have HB := Aside0.mk (Below.refl w.heap.size w)
 have H : ((spec_GoodWorld.f k a0_0 a0_1 l0_2).bind fun t130 => (if t130 = true then (spec_KindsOf.l0 k ([] : List (S76)) l0_2 (l0_2.length : Int) 0) else (some (([] : List (S76)), false)))) = some (r1, r2) := h
 clear h
 replace H := Option.bind_eq_some_iff.mp H
 obtain ⟨t130, A20, H⟩ := H
 replace H : (if t130 = true then (spec_KindsOf.l0 k ([] : List (S76)) l0_2 (l0_2.length : Int) 0) else (some (([] : List (S76)), false))) = some (r1, r2) := H
 have A2 := Aside0.mk A20
 clear A20
 by_cases c3 : t130 = true
 ·subst c3
  have H1 : (spec_KindsOf.l0 k ([] : List (S76)) l0_2 (l0_2.length : Int) 0) = some (r1, r2) := by rw [if_pos rfl] at H; exact H
  clear H
  have H := H1
  clear H1
  have H' := Aside0.mk H
  clear H
  go_enter Try.func8, Try.ntmps8
  go_wp2_with (first | ((with_reducible refine gate_dst (N := 1) rfl ?_); refine box_event ?hg (N := 1) ?hd (cs := #[.int .i64 a0_0, .int .i64 a0_1, .slice A0_2 l0_2.length c0_2]) (t := 31) ?hr ?_; (case hd => rfl); (case hg => rfl); (case hr => first | (go_simp; done) | (go_simp; rfl)); intro gb129 hg w4 hbox hb; have n0_ := Aside0.mk (below_step blw hb); have n1_ := Aside0.mk (hbox); have n2_ := Aside0.mk ((by rw [hg]; exact (below_size blw) : w.heap.size ≤ gb129)); have n3_ := Aside0.mk ((by rw [hg]; exact (below_size blw) : w.heap.size ≤ gb129)); clear HB; have HB := n0_; have BK129 := n1_; have GW129 := n2_; have GE129 := n3_; clear n0_ n1_ n2_ n3_; clear hb hbox hg; have hcz5_0 : w4.cell? ⟨gb129, 0, none⟩ = some (.int .i64 a0_0) := (blk_cell BK129.out 0).trans rfl; have hcz5_1 : w4.cell? ⟨gb129, 1, none⟩ = some (.int .i64 a0_1) := (blk_cell BK129.out 1).trans rfl; have hcz5_2 : w4.cell? ⟨gb129, 2, none⟩ = some (.slice A0_2 l0_2.length c0_2) := (blk_cell BK129.out 2).trans rfl; have hfz5_0 := blk_frozen BK129.out 0; have hfz5_1 := blk_frozen BK129.out 1; have hfz5_2 := blk_frozen BK129.out 2) | ((with_reducible refine gate_callee (f := 38) rfl ?_); refine goesL_ (some 13) rfl rfl Try.func38 (by kernel_rfl) rfl #[.agg #[.int .i64 a0_0, .int .i64 a0_1, .slice A0_2 l0_2.length c0_2]] rfl (by (try simp only [List.map_toArray, List.map_cons, List.map_nil]); first | done | rfl | (simp only [List.length_drop, List.length_take]; rfl)) ?_; (with_reducible refine (spec_GoodWorld.calls k a0_0 a0_1 _ _ l0_2 true _ ?side1 ?side2 A2.out).mono ?_); (case side1 => repeat (first | exact (Kd.C_below HR0_2.out HB.out) | (with_reducible refine Kd.C_alloc ?_ _) | (with_reducible refine Kd.C_drewN ?_ _) | (with_reducible refine Kd.C_drew ?_))); (case side2 => exact HC0_2.out); rintro e w6 ⟨rfl, hb⟩; refine ⟨_, rfl, ?_⟩; have n0_ := Aside0.mk (blk_below (g := gb129) (o := .cells #[.int .i64 a0_0, .int .i64 a0_1, .slice A0_2 l0_2.length c0_2] 31 (0, 0)) bkw hb); have n1_ := Aside0.mk (below_step blw hb); clear BK129; clear HB; have BK129 := n0_; have HB := n1_; clear n0_ n1_; (try clear hb); (try clear hb2); (try clear hk); (try clear hi); have hcz7_0 : w6.cell? ⟨gb129, 0, none⟩ = some (.int .i64 a0_0) := (blk_cell BK129.out 0).trans rfl; have hcz7_1 : w6.cell? ⟨gb129, 1, none⟩ = some (.int .i64 a0_1) := (blk_cell BK129.out 1).trans rfl; have hcz7_2 : w6.cell? ⟨gb129, 2, none⟩ = some (.slice A0_2 l0_2.length c0_2) := (blk_cell BK129.out 2).trans rfl; have hfz7_0 := blk_frozen BK129.out 0; have hfz7_1 := blk_frozen BK129.out 1; have hfz7_2 := blk_frozen BK129.out 2))
  go_loopg [4, 18] k (fun kq v4 v18 w' => ∃ (x4_1 : List (S76)) (x18_1 : Int), v18 = .int .i64 x18_1 ∧ Aside0 (spec_KindsOf.l0 kq x4_1 l0_2 (l0_2.length : Int) x18_1 = some (r1, r2)) ∧ Aside0 (kq ≤ k) ∧ Aside0 (Kd.S k76 76 w' w.heap.size (fun _ => True) v4 x4_1) ∧ Aside0 (w'.heap[gb129]? = some (.cells #[.int .i64 a0_0, .int .i64 a0_1, (.slice A0_2 l0_2.length c0_2)] 31 (0, 0))) ∧ Aside0 (Below w.heap.size w w'))
  case atStart => exact ⟨(([] : List (S76))), (0), (by first | rfl | (simp; done) | (simp [*]; done)), H', ⟨Nat.le_refl _⟩, ⟨by first | exact Kd.S_nil _ _ _ _ _ | exact Kd.N_nil _ _ _ _ _ | exact Kd.V_nil _ _ _ _ _ | exact Kd.Q_nil _ _ _ _ _ | exact Kd.R_nil _ _ _ _ _⟩, ⟨by (with_reducible repeat (first | refine blk_drewN ?_ _ | refine blk_drew ?_ | refine blk_alloc ?_ _)); exact BK129.out⟩, ⟨blw⟩⟩
  case round =>
   clear H'
   try clear p2
   try clear c3
   try clear hcz5_0
   try clear hcz5_1
   try clear hcz5_2
   try clear hcz7_0
   try clear hcz7_1
   try clear hcz7_2
   try clear hfz5_0
   try clear hfz5_1
   try clear hfz5_2
   try clear hfz7_0
   try clear hfz7_1
   try clear hfz7_2
   obtain ⟨x4_1, x18_1, rfl, HA, HK1, HO_4, BK129, HB⟩ := hrel
   cases gk with
   | zero => exact absurd HA.out (by simp [spec_KindsOf.l0])
   | succ k1 =>
    have H := HA.out
    clear HA
    simp only [spec_KindsOf.l0] at H
    by_cases c8 : x18_1 < (l0_2.length : Int)
    ·rw [if_pos c8] at H
     have c8b0 : decide (x18_1 < (l0_2.length : Int)) = true := decide_eq_true c8
     clear c8
     by_cases c9 : 0 ≤ x18_1
     ·rw [if_pos c9] at H
      have c9b0 : decide (0 ≤ x18_1) = true := decide_eq_true c9
      clear c9
      by_cases c10 : x18_1 < (l0_2.length : Int)
      ·rw [if_pos c10] at H
       have c10b0 : decide (x18_1 < (l0_2.length : Int)) = true := decide_eq_true c10
       clear c10
       have H' := Aside0.mk H
       clear H
       have p131 : 0 ≤ (x18_1 : Int) := odt
       have q131 : x18_1 < (l0_2.length : Int) := odt
       obtain ⟨ad131, A131_1, c131_1, e131, hx131_0, hx131_1, hl131_1, hi131_1⟩ := at_T69 HR0_2.out x18_1 p131 q131
       cases e131
       replace hx131_0 := (HB.out.cell (World.block_lt_of_cell? w _ hx131_0)).trans hx131_0
       replace hx131_1 := (HB.out.cell (World.block_lt_of_cell? w _ hx131_1)).trans hx131_1
       have HR131_1 := Aside0.mk hi131_1
       have HC131_1 := Aside0.mk hl131_1
       clear hi131_1 hl131_1
       replace p131 := eq_true p131
       replace q131 := eq_true q131
       go_wp2_with (first | ((with_reducible refine gate_dst (N := 6) rfl ?_); refine box_event ?hg (N := 6) ?hd (cs := #[.int .i64 0, .slice none 0 0]) (t := 69) ?hr ?_; (case hd => rfl); (case hg => rfl); (case hr => first | (go_simp; done) | (go_simp; rfl)); intro gb132 hg w11 hbox hb; have n0_ := Aside0.mk (Kd.S_below (by (with_reducible repeat (first | apply Kd.S_alloc | apply Kd.S_drewN | apply Kd.S_drew)); exact HO_4.out) hb); have n1_ := Aside0.mk (blk_below (g := gb129) (o := .cells #[.int .i64 a0_0, .int .i64 a0_1, .slice (some ad131) l0_2.length c0_2] 31 (0, 0)) bkw hb); have n2_ := Aside0.mk (below_step blw hb); have n3_ := Aside0.mk (hbox); have n4_ := Aside0.mk ((by rw [hg]; exact (below_size blw) : w.heap.size ≤ gb132)); have n5_ := Aside0.mk ((by rw [hg]; exact (below_size blw) : w.heap.size ≤ gb132)); have n6_ := Aside0.mk ((by rw [hg]; exact Nat.ne_of_lt (blk_lt (g := gb129) (o := .cells #[.int .i64 a0_0, .int .i64 a0_1, .slice (some ad131) l0_2.length c0_2] 31 (0, 0)) bkw) : gb129 ≠ gb132)); have n7_ := Aside0.mk ((by rw [hg]; exact Nat.ne_of_gt (blk_lt (g := gb129) (o := .cells #[.int .i64 a0_0, .int .i64 a0_1, .slice (some ad131) l0_2.length c0_2] 31 (0, 0)) bkw) : gb132 ≠ gb129)); clear HO_4; clear BK129; clear HB; have HO_4 := n0_; have BK129 := n1_; have HB := n2_; have BK132 := n3_; have GW132 := n4_; have GE132 := n5_; have NB129_132 := n6_; have NB132_129 := n7_; clear n0_ n1_ n2_ n3_ n4_ n5_ n6_ n7_; clear hb hbox hg; have hnb12 := NB132_129.out; have hnc12 := NB129_132.out; have hcz13_0 : w11.cell? ⟨gb132, 0, none⟩ = some (.int .i64 0) := (blk_cell BK132.out 0).trans rfl; have hcz13_1 : w11.cell? ⟨gb132, 1, none⟩ = some (.slice none 0 0) := (blk_cell BK132.out 1).trans rfl; have hfz13_0 := blk_frozen BK132.out 0; have hfz13_1 := blk_frozen BK132.out 1))
       go_loopg [7, 25] k1 (fun kq v7 v25 w' => ∃ (x7_2 : List ByteArray) (x25_2 : Int), v25 = .int .i64 x25_2 ∧ Aside0 (spec_KindsOf.l1 kq x4_1 x7_2 l0_2 (l0_2.length : Int) x18_1 ((rd_T69 l0_2 x18_1).f1) (((rd_T69 l0_2 x18_1).f1).length : Int) x25_2 ((rd_T69 l0_2 x18_1).f0) ((rd_T69 l0_2 x18_1).f1) = some (r1, r2)) ∧ Aside0 (kq ≤ k1) ∧ Aside0 (Kd.S k76 76 w' w.heap.size (fun k_ => some k_ ≠ (v7 : Value).ownBlock) u4 x4_1) ∧ Aside0 (Kd.R Kd.string 9 w' w.heap.size (fun _ => True) v7 x7_2) ∧ Aside0 (w'.heap[gb129]? = some (.cells #[.int .i64 a0_0, .int .i64 a0_1, (.slice (some ad131) l0_2.length c0_2)] 31 (0, 0))) ∧ Aside0 (w'.heap[gb132]? = some (.cells #[.int .i64 ((rd_T69 l0_2 x18_1).f0), (.slice A131_1 ((rd_T69 l0_2 x18_1).f1).length c131_1)] 69 (0, 0))) ∧ Aside0 (Below w.heap.size w w'))
       case atStart => exact ⟨(([] : List ByteArray)), (0), (by first | rfl | (simp; done) | (simp [*]; done)), H', ⟨Nat.le_refl _⟩, ⟨by (with_reducible repeat (first | apply Kd.S_alloc | apply Kd.S_drewN | apply Kd.S_drew)); exact Kd.S_mono (Kd.S_far (p := ⟨gb132, 1, none⟩) (Kd.S_far (p := ⟨gb132, 0, none⟩) (Kd.S_types HO_4.out BK132.out (by decide)) (fun _ hk => hk.2) (.int .i64 ((rd_T69 l0_2 x18_1).f0))) (fun _ hk => hk.2) (.slice A131_1 ((rd_T69 l0_2 x18_1).f1).length c131_1)) (fun _ hk => (by simp [Value.ownBlock]))⟩, ⟨by first | exact Kd.R_nil _ _ _ _ _ | exact Kd.N_nil _ _ _ _ _ | exact Kd.V_nil _ _ _ _ _ | exact Kd.Q_nil _ _ _ _ _ | exact Kd.S_nil _ _ _ _ _⟩, ⟨by (with_reducible repeat (first | refine blk_drewN ?_ _ | refine blk_drew ?_ | refine blk_alloc ?_ _)); refine blk_far ?_ NB129_132.out _; (with_reducible repeat (first | refine blk_drewN ?_ _ | refine blk_drew ?_ | refine blk_alloc ?_ _)); refine blk_far ?_ NB129_132.out _; (with_reducible repeat (first | refine blk_drewN ?_ _ | refine blk_drew ?_ | refine blk_alloc ?_ _)); exact BK129.out⟩, ⟨by (with_reducible repeat (first | refine blk_drewN ?_ _ | refine blk_drew ?_ | refine blk_alloc ?_ _)); refine blk_put (cs := #[.int .i64 ((rd_T69 l0_2 x18_1).f0), .slice none 0 0]) ?_ 1 _ rfl; (with_reducible repeat (first | refine blk_drewN ?_ _ | refine blk_drew ?_ | refine blk_alloc ?_ _)); refine blk_put (cs := #[.int .i64 0, .slice none 0 0]) ?_ 0 _ rfl; (with_reducible repeat (first | refine blk_drewN ?_ _ | refine blk_drew ?_ | refine blk_alloc ?_ _)); exact BK132.out⟩, ⟨blw⟩⟩
       case round =>
        clear H'
        try clear c1
        try clear p1
        try clear q1
        try clear hx1
        try clear p2
        try clear c3
        try clear c8
        try clear c8b0
        try clear c9
        try clear c9b0
        try clear c10
        try clear c10b0
        try clear c12
        try clear c13
        try clear p13
        try clear q13
        try clear hx13
        try clear hcz13_0
        try clear hcz13_1
        try clear hcz5_0
        try clear hcz5_1
        try clear hcz5_2
        try clear hcz7_0
        try clear hcz7_1
        try clear hcz7_2
        try clear hfz13_0
        try clear hfz13_1
        try clear hfz5_0
        try clear hfz5_1
        try clear hfz5_2
        try clear hfz7_0
        try clear hfz7_1
        try clear hfz7_2
        try clear hx131_0
        try clear hx131_1
        try clear p131
        try clear p2
        try clear q131
        obtain ⟨x7_2, x25_2, rfl, HA, HK2, HO_4, HO_7, BK129, BK132, HB⟩ := hrel
        cases gk with
        | zero => exact absurd HA.out (by simp [spec_KindsOf.l1])
        | succ k2 =>
         have H := HA.out
         clear HA
         simp only [spec_KindsOf.l1] at H
         by_cases c14 : x25_2 < (((rd_T69 l0_2 x18_1).f1).length : Int)
         ·rw [if_pos c14] at H
          have c14b0 : decide (x25_2 < (((rd_T69 l0_2 x18_1).f1).length : Int)) = true := decide_eq_true c14
          clear c14
          by_cases c15 : 0 ≤ x25_2
          ·rw [if_pos c15] at H
           have c15b0 : decide (0 ≤ x25_2) = true := decide_eq_true c15
           clear c15
           by_cases c16 : x25_2 < (((rd_T69 l0_2 x18_1).f1).length : Int)
           ·rw [if_pos c16] at H
            have c16b0 : decide (x25_2 < (((rd_T69 l0_2 x18_1).f1).length : Int)) = true := decide_eq_true c16
            clear c16
            by_cases c17 : x7_2.length < 8796093022208
            ·rw [if_pos c17] at H
             have LMc17 := Aside0.mk c17
             clear c17
             obtain ⟨y135, hy135⟩ : ∃ y_ : List ByteArray, y_ = (x7_2 ++ [(rd_T72 ((rd_T69 l0_2 x18_1).f1) x25_2).f0]) := ⟨_, rfl⟩
             replace H : (spec_KindsOf.l1 k2 x4_1 y135 l0_2 (l0_2.length : Int) x18_1 ((rd_T69 l0_2 x18_1).f1) (((rd_T69 l0_2 x18_1).f1).length : Int) (wrap64 (x25_2 + 1)) ((rd_T69 l0_2 x18_1).f0) ((rd_T69 l0_2 x18_1).f1)) = some (r1, r2) := by first | (rw [hy135]; with_reducible exact H) | (have H2_ := (Option.bind_some _ _).symm.trans H; rw [hy135]; with_reducible exact H2_) | (have H2_ := (Option.bind_some _ _).symm.trans H; with_reducible exact H2_) | with_reducible exact H | (rw [hy135]; exact H) | exact H
             have Ny135 := Aside0.mk hy135
             clear hy135
             have H' := Aside0.mk H
             clear H
             have p133 : 0 ≤ (x25_2 : Int) := odt
             have q133 : x25_2 < (((rd_T69 l0_2 x18_1).f1).length : Int) := odt
             obtain ⟨ad133, e133, hx133_0, hx133_1, hx133_2⟩ := at_T72 HR131_1.out x25_2 p133 q133
             cases e133
             replace hx133_0 := (HB.out.cell (World.block_lt_of_cell? w _ hx133_0)).trans hx133_0
             replace hx133_1 := (HB.out.cell (World.block_lt_of_cell? w _ hx133_1)).trans hx133_1
             replace hx133_2 := (HB.out.cell (World.block_lt_of_cell? w _ hx133_2)).trans hx133_2
             replace p133 := eq_true p133
             replace q133 := eq_true q133
             go_wp2_with (first | ((with_reducible refine gate_dst (N := 9) rfl ?_); refine box_event ?hg (N := 9) ?hd (cs := #[.string (⟨#[]⟩ : ByteArray), .int .i64 0, .int .i64 0]) (t := 72) ?hr ?_; (case hd => rfl); (case hg => rfl); (case hr => first | (go_simp; done) | (go_simp; rfl)); intro gb134 hg w18 hbox hb; have n0_ := Aside0.mk (Kd.S_below (by (with_reducible repeat (first | apply Kd.S_alloc | apply Kd.S_drewN | apply Kd.S_drew)); exact HO_4.out) hb); have n1_ := Aside0.mk (Kd.R_below (by (with_reducible repeat (first | apply Kd.R_alloc | apply Kd.R_drewN | apply Kd.R_drew)); exact HO_7.out) hb); have n2_ := Aside0.mk (blk_below (g := gb129) (o := .cells #[.int .i64 a0_0, .int .i64 a0_1, .slice (some ad131) l0_2.length c0_2] 31 (0, 0)) bkw hb); have n3_ := Aside0.mk (blk_below (g := gb132) (o := .cells #[.int .i64 ((rd_T69 l0_2 x18_1).f0), .slice (some ad133) ((rd_T69 l0_2 x18_1).f1).length c131_1] 69 (0, 0)) bkw hb); have n4_ := Aside0.mk (below_step blw hb); have n5_ := Aside0.mk (hbox); have n6_ := Aside0.mk ((by rw [hg]; exact (below_size blw) : w.heap.size ≤ gb134)); have n7_ := Aside0.mk ((by rw [hg]; exact (below_size blw) : w.heap.size ≤ gb134)); have n8_ := Aside0.mk ((by rw [hg]; exact Nat.ne_of_lt (blk_lt (g := gb129) (o := .cells #[.int .i64 a0_0, .int .i64 a0_1, .slice (some ad131) l0_2.length c0_2] 31 (0, 0)) bkw) : gb129 ≠ gb134)); have n9_ := Aside0.mk ((by rw [hg]; exact Nat.ne_of_gt (blk_lt (g := gb129) (o := .cells #[.int .i64 a0_0, .int .i64 a0_1, .slice (some ad131) l0_2.length c0_2] 31 (0, 0)) bkw) : gb134 ≠ gb129)); have n10_ := Aside0.mk ((by rw [hg]; exact Nat.ne_of_lt (blk_lt (g := gb132) (o := .cells #[.int .i64 ((rd_T69 l0_2 x18_1).f0), .slice (some ad133) ((rd_T69 l0_2 x18_1).f1).length c131_1] 69 (0, 0)) bkw) : gb132 ≠ gb134)); have n11_ := Aside0.mk ((by rw [hg]; exact Nat.ne_of_gt (blk_lt (g := gb132) (o := .cells #[.int .i64 ((rd_T69 l0_2 x18_1).f0), .slice (some ad133) ((rd_T69 l0_2 x18_1).f1).length c131_1] 69 (0, 0)) bkw) : gb134 ≠ gb132)); clear HO_4; clear HO_7; clear BK129; clear BK132; clear HB; have HO_4 := n0_; have HO_7 := n1_; have BK129 := n2_; have BK132 := n3_; have HB := n4_; have BK134 := n5_; have GW134 := n6_; have GE134 := n7_; have NB129_134 := n8_; have NB134_129 := n9_; have NB132_134 := n10_; have NB134_132 := n11_; clear n0_ n1_ n2_ n3_ n4_ n5_ n6_ n7_ n8_ n9_ n10_ n11_; clear hb hbox hg; have hnb19 := NB134_129.out; have hnc19 := NB129_134.out; have hnb20 := NB134_132.out; have hnc20 := NB132_134.out; have hcz21_0 : w18.cell? ⟨gb134, 0, none⟩ = some (.string (⟨#[]⟩ : ByteArray)) := (blk_cell BK134.out 0).trans rfl; have hcz21_1 : w18.cell? ⟨gb134, 1, none⟩ = some (.int .i64 0) := (blk_cell BK134.out 1).trans rfl; have hcz21_2 : w18.cell? ⟨gb134, 2, none⟩ = some (.int .i64 0) := (blk_cell BK134.out 2).trans rfl; have hfz21_0 := blk_frozen BK134.out 0; have hfz21_1 := blk_frozen BK134.out 1; have hfz21_2 := blk_frozen BK134.out 2) | ((with_reducible refine gate_builtin (b := .append) (xs := #[.tmp 29, .tmp 32]) rfl ?_); at_builtin; refine Kd.R_append Kd.string (w0 := w) w.heap.size rfl (.tmp 29) (.tmp 32) 70 9 (.string ⟨#[]⟩) 16 rfl Try.underlying70 info9 rfl (by decide) (by omega) u7 x7_2 ((rd_T72 ((rd_T69 l0_2 x18_1).f1) x25_2).f0) [.string ((rd_T72 ((rd_T69 l0_2 x18_1).f1) x25_2).f0)] (fun _ => True) (fun _ => False) rfl (by first | (go_simp; done) | (go_simp; rfl)) ?aP (fun _ hk => hk.elim) ?aF ?aO ?aB ?aS ?aL ?_; (case aP => exact rfl); (case aB => exact blw); (case aF => exact (fun _ _ => trivial)); (case aO => exact (by (with_reducible repeat (first | apply Kd.R_alloc | apply Kd.R_drewN | apply Kd.R_drew)); exact Kd.R_mono (Kd.R_far (p := ⟨gb134, 2, none⟩) (Kd.R_far (p := ⟨gb134, 1, none⟩) (Kd.R_far (p := ⟨gb134, 0, none⟩) (Kd.R_types HO_7.out BK134.out (by decide)) (fun _ hk => hk.2) (.string ((rd_T72 ((rd_T69 l0_2 x18_1).f1) x25_2).f0))) (fun _ hk => hk.2) (.int .i64 ((rd_T72 ((rd_T69 l0_2 x18_1).f1) x25_2).f1))) (fun _ hk => hk.2) (.int .i64 ((rd_T72 ((rd_T69 l0_2 x18_1).f1) x25_2).f2))) (fun _ hk => trivial))); (case aS => exact (below_size blw)); (case aL => have := LMc17.out; omega); intro v136 w22 ho hb hg hat; rw [← Ny135.out] at ho; have n0_ := Aside0.mk (Kd.S_after (ok := (fun _ => True)) (by (with_reducible repeat (first | apply Kd.S_alloc | apply Kd.S_drewN | apply Kd.S_drew)); exact Kd.S_mono (Kd.S_far (p := ⟨gb134, 2, none⟩) (Kd.S_far (p := ⟨gb134, 1, none⟩) (Kd.S_far (p := ⟨gb134, 0, none⟩) (Kd.S_types HO_4.out BK134.out (by decide)) (fun _ hk => hk.2) (.string ((rd_T72 ((rd_T69 l0_2 x18_1).f1) x25_2).f0))) (fun _ hk => hk.2) (.int .i64 ((rd_T72 ((rd_T69 l0_2 x18_1).f1) x25_2).f1))) (fun _ hk => hk.2) (.int .i64 ((rd_T72 ((rd_T69 l0_2 x18_1).f1) x25_2).f2))) (fun _ hk => ⟨trivial, hk.1⟩)) hg hat); have n1_ := Aside0.mk (blk_grown (g := gb129) (o := .cells #[.int .i64 a0_0, .int .i64 a0_1, .slice (some ad131) l0_2.length c0_2] 31 (0, 0)) (by (with_reducible repeat (first | refine blk_drewN ?_ _ | refine blk_drew ?_ | refine blk_alloc ?_ _)); refine blk_far ?_ NB129_134.out _; (with_reducible repeat (first | refine blk_drewN ?_ _ | refine blk_drew ?_ | refine blk_alloc ?_ _)); refine blk_far ?_ NB129_134.out _; (with_reducible repeat (first | refine blk_drewN ?_ _ | refine blk_drew ?_ | refine blk_alloc ?_ _)); refine blk_far ?_ NB129_134.out _; (with_reducible repeat (first | refine blk_drewN ?_ _ | refine blk_drew ?_ | refine blk_alloc ?_ _)); exact BK129.out) hg (Kd.R_ne HO_7.out BK129.out (by decide))); have n2_ := Aside0.mk (blk_grown (g := gb132) (o := .cells #[.int .i64 ((rd_T69 l0_2 x18_1).f0), .slice (some ad133) ((rd_T69 l0_2 x18_1).f1).length c131_1] 69 (0, 0)) (by (with_reducible repeat (first | refine blk_drewN ?_ _ | refine blk_drew ?_ | refine blk_alloc ?_ _)); refine blk_far ?_ NB132_134.out _; (with_reducible repeat (first | refine blk_drewN ?_ _ | refine blk_drew ?_ | refine blk_alloc ?_ _)); refine blk_far ?_ NB132_134.out _; (with_reducible repeat (first | refine blk_drewN ?_ _ | refine blk_drew ?_ | refine blk_alloc ?_ _)); refine blk_far ?_ NB132_134.out _; (with_reducible repeat (first | refine blk_drewN ?_ _ | refine blk_drew ?_ | refine blk_alloc ?_ _)); exact BK132.out) hg (Kd.R_ne HO_7.out BK132.out (by decide))); have n3_ := Aside0.mk (blk_grown (g := gb134) (o := .cells #[.string ((rd_T72 ((rd_T69 l0_2 x18_1).f1) x25_2).f0), .int .i64 ((rd_T72 ((rd_T69 l0_2 x18_1).f1) x25_2).f1), .int .i64 ((rd_T72 ((rd_T69 l0_2 x18_1).f1) x25_2).f2)] 72 (0, 0)) (by (with_reducible repeat (first | refine blk_drewN ?_ _ | refine blk_drew ?_ | refine blk_alloc ?_ _)); refine blk_put (cs := #[.string ((rd_T72 ((rd_T69 l0_2 x18_1).f1) x25_2).f0), .int .i64 ((rd_T72 ((rd_T69 l0_2 x18_1).f1) x25_2).f1), .int .i64 0]) ?_ 2 _ rfl; (with_reducible repeat (first | refine blk_drewN ?_ _ | refine blk_drew ?_ | refine blk_alloc ?_ _)); refine blk_put (cs := #[.string ((rd_T72 ((rd_T69 l0_2 x18_1).f1) x25_2).f0), .int .i64 0, .int .i64 0]) ?_ 1 _ rfl; (with_reducible repeat (first | refine blk_drewN ?_ _ | refine blk_drew ?_ | refine blk_alloc ?_ _)); refine blk_put (cs := #[.string (⟨#[]⟩ : ByteArray), .int .i64 0, .int .i64 0]) ?_ 0 _ rfl; (with_reducible repeat (first | refine blk_drewN ?_ _ | refine blk_drew ?_ | refine blk_alloc ?_ _)); exact BK134.out) hg (Kd.R_ne HO_7.out BK134.out (by decide))); have n4_ := Aside0.mk (hb); have n5_ := Aside0.mk (ho); clear HO_4; clear BK129; clear BK132; clear BK134; clear HB; clear HO_7; have HO_4 := n0_; have BK129 := n1_; have BK132 := n2_; have BK134 := n3_; have HB := n4_; have HO137 := n5_; clear n0_ n1_ n2_ n3_ n4_ n5_; clear ho hb hg hat))
             go_roundg k2
             case measure => have := HK1.out; have := HK2.out; omega
             case rel => exact ⟨(y135), (wrap64 (x25_2 + 1)), (by first | rfl | (simp; done) | (simp [*]; done)), H', ⟨by have := HK1.out; have := HK2.out; omega⟩, ⟨by (with_reducible repeat (first | apply Kd.S_alloc | apply Kd.S_drewN | apply Kd.S_drew)); exact Kd.S_mono HO_4.out (fun _ hk => hk.2)⟩, ⟨by (with_reducible repeat (first | apply Kd.R_alloc | apply Kd.R_drewN | apply Kd.R_drew)); exact HO137.out⟩, ⟨by (with_reducible repeat (first | refine blk_drewN ?_ _ | refine blk_drew ?_ | refine blk_alloc ?_ _)); exact BK129.out⟩, ⟨by (with_reducible repeat (first | refine blk_drewN ?_ _ | refine blk_drew ?_ | refine blk_alloc ?_ _)); exact BK132.out⟩, ⟨blw⟩⟩
            ·rw [if_neg c17] at H
             exact absurd H (by simp)
           ·rw [if_neg c16] at H
            exact absurd H (by simp)
          ·rw [if_neg c15] at H
           exact absurd H (by simp)
         ·rw [if_neg c14] at H
          have c14b0 : decide (x25_2 < (((rd_T69 l0_2 x18_1).f1).length : Int)) = false := decide_eq_false c14
          clear c14
          have H' := Aside0.mk H
          clear H
          go_wp2
          go_loopg [10] k2 (fun kq v10 w' => ∃ (x10_3 : Int), v10 = .int .i64 x10_3 ∧ Aside0 (spec_KindsOf.l2 kq x4_1 x7_2 x10_3 l0_2 (l0_2.length : Int) x18_1 ((rd_T69 l0_2 x18_1).f0) ((rd_T69 l0_2 x18_1).f1) = some (r1, r2)) ∧ Aside0 (kq ≤ k2) ∧ Aside0 (Kd.S k76 76 w' w.heap.size (fun k_ => some k_ ≠ (u7 : Value).ownBlock) u4 x4_1) ∧ Aside0 (Kd.R Kd.string 9 w' w.heap.size (fun _ => True) u7 x7_2) ∧ Aside0 (w'.heap[gb129]? = some (.cells #[.int .i64 a0_0, .int .i64 a0_1, (.slice (some ad131) l0_2.length c0_2)] 31 (0, 0))) ∧ Aside0 (w'.heap[gb132]? = some (.cells #[.int .i64 ((rd_T69 l0_2 x18_1).f0), (.slice A131_1 ((rd_T69 l0_2 x18_1).f1).length c131_1)] 69 (0, 0))) ∧ Aside0 (Below w.heap.size w w'))
          case atStart => exact ⟨(0), (by first | rfl | (simp; done) | (simp [*]; done)), H', ⟨Nat.le_refl _⟩, ⟨by (with_reducible repeat (first | apply Kd.S_alloc | apply Kd.S_drewN | apply Kd.S_drew)); exact HO_4.out⟩, ⟨by (with_reducible repeat (first | apply Kd.R_alloc | apply Kd.R_drewN | apply Kd.R_drew)); exact HO_7.out⟩, ⟨by (with_reducible repeat (first | refine blk_drewN ?_ _ | refine blk_drew ?_ | refine blk_alloc ?_ _)); exact BK129.out⟩, ⟨by (with_reducible repeat (first | refine blk_drewN ?_ _ | refine blk_drew ?_ | refine blk_alloc ?_ _)); exact BK132.out⟩, ⟨blw⟩⟩
          case round =>
           clear H'
           try clear c1
           try clear p1
           try clear q1
           try clear hx1
           try clear c2
           try clear p2
           try clear c3
           try clear p6
           try clear c8
           try clear c8b0
           try clear c9
           try clear c9b0
           try clear c10
           try clear c10b0
           try clear c12
           try clear c13
           try clear p13
           try clear q13
           try clear hx13
           try clear c14
           try clear c14b0
           try clear c15
           try clear c15b0
           try clear c16
           try clear c16b0
           try clear c17
           try clear c19
           try clear c20
           try clear hcz13_0
           try clear hcz13_1
           try clear hcz21_0
           try clear hcz21_1
           try clear hcz21_2
           try clear hcz5_0
           try clear hcz5_1
           try clear hcz5_2
           try clear hcz7_0
           try clear hcz7_1
           try clear hcz7_2
           try clear hfz13_0
           try clear hfz13_1
           try clear hfz21_0
           try clear hfz21_1
           try clear hfz21_2
           try clear hfz5_0
           try clear hfz5_1
           try clear hfz5_2
           try clear hfz7_0
           try clear hfz7_1
           try clear hfz7_2
           try clear hx131_0
           try clear hx131_1
           try clear hx133_0
           try clear hx133_1
           try clear hx133_2
           try clear p1
           try clear p13
           try clear p131
           try clear p133
           try clear p2
           try clear q1
           try clear q13
           try clear q131
           try clear q133
           obtain ⟨x10_3, rfl, HA, HK3, HO_4, HO_7, BK129, BK132, HB⟩ := hrel
           cases gk with
           | zero => exact absurd HA.out (by simp [spec_KindsOf.l2])
           | succ k3 =>
            have H := HA.out
            clear HA
            simp only [spec_KindsOf.l2] at H
            by_cases c23 : x10_3 < (x4_1.length : Int)
            ·rw [if_pos c23] at H
             have c23b0 : decide (x10_3 < (x4_1.length : Int)) = true := decide_eq_true c23
             clear c23
             by_cases c24 : 0 ≤ x10_3
             ·rw [if_pos c24] at H
              have c24b0 : decide (0 ≤ x10_3) = true := decide_eq_true c24
              clear c24
              replace H := Option.bind_eq_some_iff.mp H
              obtain ⟨t139, A250, H⟩ := H
              replace H : (if t139 < 0 then (spec_KindsOf.l2 k3 x4_1 x7_2 (wrap64 (x10_3 + 1)) l0_2 (l0_2.length : Int) x18_1 ((rd_T69 l0_2 x18_1).f0) ((rd_T69 l0_2 x18_1).f1)) else ((spec_l3Cmp.f k3 ((rd_T76 x4_1 x10_3).f0) x7_2).bind fun t141 => (if t141 = 0 then (if ((rd_T76 x4_1 x10_3).f1).length < 17592186044416 then (spec_KindsOf.l0 k3 (x4_1.set (x10_3 : Int).toNat (⟨(rd_T76 x4_1 x10_3).f0, (((rd_T76 x4_1 x10_3).f1) ++ [((rd_T69 l0_2 x18_1).f0)])⟩ : S76)) l0_2 (l0_2.length : Int) (wrap64 (x18_1 + 1))) else (none)) else (if x10_3 ≤ (x4_1.length : Int) then (if x4_1.length < 2932031007402 then (spec_KindsOf.l0 k3 (x4_1.take (x10_3 : Int).toNat ++ [(⟨x7_2, (([((rd_T69 l0_2 x18_1).f0)] : List Int))⟩ : S76)] ++ x4_1.drop (x10_3 : Int).toNat) l0_2 (l0_2.length : Int) (wrap64 (x18_1 + 1))) else (none)) else (none))))) = some (r1, r2) := H
              have A25 := Aside0.mk A250
              clear A250
              by_cases c26 : t139 < 0
              ·rw [if_pos c26] at H
               have c26b0 : decide (t139 < 0) = true := decide_eq_true c26
               clear c26
               have H' := Aside0.mk H
               clear H
               obtain ⟨Ao27, co27, eo27⟩ := Kd.S_slice HO_4.out
               subst eo27
               have p138 : 0 ≤ (x10_3 : Int) := odt
               have q138 : x10_3 < (x4_1.length : Int) := odt
               obtain ⟨ad138, A138_0, c138_0, A138_1, c138_1, e138, hx138_0, hx138_1, hl138_0, hi138_0, hl138_1, hi138_1⟩ := at_T76 (Kd.S_reads' HO_4.out).2.2 x10_3 p138 q138
               cases e138
               obtain ⟨ce138, hce138, hMe138, hcc138⟩ := Kd.S_get HO_4.out z76 x10_3 p138 (by first | exact q138 | exact odt | (have e_ := (Kd.S_reads' HO_4.out).1; omega))
               obtain ⟨ve138_0, ve138_1, rfl, ge138_0, ge138_1⟩ := k76_openM hMe138
               have hv138_0 := hcc138 0 _ rfl
               rw [Nat.add_zero] at hv138_0
               replace hv138_0 := Option.some.inj (hv138_0.symm.trans hx138_0)
               rw [hv138_0] at ge138_0
               have HL138_0 := Aside0.mk (show Kd.R Kd.string 9 _ _ _ _ ((rd_T76 x4_1 x10_3).f0) from ge138_0)
               clear hv138_0 ge138_0
               have HX138_0 := Aside0.mk hx138_0
               have hv138_1 := hcc138 1 _ rfl
               rw [add_field _ _ 1 (by omega)] at hv138_1
               replace hv138_1 := Option.some.inj (hv138_1.symm.trans hx138_1)
               rw [hv138_1] at ge138_1
               have HL138_1 := Aside0.mk (show Kd.R (Kd.int .i64) 3 _ _ _ _ ((rd_T76 x4_1 x10_3).f1) from ge138_1)
               clear hv138_1 ge138_1
               have HX138_1 := Aside0.mk hx138_1
               clear hcc138 hce138
               have HR138_0 := Aside0.mk hi138_0
               have HC138_0 := Aside0.mk hl138_0
               clear hi138_0 hl138_0
               have HR138_1 := Aside0.mk hi138_1
               have HC138_1 := Aside0.mk hl138_1
               clear hi138_1 hl138_1
               replace p138 := eq_true p138
               replace q138 := eq_true q138
               obtain ⟨Ao28, co28, eo28⟩ := Kd.R_slice HO_7.out
               subst eo28
               go_wp2_with (first | (go_at_call 39; (with_reducible refine (spec_l3Cmp.calls k3 _ _ ((rd_T76 x4_1 x10_3).f0) _ _ x7_2 t139 _ ?side1 ?side2 ?side3 ?side4 A25.out).mono ?_); (case side1 => repeat (first | exact (by repeat (first | (with_reducible exact HR138_0.out) | (with_reducible refine Kd.C_alloc ?_ _) | (with_reducible refine Kd.C_drewN ?_ _) | (with_reducible refine Kd.C_drew ?_) | exact HR138_0.out)) | (with_reducible refine Kd.C_alloc ?_ _) | (with_reducible refine Kd.C_drewN ?_ _) | (with_reducible refine Kd.C_drew ?_))); (case side2 => exact HC138_0.out); (case side3 => repeat (first | exact (Kd.R_reads' HO_7.out).2.2 | (with_reducible refine Kd.C_alloc ?_ _) | (with_reducible refine Kd.C_drewN ?_ _) | (with_reducible refine Kd.C_drew ?_))); (case side4 => exact (Kd.R_reads' HO_7.out).2.1); rintro e w' ⟨rfl, ⟨nd, rfl⟩⟩))
               go_roundg k3
               case measure => have := HK1.out; have := HK2.out; have := HK3.out; omega
               case rel => exact ⟨(wrap64 (x10_3 + 1)), (by first | rfl | (simp; done) | (simp [*]; done)), H', ⟨by have := HK1.out; have := HK2.out; have := HK3.out; omega⟩, ⟨by (with_reducible repeat (first | apply Kd.S_alloc | apply Kd.S_drewN | apply Kd.S_drew)); exact HO_4.out⟩, ⟨by (with_reducible repeat (first | apply Kd.R_alloc | apply Kd.R_drewN | apply Kd.R_drew)); exact HO_7.out⟩, ⟨by (with_reducible repeat (first | refine blk_drewN ?_ _ | refine blk_drew ?_ | refine blk_alloc ?_ _)); exact BK129.out⟩, ⟨by (with_reducible repeat (first | refine blk_drewN ?_ _ | refine blk_drew ?_ | refine blk_alloc ?_ _)); exact BK132.out⟩, ⟨blw⟩⟩
              ·rw [if_neg c26] at H
               have c26b0 : decide (t139 < 0) = false := decide_eq_false c26
               clear c26
               replace H := Option.bind_eq_some_iff.mp H
               obtain ⟨t141, A290, H⟩ := H
               obtain rfl : t139 = t141 := Option.some.inj (A25.out.symm.trans A290)
               replace H : (if t139 = 0 then (if ((rd_T76 x4_1 x10_3).f1).length < 17592186044416 then (spec_KindsOf.l0 k3 (x4_1.set (x10_3 : Int).toNat (⟨(rd_T76 x4_1 x10_3).f0, (((rd_T76 x4_1 x10_3).f1) ++ [((rd_T69 l0_2 x18_1).f0)])⟩ : S76)) l0_2 (l0_2.length : Int) (wrap64 (x18_1 + 1))) else (none)) else (if x10_3 ≤ (x4_1.length : Int) then (if x4_1.length < 2932031007402 then (spec_KindsOf.l0 k3 (x4_1.take (x10_3 : Int).toNat ++ [(⟨x7_2, (([((rd_T69 l0_2 x18_1).f0)] : List Int))⟩ : S76)] ++ x4_1.drop (x10_3 : Int).toNat) l0_2 (l0_2.length : Int) (wrap64 (x18_1 + 1))) else (none)) else (none))) = some (r1, r2) := H
               have A29 := Aside0.mk A290
               clear A290
               by_cases c30 : t139 = 0
               ·rw [if_pos c30] at H
                have c30b0 : (t139 == 0) = true := beq_iff_eq.mpr c30
                have c30b1 : (t139 != 0) = false := bne_eq_false_iff_eq.mpr c30
                clear c30
                by_cases c31 : ((rd_T76 x4_1 x10_3).f1).length < 17592186044416
                ·rw [if_pos c31] at H
                 have LMc31 := Aside0.mk c31
                 clear c31
                 obtain ⟨y143, hy143⟩ : ∃ y_ : List Int, y_ = (((rd_T76 x4_1 x10_3).f1) ++ [((rd_T69 l0_2 x18_1).f0)]) := ⟨_, rfl⟩
                 replace H : (spec_KindsOf.l0 k3 (x4_1.set (x10_3 : Int).toNat (⟨(rd_T76 x4_1 x10_3).f0, y143⟩ : S76)) l0_2 (l0_2.length : Int) (wrap64 (x18_1 + 1))) = some (r1, r2) := by first | (rw [hy143]; with_reducible exact H) | (have H2_ := (Option.bind_some _ _).symm.trans H; rw [hy143]; with_reducible exact H2_) | (have H2_ := (Option.bind_some _ _).symm.trans H; with_reducible exact H2_) | with_reducible exact H | (rw [hy143]; exact H) | exact H
                 have Ny143 := Aside0.mk hy143
                 clear hy143
                 obtain ⟨y146, hy146⟩ : ∃ y_ : List (S76), y_ = (x4_1.set (x10_3 : Int).toNat (⟨(rd_T76 x4_1 x10_3).f0, y143⟩ : S76)) := ⟨_, rfl⟩
                 replace H : (spec_KindsOf.l0 k3 y146 l0_2 (l0_2.length : Int) (wrap64 (x18_1 + 1))) = some (r1, r2) := by first | (rw [hy146]; with_reducible exact H) | (have H2_ := (Option.bind_some _ _).symm.trans H; rw [hy146]; with_reducible exact H2_) | (have H2_ := (Option.bind_some _ _).symm.trans H; with_reducible exact H2_) | with_reducible exact H | (rw [hy146]; exact H) | exact H
                 have Ny146 := Aside0.mk hy146
                 clear hy146
                 have H' := Aside0.mk H
                 clear H
                 obtain ⟨Ao33, co33, eo33⟩ := Kd.S_slice HO_4.out
                 subst eo33
                 have p138 : 0 ≤ (x10_3 : Int) := odt
                 have q138 : x10_3 < (x4_1.length : Int) := odt
                 obtain ⟨ad138, A138_0, c138_0, A138_1, c138_1, e138, hx138_0, hx138_1, hl138_0, hi138_0, hl138_1, hi138_1⟩ := at_T76 (Kd.S_reads' HO_4.out).2.2 x10_3 p138 q138
                 cases e138
                 obtain ⟨ce138, hce138, hMe138, hcc138⟩ := Kd.S_get HO_4.out z76 x10_3 p138 (by first | exact q138 | exact odt | (have e_ := (Kd.S_reads' HO_4.out).1; omega))
                 obtain ⟨ve138_0, ve138_1, rfl, ge138_0, ge138_1⟩ := k76_openM hMe138
                 have hv138_0 := hcc138 0 _ rfl
                 rw [Nat.add_zero] at hv138_0
                 replace hv138_0 := Option.some.inj (hv138_0.symm.trans hx138_0)
                 rw [hv138_0] at ge138_0
                 have HL138_0 := Aside0.mk (show Kd.R Kd.string 9 _ _ _ _ ((rd_T76 x4_1 x10_3).f0) from ge138_0)
                 clear hv138_0 ge138_0
                 have HX138_0 := Aside0.mk hx138_0
                 have hv138_1 := hcc138 1 _ rfl
                 rw [add_field _ _ 1 (by omega)] at hv138_1
                 replace hv138_1 := Option.some.inj (hv138_1.symm.trans hx138_1)
                 rw [hv138_1] at ge138_1
                 have HL138_1 := Aside0.mk (show Kd.R (Kd.int .i64) 3 _ _ _ _ ((rd_T76 x4_1 x10_3).f1) from ge138_1)
                 clear hv138_1 ge138_1
                 have HX138_1 := Aside0.mk hx138_1
                 clear hcc138 hce138
                 have HR138_0 := Aside0.mk hi138_0
                 have HC138_0 := Aside0.mk hl138_0
                 clear hi138_0 hl138_0
                 have HR138_1 := Aside0.mk hi138_1
                 have HC138_1 := Aside0.mk hl138_1
                 clear hi138_1 hl138_1
                 replace p138 := eq_true p138
                 replace q138 := eq_true q138
                 obtain ⟨Ao34, co34, eo34⟩ := Kd.R_slice HO_7.out
                 subst eo34
                 have FL1_ : Aside0 True := ⟨trivial⟩
                 try go_wp2_with (first | (go_at_call 39; clear FL1_; (with_reducible refine (spec_l3Cmp.calls k3 _ _ ((rd_T76 x4_1 x10_3).f0) _ _ x7_2 t139 _ ?side1 ?side2 ?side3 ?side4 A25.out).mono ?_); (case side1 => repeat (first | exact (by repeat (first | (with_reducible exact HR138_0.out) | (with_reducible refine Kd.C_alloc ?_ _) | (with_reducible refine Kd.C_drewN ?_ _) | (with_reducible refine Kd.C_drew ?_) | exact HR138_0.out)) | (with_reducible refine Kd.C_alloc ?_ _) | (with_reducible refine Kd.C_drewN ?_ _) | (with_reducible refine Kd.C_drew ?_))); (case side2 => exact HC138_0.out); (case side3 => repeat (first | exact (Kd.R_reads' HO_7.out).2.2 | (with_reducible refine Kd.C_alloc ?_ _) | (with_reducible refine Kd.C_drewN ?_ _) | (with_reducible refine Kd.C_drew ?_))); (case side4 => exact (Kd.R_reads' HO_7.out).2.1); rintro e w' ⟨rfl, ⟨nd, rfl⟩⟩; (try (rw [drewN_self wr]; generalize hq_ : World.drewN wr _ = wr; have n0_ : Aside0 (Kd.R Kd.string 9 wr w.heap.size (fun k_ => some k_ ≠ (.slice (some ad138) x4_1.length co33 : Value).ownBlock ∧ some k_ ≠ (.slice Ao34 x7_2.length co34 : Value).ownBlock) (.slice A138_0 ((rd_T76 x4_1 x10_3).f0).length c138_0) ((rd_T76 x4_1 x10_3).f0)) := ⟨by rw [← hq_]; exact (by (with_reducible repeat (first | apply Kd.R_alloc | apply Kd.R_drewN | apply Kd.R_drew)); first | exact HL138_0.out | exact Kd.R_mono HL138_0.out (fun _ hk => ⟨hk.2, hk.1⟩))⟩; have n1_ : Aside0 (Kd.R (Kd.int .i64) 3 wr w.heap.size (fun k_ => some k_ ≠ (.slice (some ad138) x4_1.length co33 : Value).ownBlock ∧ some k_ ≠ (.slice Ao34 x7_2.length co34 : Value).ownBlock) (.slice A138_1 ((rd_T76 x4_1 x10_3).f1).length c138_1) ((rd_T76 x4_1 x10_3).f1)) := ⟨by rw [← hq_]; exact (by (with_reducible repeat (first | apply Kd.R_alloc | apply Kd.R_drewN | apply Kd.R_drew)); first | exact HL138_1.out | exact Kd.R_mono HL138_1.out (fun _ hk => ⟨hk.2, hk.1⟩))⟩; have n2_ : Aside0 (Kd.S k76 76 wr w.heap.size (fun k_ => some k_ ≠ (.slice Ao34 x7_2.length co34 : Value).ownBlock) (.slice (some ad138) x4_1.length co33) x4_1) := ⟨by rw [← hq_]; exact (by (with_reducible repeat (first | apply Kd.S_alloc | apply Kd.S_drewN | apply Kd.S_drew)); exact HO_4.out)⟩; have n3_ : Aside0 (Kd.R Kd.string 9 wr w.heap.size (fun _ => True) (.slice Ao34 x7_2.length co34) x7_2) := ⟨by rw [← hq_]; exact (by (with_reducible repeat (first | apply Kd.R_alloc | apply Kd.R_drewN | apply Kd.R_drew)); exact HO_7.out)⟩; have n4_ : Aside0 (wr.heap[gb129]? = some (.cells #[.int .i64 a0_0, .int .i64 a0_1, .slice (some ad131) l0_2.length c0_2] 31 (0, 0))) := ⟨by rw [← hq_]; exact bkw⟩; have n5_ : Aside0 (wr.heap[gb132]? = some (.cells #[.int .i64 ((rd_T69 l0_2 x18_1).f0), .slice A131_1 ((rd_T69 l0_2 x18_1).f1).length c131_1] 69 (0, 0))) := ⟨by rw [← hq_]; exact bkw⟩; have n6_ : Aside0 (Below w.heap.size w wr) := ⟨by rw [← hq_]; exact blw⟩; have n7_ : Aside0 (Kd.C Kd.string wr A138_0 ((rd_T76 x4_1 x10_3).f0).length ((rd_T76 x4_1 x10_3).f0)) := ⟨by rw [← hq_]; exact (by repeat (first | (with_reducible exact HR138_0.out) | (with_reducible refine Kd.C_alloc ?_ _) | (with_reducible refine Kd.C_drewN ?_ _) | (with_reducible refine Kd.C_drew ?_) | exact HR138_0.out))⟩; have n8_ : Aside0 (Kd.C (Kd.int .i64) wr A138_1 ((rd_T76 x4_1 x10_3).f1).length ((rd_T76 x4_1 x10_3).f1)) := ⟨by rw [← hq_]; exact (by repeat (first | (with_reducible exact HR138_1.out) | (with_reducible refine Kd.C_alloc ?_ _) | (with_reducible refine Kd.C_drewN ?_ _) | (with_reducible refine Kd.C_drew ?_) | exact HR138_1.out))⟩; have hx138_0 := (congrArg (fun u_ => World.cell? u_ _) hq_.symm).trans hx138_0; have hx138_1 := (congrArg (fun u_ => World.cell? u_ _) hq_.symm).trans hx138_1; clear HL138_0 HL138_1 HO_4 HO_7 BK129 BK132 HB HR138_0 HR138_1 hq_; have HL138_0 := n0_; have HL138_1 := n1_; have HO_4 := n2_; have HO_7 := n3_; have BK129 := n4_; have BK132 := n5_; have HB := n6_; have HR138_0 := n7_; have HR138_1 := n8_; clear n0_ n1_ n2_ n3_ n4_ n5_ n6_ n7_ n8_)); have p140 : 0 ≤ (x10_3 : Int) := odt; have q140 : x10_3 < (x4_1.length : Int) := odt; obtain ⟨ad140, A140_0, c140_0, A140_1, c140_1, e140, hx140_0, hx140_1, hl140_0, hi140_0, hl140_1, hi140_1⟩ := at_T76 (Kd.S_reads' HO_4.out).2.2 x10_3 p140 q140; obtain rfl : ad138 = ad140 := (by injection e140); obtain ⟨ce140, hce140, hMe140, hcc140⟩ := Kd.S_get HO_4.out z76 x10_3 p140 (by first | exact q140 | exact odt | (have e_ := (Kd.S_reads' HO_4.out).1; omega)); obtain ⟨ve140_0, ve140_1, rfl, ge140_0, ge140_1⟩ := k76_openM hMe140; have hv140_0 := hcc140 0 _ rfl; rw [Nat.add_zero] at hv140_0; replace hv140_0 := Option.some.inj (hv140_0.symm.trans hx140_0); rw [hv140_0] at ge140_0; have HL140_0 := Aside0.mk (show Kd.R Kd.string 9 _ _ _ _ ((rd_T76 x4_1 x10_3).f0) from ge140_0); clear hv140_0 ge140_0; have HX140_0 := Aside0.mk hx140_0; have hv140_1 := hcc140 1 _ rfl; rw [add_field _ _ 1 (by omega)] at hv140_1; replace hv140_1 := Option.some.inj (hv140_1.symm.trans hx140_1); rw [hv140_1] at ge140_1; have HL140_1 := Aside0.mk (show Kd.R (Kd.int .i64) 3 _ _ _ _ ((rd_T76 x4_1 x10_3).f1) from ge140_1); clear hv140_1 ge140_1; have HX140_1 := Aside0.mk hx140_1; clear hcc140 hce140; have HR140_0 := Aside0.mk hi140_0; have HC140_0 := Aside0.mk hl140_0; clear hi140_0 hl140_0; have HR140_1 := Aside0.mk hi140_1; have HC140_1 := Aside0.mk hl140_1; clear hi140_1 hl140_1; replace p140 := eq_true p140; replace q140 := eq_true q140; have ea_ := Option.some.inj (hx138_0.symm.trans hx140_0); injection ea_ with ea_ en_ ec_; subst ea_; subst ec_; clear en_; have ea_ := Option.some.inj (hx138_1.symm.trans hx140_1); injection ea_ with ea_ en_ ec_; subst ea_; subst ec_; clear en_) | (go_at_call 39; (with_reducible refine (spec_l3Cmp.calls k3 _ _ ((rd_T76 x4_1 x10_3).f0) _ _ x7_2 t139 _ ?side1 ?side2 ?side3 ?side4 A29.out).mono ?_); (case side1 => repeat (first | exact (by repeat (first | (with_reducible exact HR140_0.out) | (with_reducible refine Kd.C_alloc ?_ _) | (with_reducible refine Kd.C_drewN ?_ _) | (with_reducible refine Kd.C_drew ?_) | exact HR140_0.out)) | (with_reducible refine Kd.C_alloc ?_ _) | (with_reducible refine Kd.C_drewN ?_ _) | (with_reducible refine Kd.C_drew ?_))); (case side2 => exact HC140_0.out); (case side3 => repeat (first | exact (Kd.R_reads' HO_7.out).2.2 | (with_reducible refine Kd.C_alloc ?_ _) | (with_reducible refine Kd.C_drewN ?_ _) | (with_reducible refine Kd.C_drew ?_))); (case side4 => exact (Kd.R_reads' HO_7.out).2.1); rintro e w' ⟨rfl, ⟨nd, rfl⟩⟩; (try (rw [drewN_self wr]; generalize hq_ : World.drewN wr _ = wr; have n0_ : Aside0 (Kd.R Kd.string 9 wr w.heap.size (fun k_ => some k_ ≠ (.slice (some ad138) x4_1.length co33 : Value).ownBlock ∧ some k_ ≠ (.slice Ao34 x7_2.length co34 : Value).ownBlock) (.slice A138_0 ((rd_T76 x4_1 x10_3).f0).length c138_0) ((rd_T76 x4_1 x10_3).f0)) := ⟨by rw [← hq_]; exact (by (with_reducible repeat (first | apply Kd.R_alloc | apply Kd.R_drewN | apply Kd.R_drew)); first | exact HL138_0.out | exact Kd.R_mono HL138_0.out (fun _ hk => ⟨hk.2, hk.1⟩))⟩; have n1_ : Aside0 (Kd.R (Kd.int .i64) 3 wr w.heap.size (fun k_ => some k_ ≠ (.slice (some ad138) x4_1.length co33 : Value).ownBlock ∧ some k_ ≠ (.slice Ao34 x7_2.length co34 : Value).ownBlock) (.slice A138_1 ((rd_T76 x4_1 x10_3).f1).length c138_1) ((rd_T76 x4_1 x10_3).f1)) := ⟨by rw [← hq_]; exact (by (with_reducible repeat (first | apply Kd.R_alloc | apply Kd.R_drewN | apply Kd.R_drew)); first | exact HL138_1.out | exact Kd.R_mono HL138_1.out (fun _ hk => ⟨hk.2, hk.1⟩))⟩; have n2_ : Aside0 (Kd.R Kd.string 9 wr w.heap.size (fun k_ => some k_ ≠ (.slice (some ad138) x4_1.length co33 : Value).ownBlock ∧ some k_ ≠ (.slice Ao34 x7_2.length co34 : Value).ownBlock) (.slice A138_0 ((rd_T76 x4_1 x10_3).f0).length c138_0) ((rd_T76 x4_1 x10_3).f0)) := ⟨by rw [← hq_]; exact (by (with_reducible repeat (first | apply Kd.R_alloc | apply Kd.R_drewN | apply Kd.R_drew)); first | exact HL140_0.out | exact Kd.R_mono HL140_0.out (fun _ hk => ⟨hk.2, hk.1⟩))⟩; have n3_ : Aside0 (Kd.R (Kd.int .i64) 3 wr w.heap.size (fun k_ => some k_ ≠ (.slice (some ad138) x4_1.length co33 : Value).ownBlock ∧ some k_ ≠ (.slice Ao34 x7_2.length co34 : Value).ownBlock) (.slice A138_1 ((rd_T76 x4_1 x10_3).f1).length c138_1) ((rd_T76 x4_1 x10_3).f1)) := ⟨by rw [← hq_]; exact (by (with_reducible repeat (first | apply Kd.R_alloc | apply Kd.R_drewN | apply Kd.R_drew)); first | exact HL140_1.out | exact Kd.R_mono HL140_1.out (fun _ hk => ⟨hk.2, hk.1⟩))⟩; have n4_ : Aside0 (Kd.S k76 76 wr w.heap.size (fun k_ => some k_ ≠ (.slice Ao34 x7_2.length co34 : Value).ownBlock) (.slice (some ad138) x4_1.length co33) x4_1) := ⟨by rw [← hq_]; exact (by (with_reducible repeat (first | apply Kd.S_alloc | apply Kd.S_drewN | apply Kd.S_drew)); exact HO_4.out)⟩; have n5_ : Aside0 (Kd.R Kd.string 9 wr w.heap.size (fun _ => True) (.slice Ao34 x7_2.length co34) x7_2) := ⟨by rw [← hq_]; exact (by (with_reducible repeat (first | apply Kd.R_alloc | apply Kd.R_drewN | apply Kd.R_drew)); exact HO_7.out)⟩; have n6_ : Aside0 (wr.heap[gb129]? = some (.cells #[.int .i64 a0_0, .int .i64 a0_1, .slice (some ad131) l0_2.length c0_2] 31 (0, 0))) := ⟨by rw [← hq_]; exact bkw⟩; have n7_ : Aside0 (wr.heap[gb132]? = some (.cells #[.int .i64 ((rd_T69 l0_2 x18_1).f0), .slice A131_1 ((rd_T69 l0_2 x18_1).f1).length c131_1] 69 (0, 0))) := ⟨by rw [← hq_]; exact bkw⟩; have n8_ : Aside0 (Below w.heap.size w wr) := ⟨by rw [← hq_]; exact blw⟩; have n9_ : Aside0 (Kd.C Kd.string wr A138_0 ((rd_T76 x4_1 x10_3).f0).length ((rd_T76 x4_1 x10_3).f0)) := ⟨by rw [← hq_]; exact (by repeat (first | (with_reducible exact HR138_0.out) | (with_reducible refine Kd.C_alloc ?_ _) | (with_reducible refine Kd.C_drewN ?_ _) | (with_reducible refine Kd.C_drew ?_) | exact HR138_0.out))⟩; have n10_ : Aside0 (Kd.C (Kd.int .i64) wr A138_1 ((rd_T76 x4_1 x10_3).f1).length ((rd_T76 x4_1 x10_3).f1)) := ⟨by rw [← hq_]; exact (by repeat (first | (with_reducible exact HR138_1.out) | (with_reducible refine Kd.C_alloc ?_ _) | (with_reducible refine Kd.C_drewN ?_ _) | (with_reducible refine Kd.C_drew ?_) | exact HR138_1.out))⟩; have n11_ : Aside0 (Kd.C Kd.string wr A138_0 ((rd_T76 x4_1 x10_3).f0).length ((rd_T76 x4_1 x10_3).f0)) := ⟨by rw [← hq_]; exact (by repeat (first | (with_reducible exact HR140_0.out) | (with_reducible refine Kd.C_alloc ?_ _) | (with_reducible refine Kd.C_drewN ?_ _) | (with_reducible refine Kd.C_drew ?_) | exact HR140_0.out))⟩; have n12_ : Aside0 (Kd.C (Kd.int .i64) wr A138_1 ((rd_T76 x4_1 x10_3).f1).length ((rd_T76 x4_1 x10_3).f1)) := ⟨by rw [← hq_]; exact (by repeat (first | (with_reducible exact HR140_1.out) | (with_reducible refine Kd.C_alloc ?_ _) | (with_reducible refine Kd.C_drewN ?_ _) | (with_reducible refine Kd.C_drew ?_) | exact HR140_1.out))⟩; clear HL138_0 HL138_1 HL140_0 HL140_1 HO_4 HO_7 BK129 BK132 HB HR138_0 HR138_1 HR140_0 HR140_1 hq_; have HL138_0 := n0_; have HL138_1 := n1_; have HL140_0 := n2_; have HL140_1 := n3_; have HO_4 := n4_; have HO_7 := n5_; have BK129 := n6_; have BK132 := n7_; have HB := n8_; have HR138_0 := n9_; have HR138_1 := n10_; have HR140_0 := n11_; have HR140_1 := n12_; clear n0_ n1_ n2_ n3_ n4_ n5_ n6_ n7_ n8_ n9_ n10_ n11_ n12_))))
                 have n0_ := Aside0.mk (Kd.S_drew HO_4.out)
                 have n1_ := Aside0.mk (Kd.R_drew HO_7.out)
                 have n2_ := Aside0.mk (Kd.R_drew HL138_0.out)
                 have n3_ := Aside0.mk (Kd.R_drew HL138_1.out)
                 have n4_ := Aside0.mk (Kd.R_drew HL140_0.out)
                 have n5_ := Aside0.mk (Kd.R_drew HL140_1.out)
                 have n6_ := Aside0.mk (blk_drew BK129.out)
                 have n7_ := Aside0.mk (blk_drew BK132.out)
                 have n8_ := Aside0.mk (Kd.C_drew HR138_0.out)
                 have n9_ := Aside0.mk (Kd.C_drew HR138_1.out)
                 have n10_ := Aside0.mk (Kd.C_drew HR140_0.out)
                 have n11_ := Aside0.mk (Kd.C_drew HR140_1.out)
                 have n12_ := Aside0.mk (below_drew1 HB.out)
                 clear HO_4
                 clear HO_7
                 clear HL138_0
                 clear HL138_1
                 clear HL140_0
                 clear HL140_1
                 clear BK129
                 clear BK132
                 clear HR138_0
                 clear HR138_1
                 clear HR140_0
                 clear HR140_1
                 clear HB
                 have HO_4 := n0_
                 have HO_7 := n1_
                 have HL138_0 := n2_
                 have HL138_1 := n3_
                 have HL140_0 := n4_
                 have HL140_1 := n5_
                 have BK129 := n6_
                 have BK132 := n7_
                 have HR138_0 := n8_
                 have HR138_1 := n9_
                 have HR140_0 := n10_
                 have HR140_1 := n11_
                 have HB := n12_
                 clear n0_ n1_ n2_ n3_ n4_ n5_ n6_ n7_ n8_ n9_ n10_ n11_ n12_
                 have p142 : 0 ≤ (x10_3 : Int) := odt
                 have q142 : x10_3 < (x4_1.length : Int) := odt
                 obtain ⟨ad142, A142_0, c142_0, A142_1, c142_1, e142, hx142_0, hx142_1, hl142_0, hi142_0, hl142_1, hi142_1⟩ := at_T76 (Kd.S_reads' HO_4.out).2.2 x10_3 p142 q142
                 obtain rfl : ad138 = ad142 := (by injection e142)
                 obtain ⟨ce142, hce142, hMe142, hcc142⟩ := Kd.S_get HO_4.out z76 x10_3 p142 (by first | exact q142 | exact odt | (have e_ := (Kd.S_reads' HO_4.out).1; omega))
                 obtain ⟨ve142_0, ve142_1, rfl, ge142_0, ge142_1⟩ := k76_openM hMe142
                 have hv142_0 := hcc142 0 _ rfl
                 rw [Nat.add_zero] at hv142_0
                 replace hv142_0 := Option.some.inj (hv142_0.symm.trans hx142_0)
                 rw [hv142_0] at ge142_0
                 have HL142_0 := Aside0.mk (show Kd.R Kd.string 9 _ _ _ _ ((rd_T76 x4_1 x10_3).f0) from ge142_0)
                 clear hv142_0 ge142_0
                 have HX142_0 := Aside0.mk hx142_0
                 have hv142_1 := hcc142 1 _ rfl
                 rw [add_field _ _ 1 (by omega)] at hv142_1
                 replace hv142_1 := Option.some.inj (hv142_1.symm.trans hx142_1)
                 rw [hv142_1] at ge142_1
                 have HL142_1 := Aside0.mk (show Kd.R (Kd.int .i64) 3 _ _ _ _ ((rd_T76 x4_1 x10_3).f1) from ge142_1)
                 clear hv142_1 ge142_1
                 have HX142_1 := Aside0.mk hx142_1
                 clear hcc142 hce142
                 have HR142_0 := Aside0.mk hi142_0
                 have HC142_0 := Aside0.mk hl142_0
                 clear hi142_0 hl142_0
                 have HR142_1 := Aside0.mk hi142_1
                 have HC142_1 := Aside0.mk hl142_1
                 clear hi142_1 hl142_1
                 replace p142 := eq_true p142
                 replace q142 := eq_true q142
                 obtain ⟨go36, co36, eo36, gb36, gl36, cl36, HG36⟩ := Kd.S_form HO_4.out (by have h_ : (x10_3 : Int) < ((x4_1.length : Int) : Int) := odt; have h2_ : 0 ≤ (x10_3 : Int) := odt; omega)
                 (first | cases eo36 | (injection eo36 with ea_ en_ ec_; (first | subst ea_ | (injection ea_ with ea_; subst ea_)); subst ec_; clear en_))
                 have GB36 := Aside0.mk gb36
                 have GG36 := Aside0.mk HG36
                 clear gb36 gl36 HG36
                 (first | simp only [add_plain] at hx138_0 | skip)
                 (first | simp only [add_plain] at hx138_1 | skip)
                 (first | simp only [add_plain] at hx140_0 | skip)
                 (first | simp only [add_plain] at hx140_1 | skip)
                 (first | simp only [add_plain] at hx142_0 | skip)
                 (first | simp only [add_plain] at hx142_1 | skip)
                 obtain ⟨oki36, ce36, hcl36, hM36, hcc36, _, _, hH36⟩ := Kd.S_elem HO_4.out z76 (x10_3 : Int) odt (by have h_ : (x10_3 : Int) < ((x4_1.length : Int) : Int) := odt; first | exact h_ | (have e_ := (Kd.S_reads' HO_4.out).1; omega) | simpa using h_)
                 obtain ⟨ve36_0, ve36_1, rfl, ge36_0, ge36_1⟩ := k76_openM hM36
                 have hv36 := hcc36 1 _ rfl
                 have hX36 := HX142_1.out
                 (try simp only [add_plain] at hX36)
                 (try simp only [Nat.add_zero] at hv36)
                 replace hv36 := Option.some.inj (hv36.symm.trans hX36)
                 subst hv36
                 clear hX36 hcc36 hcl36
                 have UU36 := Aside0.mk (show Kd.R (Kd.int .i64) 3 _ w.heap.size oki36 (.slice A142_1 ((rd_T76 x4_1 x10_3).f1).length c142_1) ((rd_T76 x4_1 x10_3).f1) from ge36_1)
                 have HH36 := Aside0.mk hH36
                 have HN36 := Aside0.mk (Kd.S_reads' HO_4.out).1
                 have HE36_0 := Aside0.mk ge36_0
                 clear hH36 ge36_0 ge36_1
                 refine start_ (n := 14) (S := fun w' => w'.cell? ⟨gb132, 0, none⟩ = some (.int .i64 ((rd_T69 l0_2 x18_1).f0)) ∧ w'.cell? ⟨gb132, 1, none⟩ = some (.slice A131_1 ((rd_T69 l0_2 x18_1).f1).length c131_1) ∧ w'.cell? ⟨go36, ((x10_3).toNat * 2), none⟩ = some (.slice A142_0 ((rd_T76 x4_1 x10_3).f0).length c142_0) ∧ w'.cell? ⟨go36, ((x10_3).toNat * 2) + 1, none⟩ = some (.slice A142_1 ((rd_T76 x4_1 x10_3).f1).length c142_1)) (ds := [13]) #[false, false, false, false, false, false, false, false, false, false, false, false, false, false] (by kernel_rfl) rfl rfl ⟨(blk_cell BK132.out 0).trans rfl, (blk_cell BK132.out 1).trans rfl, hx142_0, hx142_1⟩ (fun hHeld => ?_); refine with_tabW spec_KindsOf.tab17 spec_KindsOf.bits17 (fun HT_ HW_ => ?_)
                 generalize wr.drew = w35 at HO_4 HO_7 HL138_0 HL138_1 HL140_0 HL140_1 BK129 BK132 HR138_0 HR138_1 HR140_0 HR140_1 HB GG36 HE36_0 HH36 HL142_0 HL142_1 HR142_0 HR142_1 HX142_0 HX142_1 UU36 hx138_0 hx138_1 hx140_0 hx140_1 hx142_0 hx142_1 hHeld ⊢
                 refine pure_ (i := 0) (N := some 65) (v := ?_) (a' := ?_) #[true, false, false, false, false, false, false, false, false, false, false, false, false, false] rfl rfl (any_of HT_.out (by kernel_rfl)) (fun _ _ _ h => h) (Or.inl ⟨by rfl, ?_⟩) ?_ ?_
                 rotate_left; (· (intro w'; go_simp; with_reducible rfl)); rotate_left; (· (simp only [Act.put, sp1, sp2, sp3, i64_w, i32_w]; rfl))
                 refine pure_ (i := 1) (N := some 66) (v := ?_) (a' := ?_) #[true, true, false, false, false, false, false, false, false, false, false, false, false, false] rfl rfl (any_of HT_.out (by kernel_rfl)) (fun _ _ _ h => h) (Or.inl ⟨by rfl, ?_⟩) ?_ ?_
                 rotate_left; (· (intro w'; go_simp; with_reducible rfl)); rotate_left; (· (simp only [Act.put, sp1, sp2, sp3, i64_w, i32_w]; rfl))
                 refine pure_ (i := 2) (N := some 67) (v := ?_) (a' := ?_) #[true, true, true, false, false, false, false, false, false, false, false, false, false, false] rfl rfl (any_of HT_.out (by kernel_rfl)) (fun _ _ _ h => h) (Or.inl ⟨by rfl, ?_⟩) ?_ ?_
                 rotate_left; (· (intro w'; go_simp; with_reducible rfl)); rotate_left; (· (simp only [Act.put, sp1, sp2, sp3, i64_w, i32_w]; rfl))
                 refine pure_ (i := 3) (N := some 68) (v := ?_) (a' := ?_) #[true, true, true, true, false, false, false, false, false, false, false, false, false, false] rfl rfl (any_of HT_.out (by kernel_rfl)) (fun _ _ _ h => h) (Or.inl ⟨by rfl, ?_⟩) ?_ ?_
                 rotate_left; (· (intro w'; go_simp; with_reducible rfl)); rotate_left; (· (simp only [Act.put, sp1, sp2, sp3, i64_w, i32_w]; rfl))
                 refine pure_ (i := 4) (N := some 69) (v := ?_) (a' := ?_) #[true, true, true, true, true, false, false, false, false, false, false, false, false, false] rfl rfl (any_of HT_.out (by kernel_rfl)) (fun _ _ _ h => h) (Or.inl ⟨by rfl, ?_⟩) ?_ ?_
                 rotate_left; (· (intro w'; go_simp; with_reducible rfl)); rotate_left; (· (simp only [Act.put, sp1, sp2, sp3, i64_w, i32_w]; rfl))
                 refine pure_ (i := 5) (N := some 70) (v := ?_) (a' := ?_) #[true, true, true, true, true, true, false, false, false, false, false, false, false, false] rfl rfl (any_of HT_.out (by kernel_rfl)) (fun _ _ _ h => h) (Or.inl ⟨by rfl, ?_⟩) ?_ ?_
                 rotate_left; (· (intro w'; go_simp; with_reducible rfl)); rotate_left; (· (simp only [Act.put, sp1, sp2, sp3, i64_w, i32_w]; rfl))
                 refine pure_ (i := 7) (N := some 72) (v := ?_) (a' := ?_) #[true, true, true, true, true, true, false, true, false, false, false, false, false, false] rfl rfl (any_of HT_.out (by kernel_rfl)) (fun _ _ _ h => h) (Or.inl ⟨by rfl, ?_⟩) ?_ ?_
                 rotate_left; (· (intro w'; go_simp; with_reducible rfl)); rotate_left; (· (simp only [Act.put, sp1, sp2, sp3, i64_w, i32_w]; rfl))
                 refine take_ (i := 6) (N := some 71) (v := ?_) (a' := ?_) #[true, true, true, true, true, true, true, true, false, false, false, false, false, false] rfl rfl (take_ofW HT_.out HW_.out (by kernel_rfl)) (fun _ _ _ h => h) (Or.inl ⟨by rfl, ?_⟩) hHeld ?_ ?_
                 rotate_left; (· (rintro w' ⟨s0, s1, s2, s3⟩; go_simp; with_reducible rfl)); rotate_left; (· (simp only [Act.put, sp1, sp2, sp3, i64_w, i32_w]; rfl))
                 refine take_ (i := 8) (N := some 73) (v := ?_) (a' := ?_) #[true, true, true, true, true, true, true, true, true, false, false, false, false, false] rfl rfl (take_ofW HT_.out HW_.out (by kernel_rfl)) (fun _ _ _ h => h) (Or.inl ⟨by rfl, ?_⟩) hHeld ?_ ?_
                 rotate_left; (· (rintro w' ⟨s0, s1, s2, s3⟩; go_simp; with_reducible rfl)); rotate_left; (· (simp only [Act.put, sp1, sp2, sp3, i64_w, i32_w]; rfl))
                 refine one_ (i := 9) (N := some 74) #[true, true, true, true, true, true, true, true, true, true, false, false, false, false] rfl rfl (one_of HT_.out (by kernel_rfl)) (by decide) (fun K hK => ?_)
                 refine value_ (w1 := ?_) (v := ?_) (by rfl) rfl ?_ ?_
                 rotate_left 2
                 ·go_simp
                  constructor
                  ·rfl
                  ·rfl
                 refine hK.out _ _ ⟨(blk_cell (blk_alloc BK132.out _) 0).trans rfl, (blk_cell (blk_alloc BK132.out _) 1).trans rfl, (World.cell?_alloc_lt _ _ _ (World.block_lt_of_cell? _ _ (hHeld.2.2.1))).trans (hHeld.2.2.1), (World.cell?_alloc_lt _ _ _ (World.block_lt_of_cell? _ _ (hHeld.2.2.2))).trans (hHeld.2.2.2)⟩ (fun hHeld => ?_)
                 clear hK K
                 refine norm_ (a' := ?_) ?_ ?_
                 rotate_left
                 ·show Act.put _ (some 74) _ = _
                  simp only [Act.put, sp1, sp2, sp3, i64_w, i32_w]
                  rfl
                 refine one_ (i := 10) (N := some 75) #[true, true, true, true, true, true, true, true, true, true, true, false, false, false] rfl rfl (one_of HT_.out (by kernel_rfl)) (by decide) (fun K hK => ?_)
                 refine Kd.R_append_step (Kd.int .i64) (w0 := w) w.heap.size (by rfl) (.tmp 71) (.tmp 74) 74 3 (.int .i64 0) 8 rfl Try.underlying74 info3 rfl (by decide) (by omega) (.slice A142_1 ((rd_T76 x4_1 x10_3).f1).length c142_1) ((rd_T76 x4_1 x10_3).f1) ((rd_T69 l0_2 x18_1).f0) [.int .i64 ((rd_T69 l0_2 x18_1).f0)] (fun k_ => oki36 k_ ∨ ((fun k_ => some k_ ≠ (.slice Ao34 x7_2.length co34 : Value).ownBlock)) k_ ∧ w35.heap.size ≤ k_) (fun _ => False) rfl rfl ?aP (fun _ hk => hk.elim) ?aF ?aO ?aB ?aS ?aL ?_
                 (case aP => exact rfl)
                 (case aB => exact blw)
                 (case aF => exact (fun k_ hk => .inr ⟨Kd.fresh' (Kd.R_lt (by (with_reducible repeat (first | apply Kd.R_alloc | apply Kd.R_drewN | apply Kd.R_drew)); exact HO_7.out)) k_ hk, hk⟩))
                 (case aO => exact (by (with_reducible repeat (first | apply Kd.R_alloc | apply Kd.R_drewN | apply Kd.R_drew)); exact Kd.R_mono UU36.out (fun _ hk => .inl hk)))
                 (case aS => exact (below_size blw))
                 (case aL => have := LMc31.out; omega)
                 intro v144 w37 ho hb hg hat
                 (first | have HS2_ := Go.Proofs.YtiaajmnmbjheoaaW.PrintWords.cell_grown hg (hHeld.2.2.1) (by first | (rw [add_block]; exact (fun e_ => ((HL142_1.out.1 _ e_.symm).2) rfl)) | (show some (Addr.add _ _).block ≠ _; rw [add_block]; exact (fun e_ => ((HL142_1.out.1 _ e_.symm).2) rfl)) | exact (fun e_ => ((HL142_1.out.1 _ e_.symm).2) rfl)) | have HS2_ := Go.Proofs.YtiaajmnmbjheoaaW.PrintWords.cell_grown hg (cell_unalloc (hHeld.2.2.1) (by first | (rw [add_block]; exact Kd.S_lt HO_4.out _ rfl) | (show (Addr.add _ _).block < _; rw [add_block]; exact Kd.S_lt HO_4.out _ rfl) | exact Kd.S_lt HO_4.out _ rfl)) (by first | (rw [add_block]; exact (fun e_ => ((HL142_1.out.1 _ e_.symm).2) rfl)) | (show some (Addr.add _ _).block ≠ _; rw [add_block]; exact (fun e_ => ((HL142_1.out.1 _ e_.symm).2) rfl)) | exact (fun e_ => ((HL142_1.out.1 _ e_.symm).2) rfl)))
                 (first | have HS3_ := Go.Proofs.YtiaajmnmbjheoaaW.PrintWords.cell_grown hg (hHeld.2.2.2) (by first | (rw [add_block]; exact (fun e_ => ((HL142_1.out.1 _ e_.symm).2) rfl)) | (show some (Addr.add _ _).block ≠ _; rw [add_block]; exact (fun e_ => ((HL142_1.out.1 _ e_.symm).2) rfl)) | exact (fun e_ => ((HL142_1.out.1 _ e_.symm).2) rfl)) | have HS3_ := Go.Proofs.YtiaajmnmbjheoaaW.PrintWords.cell_grown hg (cell_unalloc (hHeld.2.2.2) (by first | (rw [add_block]; exact Kd.S_lt HO_4.out _ rfl) | (show (Addr.add _ _).block < _; rw [add_block]; exact Kd.S_lt HO_4.out _ rfl) | exact Kd.S_lt HO_4.out _ rfl)) (by first | (rw [add_block]; exact (fun e_ => ((HL142_1.out.1 _ e_.symm).2) rfl)) | (show some (Addr.add _ _).block ≠ _; rw [add_block]; exact (fun e_ => ((HL142_1.out.1 _ e_.symm).2) rfl)) | exact (fun e_ => ((HL142_1.out.1 _ e_.symm).2) rfl)))
                 rw [← Ny143.out] at ho
                 have n0_ := Aside0.mk (Kd.R_over' (v := (.slice A142_1 ((rd_T76 x4_1 x10_3).f1).length c142_1)) (by (with_reducible repeat (first | apply Kd.R_alloc | apply Kd.R_drewN | apply Kd.R_drew)); exact HO_7.out) (Kd.R_typed HL142_1.out) (by decide) hg)
                 have n1_ := Aside0.mk (blk_grown (g := gb129) (o := .cells #[.int .i64 a0_0, .int .i64 a0_1, .slice (some ad131) l0_2.length c0_2] 31 (0, 0)) bkw hg (Kd.R_ne HL142_1.out BK129.out (by decide)))
                 have n2_ := Aside0.mk (blk_grown (g := gb132) (o := .cells #[.int .i64 ((rd_T69 l0_2 x18_1).f0), .slice A131_1 ((rd_T69 l0_2 x18_1).f1).length c131_1] 69 (0, 0)) bkw hg (Kd.R_ne HL142_1.out BK132.out (by decide)))
                 have n3_ := Aside0.mk (hb)
                 have n4_ := Aside0.mk (Kd.H_grown (Kd.H_widen (by repeat (first | exact HH36.out | refine Kd.H_alloc ?_ _ | refine Kd.H_drewN ?_ _ | refine Kd.H_drew ?_))) hg (fun k_ e_ => .inl (UU36.out.1 k_ e_)))
                 have n5_ := Aside0.mk (Kd.R_over' (v := (.slice A142_1 ((rd_T76 x4_1 x10_3).f1).length c142_1)) (by (with_reducible repeat (first | apply Kd.R_alloc | apply Kd.R_drewN | apply Kd.R_drew)); exact HE36_0.out) (Kd.R_typed UU36.out) (by decide) hg)
                 have n6_ := Aside0.mk (ho)
                 clear HO_7
                 clear BK129
                 clear BK132
                 clear HB
                 clear HH36
                 clear HE36_0
                 clear HO_4
                 clear UU36
                 clear HL138_0
                 clear HL138_1
                 clear HL140_0
                 clear HL140_1
                 clear HL142_0
                 clear HL142_1
                 have HO_7 := n0_
                 have BK129 := n1_
                 have BK132 := n2_
                 have HB := n3_
                 have HH36 := n4_
                 have HE36_0 := n5_
                 have HO145 := n6_
                 clear n0_ n1_ n2_ n3_ n4_ n5_ n6_
                 clear ho hb hg hat
                 have p32 : 0 ≤ (x10_3 : Int) := odt
                 have q32 : (x10_3 : Int) < ((x4_1.length : Int) : Int) := odt
                 replace p32 := eq_true p32
                 replace q32 := eq_true q32
                 obtain ⟨Ao40, co40, eo40⟩ := Kd.R_slice HO145.out
                 (first | subst eo40 | (injection eo40 with f1_ f2_ f3_; have f4_ := f1_.symm; have f5_ := f3_.symm; clear f1_ f2_ f3_; subst f4_; subst f5_))
                 obtain ⟨_, _, hraw38, _, _, hcc38, _⟩ := Kd.H_raw HH36.out odt (by have h_ : (x10_3 : Int) < ((x4_1.length : Int) : Int) := odt; first | exact h_ | (have e_ := (HN36.out); omega) | simpa using h_)
                 obtain ⟨_, hfr38⟩ := Kd.H_at HH36.out odt (by have h_ : (x10_3 : Int) < ((x4_1.length : Int) : Int) := odt; first | exact h_ | (have e_ := (HN36.out); omega) | simpa using h_)
                 have hx38_0 := hcc38 1 _ rfl
                 have hf38_0 := hfr38 1
                 (try rw [show (k76).sz = 2 from rfl] at hx38_0)
                 (try rw [show (k76).sz = 2 from rfl] at hf38_0)
                 have HP38 := Kd.S_seg0 HH36.out odt (by have h_ : (x10_3 : Int) < ((x4_1.length : Int) : Int) := odt; first | exact h_ | (have e_ := (HN36.out); omega) | simpa using h_) (seg := [.slice Ao40 y143.length co40]) (j := 1) (show 2 ≤ 2 from by decide) (x' := (⟨(rd_T76 x4_1 x10_3).f0, y143⟩ : S76)) (k76_mkM _ _ _ (⟨(rd_T76 x4_1 x10_3).f0, y143⟩ : S76) (Kd.R_mono HE36_0.out (fun _ h_ => .inl h_)) HO145.out) (fun _ hk => hk)
                 clear hcc38 hfr38
                 have HNB129_go36 := Aside0.mk (show gb129 ≠ go36 from by have h_ := Kd.R_ne hraw38 BK129.out (by decide); intro e_; exact h_ (by rw [e_]; rfl))
                 have HNB132_go36 := Aside0.mk (show gb132 ≠ go36 from by have h_ := Kd.R_ne hraw38 BK132.out (by decide); intro e_; exact h_ (by rw [e_]; rfl))
                 have HS38 := HP38.1
                 rw [← Ny146.out] at HS38
                 have HQ38 := Aside0.mk HS38
                 obtain ⟨_, hgg38⟩ := Kd.R_typed hraw38 go36 rfl
                 have GG38_ := Aside0.mk hgg38
                 clear HP38 HS38 hgg38
                 refine hK.out _ _ ⟨(blk_cell BK132.out 0).trans rfl, (blk_cell BK132.out 1).trans rfl, HS2_, HS3_⟩ (fun hHeld => ?_)
                 clear hK K
                 refine norm_ (a' := ?_) ?_ ?_
                 rotate_left
                 ·show Act.put _ (some 75) _ = _
                  simp only [Act.put, sp1, sp2, sp3, i64_w, i32_w]
                  rfl
                 refine pure_ (i := 11) (N := some 76) (v := ?_) (a' := ?_) #[true, true, true, true, true, true, true, true, true, true, true, true, false, false] rfl rfl (any_of HT_.out (by kernel_rfl)) (fun _ _ _ h => h) (Or.inl ⟨by rfl, ?_⟩) ?_ ?_
                 rotate_left; (· (intro w'; go_simp; with_reducible rfl)); rotate_left; (· (simp only [Act.put, sp1, sp2, sp3, i64_w, i32_w]; rfl))
                 refine pure_ (i := 12) (N := some 77) (v := ?_) (a' := ?_) #[true, true, true, true, true, true, true, true, true, true, true, true, true, false] rfl rfl (any_of HT_.out (by kernel_rfl)) (fun _ _ _ h => h) (Or.inl ⟨by rfl, ?_⟩) ?_ ?_
                 rotate_left; (· (intro w'; go_simp; with_reducible rfl)); rotate_left; (· (simp only [Act.put, sp1, sp2, sp3, i64_w, i32_w]; rfl))
                 refine last_ (i := 13) (N := none) #[true, true, true, true, true, true, true, true, true, true, true, true, true, true] rfl rfl (one_of HT_.out (by kernel_rfl)) (by decide) (fun K hK => ?_)
                 refine skip_ (w1 := ?_) (by rfl) rfl ?_ ?_
                 rotate_left
                 ·go_simp
                  rfl
                 refine hK.out _ _ ?_
                 clear hK K
                 refine done_ (done_of HT_.out (by kernel_rfl)) ?_
                 try go_wp2
                 go_roundg k3
                 case measure => have := HK1.out; have := HK2.out; have := HK3.out; omega
                 case rel => exact ⟨(y146), (wrap64 (x18_1 + 1)), (by first | rfl | (simp; done) | (simp [*]; done)), H', ⟨by have := HK1.out; have := HK2.out; have := HK3.out; omega⟩, ⟨by (with_reducible repeat (first | apply Kd.S_alloc | apply Kd.S_drewN | apply Kd.S_drew)); exact Kd.S_mono HQ38.out (fun _ hk => trivial)⟩, ⟨by (with_reducible repeat (first | refine blk_drewN ?_ _ | refine blk_drew ?_ | refine blk_alloc ?_ _)); refine blk_far ?_ HNB129_go36.out _; (with_reducible repeat (first | refine blk_drewN ?_ _ | refine blk_drew ?_ | refine blk_alloc ?_ _)); exact BK129.out⟩, ⟨blw⟩⟩
                ·rw [if_neg c31] at H
                 exact absurd H (by simp)
               ·rw [if_neg c30] at H
                have c30b0 : (t139 == 0) = false := beq_eq_false_iff_ne.mpr c30
                have c30b1 : (t139 != 0) = true := bne_iff_ne.mpr c30
                have c41b0 := eq_true (odt : 0 ≤ x10_3)
                by_cases c42 : x10_3 ≤ (x4_1.length : Int)
                ·rw [if_pos c42] at H
                 have c42b0 := eq_true c42
                 have c42b1 : decide (x10_3 ≤ (x4_1.length : Int)) = true := decide_eq_true c42
                 clear c42
                 obtain ⟨y147, hy147⟩ : ∃ y_ : List (S76), y_ = (x4_1.take (x10_3 : Int).toNat) := ⟨_, rfl⟩
                 replace H : (if x4_1.length < 2932031007402 then (spec_KindsOf.l0 k3 (x4_1.take (x10_3 : Int).toNat ++ [(⟨x7_2, (([((rd_T69 l0_2 x18_1).f0)] : List Int))⟩ : S76)] ++ x4_1.drop (x10_3 : Int).toNat) l0_2 (l0_2.length : Int) (wrap64 (x18_1 + 1))) else (none)) = some (r1, r2) := by first | (rw [hy147]; with_reducible exact H) | (have H2_ := (Option.bind_some _ _).symm.trans H; rw [hy147]; with_reducible exact H2_) | (have H2_ := (Option.bind_some _ _).symm.trans H; with_reducible exact H2_) | with_reducible exact H | (rw [hy147]; exact H) | exact H
                 have Ny147 := Aside0.mk hy147
                 clear hy147
                 obtain ⟨y151, hy151⟩ : ∃ y_ : List Int, y_ = (([((rd_T69 l0_2 x18_1).f0)] : List Int)) := ⟨_, rfl⟩
                 replace H : (if x4_1.length < 2932031007402 then (spec_KindsOf.l0 k3 (x4_1.take (x10_3 : Int).toNat ++ [(⟨x7_2, y151⟩ : S76)] ++ x4_1.drop (x10_3 : Int).toNat) l0_2 (l0_2.length : Int) (wrap64 (x18_1 + 1))) else (none)) = some (r1, r2) := by first | (rw [hy151]; with_reducible exact H) | (have H2_ := (Option.bind_some _ _).symm.trans H; rw [hy151]; with_reducible exact H2_) | (have H2_ := (Option.bind_some _ _).symm.trans H; with_reducible exact H2_) | with_reducible exact H | (rw [hy151]; exact H) | exact H
                 have Ny151 := Aside0.mk hy151
                 clear hy151
                 by_cases c43 : x4_1.length < 2932031007402
                 ·rw [if_pos c43] at H
                  have LMc43 := Aside0.mk c43
                  clear c43
                  obtain ⟨y154, hy154⟩ : ∃ y_ : List (S76), y_ = (x4_1.take (x10_3 : Int).toNat ++ [(⟨x7_2, y151⟩ : S76)] ++ x4_1.drop (x10_3 : Int).toNat) := ⟨_, rfl⟩
                  replace H : (spec_KindsOf.l0 k3 y154 l0_2 (l0_2.length : Int) (wrap64 (x18_1 + 1))) = some (r1, r2) := by first | (rw [hy154]; with_reducible exact H) | (have H2_ := (Option.bind_some _ _).symm.trans H; rw [hy154]; with_reducible exact H2_) | (have H2_ := (Option.bind_some _ _).symm.trans H; with_reducible exact H2_) | with_reducible exact H | (rw [hy154]; exact H) | exact H
                  have Ny154 := Aside0.mk hy154
                  clear hy154
                  have c44b0 := eq_true (odt : 0 ≤ x10_3)
                  have c45b0 := eq_true (odt : x10_3 ≤ (x4_1.length : Int))
                  obtain ⟨y157, hy157⟩ : ∃ y_ : List (S76), y_ = (x4_1.drop (x10_3 : Int).toNat) := ⟨_, rfl⟩
                  replace H : (spec_KindsOf.l0 k3 y154 l0_2 (l0_2.length : Int) (wrap64 (x18_1 + 1))) = some (r1, r2) := by first | (rw [hy157]; with_reducible exact H) | (have H2_ := (Option.bind_some _ _).symm.trans H; rw [hy157]; with_reducible exact H2_) | (have H2_ := (Option.bind_some _ _).symm.trans H; with_reducible exact H2_) | with_reducible exact H | (rw [hy157]; exact H) | exact H
                  have Ny157 := Aside0.mk hy157
                  clear hy157
                  have H' := Aside0.mk H
                  clear H
                  obtain ⟨Ao46, co46, eo46⟩ := Kd.S_slice HO_4.out
                  subst eo46
                  have p138 : 0 ≤ (x10_3 : Int) := odt
                  have q138 : x10_3 < (x4_1.length : Int) := odt
                  obtain ⟨ad138, A138_0, c138_0, A138_1, c138_1, e138, hx138_0, hx138_1, hl138_0, hi138_0, hl138_1, hi138_1⟩ := at_T76 (Kd.S_reads' HO_4.out).2.2 x10_3 p138 q138
                  cases e138
                  obtain ⟨ce138, hce138, hMe138, hcc138⟩ := Kd.S_get HO_4.out z76 x10_3 p138 (by first | exact q138 | exact odt | (have e_ := (Kd.S_reads' HO_4.out).1; omega))
                  obtain ⟨ve138_0, ve138_1, rfl, ge138_0, ge138_1⟩ := k76_openM hMe138
                  have hv138_0 := hcc138 0 _ rfl
                  rw [Nat.add_zero] at hv138_0
                  replace hv138_0 := Option.some.inj (hv138_0.symm.trans hx138_0)
                  rw [hv138_0] at ge138_0
                  have HL138_0 := Aside0.mk (show Kd.R Kd.string 9 _ _ _ _ ((rd_T76 x4_1 x10_3).f0) from ge138_0)
                  clear hv138_0 ge138_0
                  have HX138_0 := Aside0.mk hx138_0
                  have hv138_1 := hcc138 1 _ rfl
                  rw [add_field _ _ 1 (by omega)] at hv138_1
                  replace hv138_1 := Option.some.inj (hv138_1.symm.trans hx138_1)
                  rw [hv138_1] at ge138_1
                  have HL138_1 := Aside0.mk (show Kd.R (Kd.int .i64) 3 _ _ _ _ ((rd_T76 x4_1 x10_3).f1) from ge138_1)
                  clear hv138_1 ge138_1
                  have HX138_1 := Aside0.mk hx138_1
                  clear hcc138 hce138
                  have HR138_0 := Aside0.mk hi138_0
                  have HC138_0 := Aside0.mk hl138_0
                  clear hi138_0 hl138_0
                  have HR138_1 := Aside0.mk hi138_1
                  have HC138_1 := Aside0.mk hl138_1
                  clear hi138_1 hl138_1
                  replace p138 := eq_true p138
                  replace q138 := eq_true q138
                  obtain ⟨Ao47, co47, eo47⟩ := Kd.R_slice HO_7.out
                  subst eo47
                  obtain ⟨i0_, hi0_, _, hsz0_, _⟩ := info_parts info76
                  have hroom_ : x4_1.length ≤ co46 := (Kd.S_reads' HO_4.out).2.1
                  have h0_ : (0 : Int) ≤ (x10_3 : Int) := odt
                  have h1_ : (x10_3 : Int) ≤ (x4_1.length : Int) := odt
                  have hcutA_ := cut_to (P := Try.prog) 26 76 .i64 Try.underlying26 hi0_ (some ad138) x4_1.length co46 x10_3 h0_ h1_ hroom_
                  have hcutB_ := cut_from (P := Try.prog) 26 76 .i64 Try.underlying26 hi0_ 2 hsz0_ (some ad138) x4_1.length co46 x10_3 h0_ h1_
                  obtain ⟨kk_, hkk_⟩ : ∃ n_ : Nat, n_ = (x10_3 : Int).toNat := ⟨_, rfl⟩
                  rw [← hkk_] at hcutA_ hcutB_
                  obtain ⟨AB_, hAB_⟩ : ∃ A1, A1 = (if co46 = kk_ then (some ad138) else ((some ad138) : Option Addr).map (·.add (kk_ * 2))) := ⟨_, rfl⟩
                  obtain ⟨nB_, hnB_⟩ : ∃ n_, n_ = x4_1.length - kk_ := ⟨_, rfl⟩
                  obtain ⟨cB_, hcB_⟩ : ∃ n_, n_ = co46 - kk_ := ⟨_, rfl⟩
                  rw [← hAB_, ← hnB_, ← hcB_] at hcutB_
                  have KA_ := Aside0.mk hAB_
                  have KN_ := Aside0.mk hnB_
                  have KK_ := Aside0.mk hkk_
                  have KL_ := Aside0.mk (show kk_ ≤ x4_1.length from by omega)
                  clear hAB_ hnB_ hkk_ hcB_ hroom_ hi0_ hsz0_ h0_ h1_
                  have FL1_ : Aside0 True := ⟨trivial⟩
                  go_wp2_with (first | (go_at_call 39; clear FL1_; (with_reducible refine (spec_l3Cmp.calls k3 _ _ ((rd_T76 x4_1 x10_3).f0) _ _ x7_2 t139 _ ?side1 ?side2 ?side3 ?side4 A25.out).mono ?_); (case side1 => repeat (first | exact (by repeat (first | (with_reducible exact HR138_0.out) | (with_reducible refine Kd.C_alloc ?_ _) | (with_reducible refine Kd.C_drewN ?_ _) | (with_reducible refine Kd.C_drew ?_) | exact HR138_0.out)) | (with_reducible refine Kd.C_alloc ?_ _) | (with_reducible refine Kd.C_drewN ?_ _) | (with_reducible refine Kd.C_drew ?_))); (case side2 => exact HC138_0.out); (case side3 => repeat (first | exact (Kd.R_reads' HO_7.out).2.2 | (with_reducible refine Kd.C_alloc ?_ _) | (with_reducible refine Kd.C_drewN ?_ _) | (with_reducible refine Kd.C_drew ?_))); (case side4 => exact (Kd.R_reads' HO_7.out).2.1); rintro e w' ⟨rfl, ⟨nd, rfl⟩⟩; have p140 : 0 ≤ (x10_3 : Int) := odt; have q140 : x10_3 < (x4_1.length : Int) := odt; obtain ⟨ad140, A140_0, c140_0, A140_1, c140_1, e140, hx140_0, hx140_1, hl140_0, hi140_0, hl140_1, hi140_1⟩ := at_T76 (Kd.S_reads' HO_4.out).2.2 x10_3 p140 q140; obtain rfl : ad138 = ad140 := (by injection e140); obtain ⟨ce140, hce140, hMe140, hcc140⟩ := Kd.S_get HO_4.out z76 x10_3 p140 (by first | exact q140 | exact odt | (have e_ := (Kd.S_reads' HO_4.out).1; omega)); obtain ⟨ve140_0, ve140_1, rfl, ge140_0, ge140_1⟩ := k76_openM hMe140; have hv140_0 := hcc140 0 _ rfl; rw [Nat.add_zero] at hv140_0; replace hv140_0 := Option.some.inj (hv140_0.symm.trans hx140_0); rw [hv140_0] at ge140_0; have HL140_0 := Aside0.mk (show Kd.R Kd.string 9 _ _ _ _ ((rd_T76 x4_1 x10_3).f0) from ge140_0); clear hv140_0 ge140_0; have HX140_0 := Aside0.mk hx140_0; have hv140_1 := hcc140 1 _ rfl; rw [add_field _ _ 1 (by omega)] at hv140_1; replace hv140_1 := Option.some.inj (hv140_1.symm.trans hx140_1); rw [hv140_1] at ge140_1; have HL140_1 := Aside0.mk (show Kd.R (Kd.int .i64) 3 _ _ _ _ ((rd_T76 x4_1 x10_3).f1) from ge140_1); clear hv140_1 ge140_1; have HX140_1 := Aside0.mk hx140_1; clear hcc140 hce140; have HR140_0 := Aside0.mk hi140_0; have HC140_0 := Aside0.mk hl140_0; clear hi140_0 hl140_0; have HR140_1 := Aside0.mk hi140_1; have HC140_1 := Aside0.mk hl140_1; clear hi140_1 hl140_1; replace p140 := eq_true p140; replace q140 := eq_true q140; have ea_ := Option.some.inj (hx138_0.symm.trans hx140_0); injection ea_ with ea_ en_ ec_; subst ea_; subst ec_; clear en_; have ea_ := Option.some.inj (hx138_1.symm.trans hx140_1); injection ea_ with ea_ en_ ec_; subst ea_; subst ec_; clear en_) | (go_at_call 39; (with_reducible refine (spec_l3Cmp.calls k3 _ _ ((rd_T76 x4_1 x10_3).f0) _ _ x7_2 t139 _ ?side1 ?side2 ?side3 ?side4 A29.out).mono ?_); (case side1 => repeat (first | exact (by repeat (first | (with_reducible exact HR140_0.out) | (with_reducible refine Kd.C_alloc ?_ _) | (with_reducible refine Kd.C_drewN ?_ _) | (with_reducible refine Kd.C_drew ?_) | exact HR140_0.out)) | (with_reducible refine Kd.C_alloc ?_ _) | (with_reducible refine Kd.C_drewN ?_ _) | (with_reducible refine Kd.C_drew ?_))); (case side2 => exact HC140_0.out); (case side3 => repeat (first | exact (Kd.R_reads' HO_7.out).2.2 | (with_reducible refine Kd.C_alloc ?_ _) | (with_reducible refine Kd.C_drewN ?_ _) | (with_reducible refine Kd.C_drew ?_))); (case side4 => exact (Kd.R_reads' HO_7.out).2.1); rintro e w' ⟨rfl, ⟨nd, rfl⟩⟩; have hnb49 := NB132_129.out; have hnc49 := NB129_132.out; have hcz50_0 : wr.cell? ⟨gb132, 0, none⟩ = some (.int .i64 ((rd_T69 l0_2 x18_1).f0)) := (blk_cell BK132.out 0).trans rfl; have hcz50_1 : wr.cell? ⟨gb132, 1, none⟩ = some (.slice A131_1 ((rd_T69 l0_2 x18_1).f1).length c131_1) := (blk_cell BK132.out 1).trans rfl; have hfz50_0 := blk_frozen BK132.out 0; have hfz50_1 := blk_frozen BK132.out 1) | ((with_reducible refine gate_builtin (b := .append) (xs := #[.tmp 78, .tmp 81]) rfl ?_); at_builtin; refine Ins.ins_first k76 (w0 := w) w.heap.size rfl (.tmp 78) (.tmp 81) 26 76 (.agg #[(.slice none 0 0), (.slice none 0 0)]) 48 rfl Try.underlying26 info76 rfl (by decide) (by omega) x4_1 (some ad138) x4_1.length kk_ co46 co46 (fun k_ => some k_ ≠ (.slice Ao47 x7_2.length co47 : Value).ownBlock) (fun k_ => some k_ = (.slice Ao47 x7_2.length co47 : Value).ownBlock) rfl rfl ?aO KL_.out (fun k_ h_ _ h2_ => h2_ h_) ?aB ?aS ?aL ?_; (case aO => exact (by (with_reducible repeat (first | apply Kd.S_alloc | apply Kd.S_drewN | apply Kd.S_drew)); exact HO_4.out)); (case aB => exact blw); (case aS => exact (below_size blw)); (case aL => have := LMc43.out; have := KL_.out; omega); intro f_ N0_ v1_ w1_ hf_ hM_ hb_ hbl_; have n0_ := Aside0.mk (hM_); have n1_ := Aside0.mk (hf_); have n2_ := Aside0.mk (Kd.R_below (by (with_reducible repeat (first | apply Kd.R_alloc | apply Kd.R_drewN | apply Kd.R_drew)); exact HO_7.out) hbl_); have n3_ := Aside0.mk (blk_below (g := gb129) (o := .cells #[.int .i64 a0_0, .int .i64 a0_1, .slice (some ad131) l0_2.length c0_2] 31 (0, 0)) bkw hbl_); have n4_ := Aside0.mk (blk_below (g := gb132) (o := .cells #[.int .i64 ((rd_T69 l0_2 x18_1).f0), .slice A131_1 ((rd_T69 l0_2 x18_1).f1).length c131_1] 69 (0, 0)) bkw hbl_); have n5_ := Aside0.mk (hb_); (try clear HMid); (try clear HF_); (try clear HO_7); (try clear BK129); (try clear BK132); (try clear HB); have HMid := n0_; have HF_ := n1_; have HO_7 := n2_; have BK129 := n3_; have BK132 := n4_; have HB := n5_; clear n0_ n1_ n2_ n3_ n4_ n5_; clear HO_4; clear hf_ hM_ hb_ hbl_; have hczA_ : w1_.cell? ⟨gb132, 0, none⟩ = some (.int .i64 ((rd_T69 l0_2 x18_1).f0)) := (blk_cell BK132.out 0).trans rfl; have hfzA_ := blk_frozen BK132.out 0) | ((with_reducible refine gate_dst (N := 87) rfl ?_); refine Kd.R_lit (Kd.int .i64) _ 3 ?hg (N := 87) ?hd (xs := ([((rd_T69 l0_2 x18_1).f0)] : List Int)) (inner := [.int .i64 ((rd_T69 l0_2 x18_1).f0)]) (ok := fun _ => True) (okp := fun _ => True) ?hr ?hp (fun _ hk => hk) trivial (Below.refl _ _) (Nat.le_refl _) (by simp) ?_; (case hd => rfl); (case hg => rfl); (case hr => first | (go_simp; done) | (go_simp; rfl)); (case hp => exact (Reps.one (show Kd.M (Kd.int .i64) _ _ _ ((rd_T69 l0_2 x18_1).f0) [.int .i64 ((rd_T69 l0_2 x18_1).f0)] from rfl) (Reps.none _ _))); intro v152 w51 ho52 hb hg_ hnew_; clear hg_ hnew_; (first | rw [← Ny151.out] at ho52 | (simp only [Int.reduceToNat] at ho52; rw [← Ny151.out] at ho52)); have n0_ := Aside0.mk (Ins.Mid.fresh (by repeat (first | exact HMid.out | refine Ins.Mid.alloc ?_ _ | refine Ins.Mid.drewN ?_ _ | refine Ins.Mid.drew ?_)) ho52); have n1_ := Aside0.mk (Ins.Mid.below (by repeat (first | exact HMid.out | refine Ins.Mid.alloc ?_ _ | refine Ins.Mid.drewN ?_ _ | refine Ins.Mid.drew ?_)) hb); have n2_ := Aside0.mk (Kd.R_below (by (with_reducible repeat (first | apply Kd.R_alloc | apply Kd.R_drewN | apply Kd.R_drew)); exact HO_7.out) hb); have n3_ := Aside0.mk (Kd.R_lower ho52 (below_size blw)); have n4_ := Aside0.mk (blk_below (g := gb129) (o := .cells #[.int .i64 a0_0, .int .i64 a0_1, .slice (some ad131) l0_2.length c0_2] 31 (0, 0)) bkw hb); have n5_ := Aside0.mk (blk_below (g := gb132) (o := .cells #[.int .i64 ((rd_T69 l0_2 x18_1).f0), .slice A131_1 ((rd_T69 l0_2 x18_1).f1).length c131_1] 69 (0, 0)) bkw hb); have n6_ := Aside0.mk (below_step blw hb); (try clear HNE_); (try clear HMid); (try clear HO_7); (try clear HO153); (try clear BK129); (try clear BK132); (try clear HB); have HNE_ := n0_; have HMid := n1_; have HO_7 := n2_; have HO153 := n3_; have BK129 := n4_; have BK132 := n5_; have HB := n6_; clear n0_ n1_ n2_ n3_ n4_ n5_ n6_; clear hb ho52; obtain ⟨Ao53, co53, eo_⟩ := Kd.R_slice HO153.out; subst eo_) | ((with_reducible refine gate_builtin (b := .append) (xs := #[.tmp 83, .tmp 89]) rfl ?_); at_builtin; refine Ins.ins_mid k76 (w0 := w) w.heap.size rfl (.tmp 83) (.tmp 89) 26 76 (.agg #[(.slice none 0 0), (.slice none 0 0)]) 48 rfl Try.underlying26 info76 rfl (by decide) (by omega) (by repeat (first | exact HMid.out | refine Ins.Mid.alloc ?_ _ | refine Ins.Mid.drewN ?_ _ | refine Ins.Mid.drew ?_)) (⟨x7_2, y151⟩ : S76) [.slice Ao47 x7_2.length co47, .slice Ao53 y151.length co53] (fun k_ => some k_ = (.slice Ao47 x7_2.length co47 : Value).ownBlock ∨ some k_ = (.slice Ao53 y151.length co53 : Value).ownBlock) rfl rfl ?aP ?aF ?aN ?aB ?aS ?aL ?_; (case aP => exact k76_mkM _ _ _ (⟨x7_2, y151⟩ : S76) (Kd.R_mono (Kd.R_tight rfl (by (with_reducible repeat (first | apply Kd.R_alloc | apply Kd.R_drewN | apply Kd.R_drew)); exact HO_7.out)) (fun _ h_ => Or.inl h_)) (Kd.R_mono (Kd.R_tight rfl (by (with_reducible repeat (first | apply Kd.R_alloc | apply Kd.R_drewN | apply Kd.R_drew)); exact HO153.out)) (fun _ h_ => Or.inr h_))); (case aF => exact (fun k_ hk_ => HF_.out k_ (hk_.elim (fun h_ => .inl h_) (fun h_ => .inr (HNE_.out k_ h_.symm).1)))); (case aN => exact (fun k_ hk_ => hk_.elim (fun h_ h2_ => Ins.two_types HO_7.out HMid.out.2.1 (by decide) k_ h_ h2_) (fun h_ => (HNE_.out k_ h_.symm).2))); (case aB => exact blw); (case aS => exact (below_size blw)); (case aL => have := LMc43.out; have := KL_.out; rw [List.length_take, List.length_zipIdx]; omega); intro v2_ w2_ hM_ hb_ hg; have n0_ := Aside0.mk (blk_grown (g := gb129) (o := .cells #[.int .i64 a0_0, .int .i64 a0_1, .slice (some ad131) l0_2.length c0_2] 31 (0, 0)) bkw hg (Kd.R_ne HMid.out.2.1 BK129.out (by decide))); have n1_ := Aside0.mk (blk_grown (g := gb132) (o := .cells #[.int .i64 ((rd_T69 l0_2 x18_1).f0), .slice A131_1 ((rd_T69 l0_2 x18_1).f1).length c131_1] 69 (0, 0)) bkw hg (Kd.R_ne HMid.out.2.1 BK132.out (by decide))); have n2_ := Aside0.mk (hM_); have n3_ := Aside0.mk (hb_); (try clear BK129); (try clear BK132); (try clear HMid); (try clear HB); have BK129 := n0_; have BK132 := n1_; have HMid := n2_; have HB := n3_; clear n0_ n1_ n2_ n3_; clear HO_7; clear HO153; clear HNE_; clear HF_; clear hM_ hb_ hg) | ((with_reducible refine gate_builtin (b := .append) (xs := #[.tmp 91, .tmp 94]) rfl ?_); at_builtin; refine Ins.ins_last k76 (w0 := w) w.heap.size rfl (.tmp 91) (.tmp 94) 26 76 (.agg #[(.slice none 0 0), (.slice none 0 0)]) 48 rfl Try.underlying26 info76 rfl (by decide) (by omega) (by repeat (first | exact HMid.out | refine Ins.Mid.alloc ?_ _ | refine Ins.Mid.drewN ?_ _ | refine Ins.Mid.drew ?_)) KL_.out rfl rfl KA_.out KN_.out ?aB ?aS ?aL ?_; (case aB => exact blw); (case aS => exact (below_size blw)); (case aL => have := LMc43.out; omega); intro v3_ w3_ hS_ hb_ hg; rw [KK_.out] at hS_; rw [← Ny154.out] at hS_; have n0_ := Aside0.mk (blk_grown (g := gb129) (o := .cells #[.int .i64 a0_0, .int .i64 a0_1, .slice (some ad131) l0_2.length c0_2] 31 (0, 0)) bkw hg (Kd.R_ne HMid.out.2.1 BK129.out (by decide))); have n1_ := Aside0.mk (blk_grown (g := gb132) (o := .cells #[.int .i64 ((rd_T69 l0_2 x18_1).f0), .slice A131_1 ((rd_T69 l0_2 x18_1).f1).length c131_1] 69 (0, 0)) bkw hg (Kd.R_ne HMid.out.2.1 BK132.out (by decide))); have n2_ := Aside0.mk (hS_); have n3_ := Aside0.mk (hb_); (try clear BK129); (try clear BK132); (try clear HO156); (try clear HB); have BK129 := n0_; have BK132 := n1_; have HO156 := n2_; have HB := n3_; clear n0_ n1_ n2_ n3_; clear HMid; clear hS_ hb_ hg))
                  go_roundg k3
                  case measure => have := HK1.out; have := HK2.out; have := HK3.out; omega
                  case rel => exact ⟨(y154), (wrap64 (x18_1 + 1)), (by first | rfl | (simp; done) | (simp [*]; done)), H', ⟨by have := HK1.out; have := HK2.out; have := HK3.out; omega⟩, ⟨by (with_reducible repeat (first | apply Kd.S_alloc | apply Kd.S_drewN | apply Kd.S_drew)); exact HO156.out⟩, ⟨by (with_reducible repeat (first | refine blk_drewN ?_ _ | refine blk_drew ?_ | refine blk_alloc ?_ _)); exact BK129.out⟩, ⟨blw⟩⟩
                 ·rw [if_neg c43] at H
                  exact absurd H (by simp)
                ·rw [if_neg c42] at H
                 exact absurd H (by simp)
             ·rw [if_neg c24] at H
              exact absurd H (by simp)
            ·rw [if_neg c23] at H
             have c23b0 : decide (x10_3 < (x4_1.length : Int)) = false := decide_eq_false c23
             clear c23
             by_cases c56 : 0 ≤ x10_3
             ·rw [if_pos c56] at H
              have c56b0 := eq_true c56
              have c56b1 : decide (0 ≤ x10_3) = true := decide_eq_true c56
              clear c56
              by_cases c57 : x10_3 ≤ (x4_1.length : Int)
              ·rw [if_pos c57] at H
               have c57b0 := eq_true c57
               have c57b1 : decide (x10_3 ≤ (x4_1.length : Int)) = true := decide_eq_true c57
               clear c57
               obtain ⟨y161, hy161⟩ : ∃ y_ : List (S76), y_ = (x4_1.take (x10_3 : Int).toNat) := ⟨_, rfl⟩
               replace H : (if x4_1.length < 2932031007402 then (spec_KindsOf.l0 k3 (x4_1.take (x10_3 : Int).toNat ++ [(⟨x7_2, (([((rd_T69 l0_2 x18_1).f0)] : List Int))⟩ : S76)] ++ x4_1.drop (x10_3 : Int).toNat) l0_2 (l0_2.length : Int) (wrap64 (x18_1 + 1))) else (none)) = some (r1, r2) := by first | (rw [hy161]; with_reducible exact H) | (have H2_ := (Option.bind_some _ _).symm.trans H; rw [hy161]; with_reducible exact H2_) | (have H2_ := (Option.bind_some _ _).symm.trans H; with_reducible exact H2_) | with_reducible exact H | (rw [hy161]; exact H) | exact H
               have Ny161 := Aside0.mk hy161
               clear hy161
               obtain ⟨y165, hy165⟩ : ∃ y_ : List Int, y_ = (([((rd_T69 l0_2 x18_1).f0)] : List Int)) := ⟨_, rfl⟩
               replace H : (if x4_1.length < 2932031007402 then (spec_KindsOf.l0 k3 (x4_1.take (x10_3 : Int).toNat ++ [(⟨x7_2, y165⟩ : S76)] ++ x4_1.drop (x10_3 : Int).toNat) l0_2 (l0_2.length : Int) (wrap64 (x18_1 + 1))) else (none)) = some (r1, r2) := by first | (rw [hy165]; with_reducible exact H) | (have H2_ := (Option.bind_some _ _).symm.trans H; rw [hy165]; with_reducible exact H2_) | (have H2_ := (Option.bind_some _ _).symm.trans H; with_reducible exact H2_) | with_reducible exact H | (rw [hy165]; exact H) | exact H
               have Ny165 := Aside0.mk hy165
               clear hy165
               by_cases c58 : x4_1.length < 2932031007402
               ·rw [if_pos c58] at H
                have LMc58 := Aside0.mk c58
                clear c58
                obtain ⟨y168, hy168⟩ : ∃ y_ : List (S76), y_ = (x4_1.take (x10_3 : Int).toNat ++ [(⟨x7_2, y165⟩ : S76)] ++ x4_1.drop (x10_3 : Int).toNat) := ⟨_, rfl⟩
                replace H : (spec_KindsOf.l0 k3 y168 l0_2 (l0_2.length : Int) (wrap64 (x18_1 + 1))) = some (r1, r2) := by first | (rw [hy168]; with_reducible exact H) | (have H2_ := (Option.bind_some _ _).symm.trans H; rw [hy168]; with_reducible exact H2_) | (have H2_ := (Option.bind_some _ _).symm.trans H; with_reducible exact H2_) | with_reducible exact H | (rw [hy168]; exact H) | exact H
                have Ny168 := Aside0.mk hy168
                clear hy168
                have c59b0 := eq_true (odt : 0 ≤ x10_3)
                have c60b0 := eq_true (odt : x10_3 ≤ (x4_1.length : Int))
                obtain ⟨y171, hy171⟩ : ∃ y_ : List (S76), y_ = (x4_1.drop (x10_3 : Int).toNat) := ⟨_, rfl⟩
                replace H : (spec_KindsOf.l0 k3 y168 l0_2 (l0_2.length : Int) (wrap64 (x18_1 + 1))) = some (r1, r2) := by first | (rw [hy171]; with_reducible exact H) | (have H2_ := (Option.bind_some _ _).symm.trans H; rw [hy171]; with_reducible exact H2_) | (have H2_ := (Option.bind_some _ _).symm.trans H; with_reducible exact H2_) | with_reducible exact H | (rw [hy171]; exact H) | exact H
                have Ny171 := Aside0.mk hy171
                clear hy171
                have H' := Aside0.mk H
                clear H
                obtain ⟨Ao61, co61, eo61⟩ := Kd.S_slice HO_4.out
                subst eo61
                have hnb63 := NB132_129.out
                have hnc63 := NB129_132.out
                have hcz64_0 : wr.cell? ⟨gb132, 0, none⟩ = some (.int .i64 ((rd_T69 l0_2 x18_1).f0)) := (blk_cell BK132.out 0).trans rfl
                have hcz64_1 : wr.cell? ⟨gb132, 1, none⟩ = some (.slice A131_1 ((rd_T69 l0_2 x18_1).f1).length c131_1) := (blk_cell BK132.out 1).trans rfl
                have hfz64_0 := blk_frozen BK132.out 0
                have hfz64_1 := blk_frozen BK132.out 1
                obtain ⟨i0_, hi0_, _, hsz0_, _⟩ := info_parts info76
                have hroom_ : x4_1.length ≤ co61 := (Kd.S_reads' HO_4.out).2.1
                have h0_ : (0 : Int) ≤ (x10_3 : Int) := odt
                have h1_ : (x10_3 : Int) ≤ (x4_1.length : Int) := odt
                have hcutA_ := cut_to (P := Try.prog) 26 76 .i64 Try.underlying26 hi0_ Ao61 x4_1.length co61 x10_3 h0_ h1_ hroom_
                have hcutB_ := cut_from (P := Try.prog) 26 76 .i64 Try.underlying26 hi0_ 2 hsz0_ Ao61 x4_1.length co61 x10_3 h0_ h1_
                obtain ⟨kk_, hkk_⟩ : ∃ n_ : Nat, n_ = (x10_3 : Int).toNat := ⟨_, rfl⟩
                rw [← hkk_] at hcutA_ hcutB_
                obtain ⟨AB_, hAB_⟩ : ∃ A1, A1 = (if co61 = kk_ then Ao61 else (Ao61 : Option Addr).map (·.add (kk_ * 2))) := ⟨_, rfl⟩
                obtain ⟨nB_, hnB_⟩ : ∃ n_, n_ = x4_1.length - kk_ := ⟨_, rfl⟩
                obtain ⟨cB_, hcB_⟩ : ∃ n_, n_ = co61 - kk_ := ⟨_, rfl⟩
                rw [← hAB_, ← hnB_, ← hcB_] at hcutB_
                have KA_ := Aside0.mk hAB_
                have KN_ := Aside0.mk hnB_
                have KK_ := Aside0.mk hkk_
                have KL_ := Aside0.mk (show kk_ ≤ x4_1.length from by omega)
                clear hAB_ hnB_ hkk_ hcB_ hroom_ hi0_ hsz0_ h0_ h1_
                obtain ⟨Ao68, co68, eo7_⟩ := Kd.R_slice HO_7.out
                subst eo7_
                go_wp2_with (first | ((with_reducible refine gate_builtin (b := .append) (xs := #[.tmp 78, .tmp 81]) rfl ?_); at_builtin; refine Ins.ins_first k76 (w0 := w) w.heap.size rfl (.tmp 78) (.tmp 81) 26 76 (.agg #[(.slice none 0 0), (.slice none 0 0)]) 48 rfl Try.underlying26 info76 rfl (by decide) (by omega) x4_1 Ao61 x4_1.length kk_ co61 co61 (fun k_ => some k_ ≠ (.slice Ao68 x7_2.length co68 : Value).ownBlock) (fun k_ => some k_ = (.slice Ao68 x7_2.length co68 : Value).ownBlock) rfl rfl ?aO KL_.out (fun k_ h_ _ h2_ => h2_ h_) ?aB ?aS ?aL ?_; (case aO => exact (by (with_reducible repeat (first | apply Kd.S_alloc | apply Kd.S_drewN | apply Kd.S_drew)); exact HO_4.out)); (case aB => exact blw); (case aS => exact (below_size blw)); (case aL => have := LMc58.out; have := KL_.out; omega); intro f_ N0_ v1_ w1_ hf_ hM_ hb_ hbl_; have n0_ := Aside0.mk (hM_); have n1_ := Aside0.mk (hf_); have n2_ := Aside0.mk (Kd.R_below (by (with_reducible repeat (first | apply Kd.R_alloc | apply Kd.R_drewN | apply Kd.R_drew)); exact HO_7.out) hbl_); have n3_ := Aside0.mk (blk_below (g := gb129) (o := .cells #[.int .i64 a0_0, .int .i64 a0_1, .slice (some ad131) l0_2.length c0_2] 31 (0, 0)) bkw hbl_); have n4_ := Aside0.mk (blk_below (g := gb132) (o := .cells #[.int .i64 ((rd_T69 l0_2 x18_1).f0), .slice A131_1 ((rd_T69 l0_2 x18_1).f1).length c131_1] 69 (0, 0)) bkw hbl_); have n5_ := Aside0.mk (hb_); (try clear HMid); (try clear HF_); (try clear HO_7); (try clear BK129); (try clear BK132); (try clear HB); have HMid := n0_; have HF_ := n1_; have HO_7 := n2_; have BK129 := n3_; have BK132 := n4_; have HB := n5_; clear n0_ n1_ n2_ n3_ n4_ n5_; clear HO_4; clear hf_ hM_ hb_ hbl_; have hczA_ : w1_.cell? ⟨gb132, 0, none⟩ = some (.int .i64 ((rd_T69 l0_2 x18_1).f0)) := (blk_cell BK132.out 0).trans rfl; have hfzA_ := blk_frozen BK132.out 0) | ((with_reducible refine gate_dst (N := 87) rfl ?_); refine Kd.R_lit (Kd.int .i64) _ 3 ?hg (N := 87) ?hd (xs := ([((rd_T69 l0_2 x18_1).f0)] : List Int)) (inner := [.int .i64 ((rd_T69 l0_2 x18_1).f0)]) (ok := fun _ => True) (okp := fun _ => True) ?hr ?hp (fun _ hk => hk) trivial (Below.refl _ _) (Nat.le_refl _) (by simp) ?_; (case hd => rfl); (case hg => rfl); (case hr => first | (go_simp; done) | (go_simp; rfl)); (case hp => exact (Reps.one (show Kd.M (Kd.int .i64) _ _ _ ((rd_T69 l0_2 x18_1).f0) [.int .i64 ((rd_T69 l0_2 x18_1).f0)] from rfl) (Reps.none _ _))); intro v166 w65 ho66 hb hg_ hnew_; clear hg_ hnew_; (first | rw [← Ny165.out] at ho66 | (simp only [Int.reduceToNat] at ho66; rw [← Ny165.out] at ho66)); have n0_ := Aside0.mk (Ins.Mid.fresh (by repeat (first | exact HMid.out | refine Ins.Mid.alloc ?_ _ | refine Ins.Mid.drewN ?_ _ | refine Ins.Mid.drew ?_)) ho66); have n1_ := Aside0.mk (Ins.Mid.below (by repeat (first | exact HMid.out | refine Ins.Mid.alloc ?_ _ | refine Ins.Mid.drewN ?_ _ | refine Ins.Mid.drew ?_)) hb); have n2_ := Aside0.mk (Kd.R_below (by (with_reducible repeat (first | apply Kd.R_alloc | apply Kd.R_drewN | apply Kd.R_drew)); exact HO_7.out) hb); have n3_ := Aside0.mk (Kd.R_lower ho66 (below_size blw)); have n4_ := Aside0.mk (blk_below (g := gb129) (o := .cells #[.int .i64 a0_0, .int .i64 a0_1, .slice (some ad131) l0_2.length c0_2] 31 (0, 0)) bkw hb); have n5_ := Aside0.mk (blk_below (g := gb132) (o := .cells #[.int .i64 ((rd_T69 l0_2 x18_1).f0), .slice A131_1 ((rd_T69 l0_2 x18_1).f1).length c131_1] 69 (0, 0)) bkw hb); have n6_ := Aside0.mk (below_step blw hb); (try clear HNE_); (try clear HMid); (try clear HO_7); (try clear HO167); (try clear BK129); (try clear BK132); (try clear HB); have HNE_ := n0_; have HMid := n1_; have HO_7 := n2_; have HO167 := n3_; have BK129 := n4_; have BK132 := n5_; have HB := n6_; clear n0_ n1_ n2_ n3_ n4_ n5_ n6_; clear hb ho66; obtain ⟨Ao67, co67, eo_⟩ := Kd.R_slice HO167.out; subst eo_) | ((with_reducible refine gate_builtin (b := .append) (xs := #[.tmp 83, .tmp 89]) rfl ?_); at_builtin; refine Ins.ins_mid k76 (w0 := w) w.heap.size rfl (.tmp 83) (.tmp 89) 26 76 (.agg #[(.slice none 0 0), (.slice none 0 0)]) 48 rfl Try.underlying26 info76 rfl (by decide) (by omega) (by repeat (first | exact HMid.out | refine Ins.Mid.alloc ?_ _ | refine Ins.Mid.drewN ?_ _ | refine Ins.Mid.drew ?_)) (⟨x7_2, y165⟩ : S76) [.slice Ao68 x7_2.length co68, .slice Ao67 y165.length co67] (fun k_ => some k_ = (.slice Ao68 x7_2.length co68 : Value).ownBlock ∨ some k_ = (.slice Ao67 y165.length co67 : Value).ownBlock) rfl rfl ?aP ?aF ?aN ?aB ?aS ?aL ?_; (case aP => exact k76_mkM _ _ _ (⟨x7_2, y165⟩ : S76) (Kd.R_mono (Kd.R_tight rfl (by (with_reducible repeat (first | apply Kd.R_alloc | apply Kd.R_drewN | apply Kd.R_drew)); exact HO_7.out)) (fun _ h_ => Or.inl h_)) (Kd.R_mono (Kd.R_tight rfl (by (with_reducible repeat (first | apply Kd.R_alloc | apply Kd.R_drewN | apply Kd.R_drew)); exact HO167.out)) (fun _ h_ => Or.inr h_))); (case aF => exact (fun k_ hk_ => HF_.out k_ (hk_.elim (fun h_ => .inl h_) (fun h_ => .inr (HNE_.out k_ h_.symm).1)))); (case aN => exact (fun k_ hk_ => hk_.elim (fun h_ h2_ => Ins.two_types HO_7.out HMid.out.2.1 (by decide) k_ h_ h2_) (fun h_ => (HNE_.out k_ h_.symm).2))); (case aB => exact blw); (case aS => exact (below_size blw)); (case aL => have := LMc58.out; have := KL_.out; rw [List.length_take, List.length_zipIdx]; omega); intro v2_ w2_ hM_ hb_ hg; have n0_ := Aside0.mk (blk_grown (g := gb129) (o := .cells #[.int .i64 a0_0, .int .i64 a0_1, .slice (some ad131) l0_2.length c0_2] 31 (0, 0)) bkw hg (Kd.R_ne HMid.out.2.1 BK129.out (by decide))); have n1_ := Aside0.mk (blk_grown (g := gb132) (o := .cells #[.int .i64 ((rd_T69 l0_2 x18_1).f0), .slice A131_1 ((rd_T69 l0_2 x18_1).f1).length c131_1] 69 (0, 0)) bkw hg (Kd.R_ne HMid.out.2.1 BK132.out (by decide))); have n2_ := Aside0.mk (hM_); have n3_ := Aside0.mk (hb_); (try clear BK129); (try clear BK132); (try clear HMid); (try clear HB); have BK129 := n0_; have BK132 := n1_; have HMid := n2_; have HB := n3_; clear n0_ n1_ n2_ n3_; clear HO_7; clear HO167; clear HNE_; clear HF_; clear hM_ hb_ hg) | ((with_reducible refine gate_builtin (b := .append) (xs := #[.tmp 91, .tmp 94]) rfl ?_); at_builtin; refine Ins.ins_last k76 (w0 := w) w.heap.size rfl (.tmp 91) (.tmp 94) 26 76 (.agg #[(.slice none 0 0), (.slice none 0 0)]) 48 rfl Try.underlying26 info76 rfl (by decide) (by omega) (by repeat (first | exact HMid.out | refine Ins.Mid.alloc ?_ _ | refine Ins.Mid.drewN ?_ _ | refine Ins.Mid.drew ?_)) KL_.out rfl rfl KA_.out KN_.out ?aB ?aS ?aL ?_; (case aB => exact blw); (case aS => exact (below_size blw)); (case aL => have := LMc58.out; omega); intro v3_ w3_ hS_ hb_ hg; rw [KK_.out] at hS_; rw [← Ny168.out] at hS_; have n0_ := Aside0.mk (blk_grown (g := gb129) (o := .cells #[.int .i64 a0_0, .int .i64 a0_1, .slice (some ad131) l0_2.length c0_2] 31 (0, 0)) bkw hg (Kd.R_ne HMid.out.2.1 BK129.out (by decide))); have n1_ := Aside0.mk (blk_grown (g := gb132) (o := .cells #[.int .i64 ((rd_T69 l0_2 x18_1).f0), .slice A131_1 ((rd_T69 l0_2 x18_1).f1).length c131_1] 69 (0, 0)) bkw hg (Kd.R_ne HMid.out.2.1 BK132.out (by decide))); have n2_ := Aside0.mk (hS_); have n3_ := Aside0.mk (hb_); (try clear BK129); (try clear BK132); (try clear HO170); (try clear HB); have BK129 := n0_; have BK132 := n1_; have HO170 := n2_; have HB := n3_; clear n0_ n1_ n2_ n3_; clear HMid; clear hS_ hb_ hg))
                go_roundg k3
                case measure => have := HK1.out; have := HK2.out; have := HK3.out; omega
                case rel => exact ⟨(y168), (wrap64 (x18_1 + 1)), (by first | rfl | (simp; done) | (simp [*]; done)), H', ⟨by have := HK1.out; have := HK2.out; have := HK3.out; omega⟩, ⟨by (with_reducible repeat (first | apply Kd.S_alloc | apply Kd.S_drewN | apply Kd.S_drew)); exact HO170.out⟩, ⟨by (with_reducible repeat (first | refine blk_drewN ?_ _ | refine blk_drew ?_ | refine blk_alloc ?_ _)); exact BK129.out⟩, ⟨blw⟩⟩
               ·rw [if_neg c58] at H
                exact absurd H (by simp)
              ·rw [if_neg c57] at H
               exact absurd H (by simp)
             ·rw [if_neg c56] at H
              exact absurd H (by simp)
      ·rw [if_neg c10] at H
       exact absurd H (by simp)
     ·rw [if_neg c9] at H
      exact absurd H (by simp)
    ·rw [if_neg c8] at H
     have c8b0 : decide (x18_1 < (l0_2.length : Int)) = false := decide_eq_false c8
     clear c8
     simp only [Option.some.injEq, Prod.mk.injEq] at H
     obtain ⟨rfl, rfl⟩ := H
     go_wp2
     go_ret2
     exact ⟨_, by first | rfl | (simp [errW_none, errW_some] <;> rfl) | (simp [*, errW_none, errW_some] <;> rfl), by (with_reducible repeat (first | apply Kd.S_alloc | apply Kd.S_drewN | apply Kd.S_drew)); exact HO_4.out, blw⟩
 ·replace c3 := Bool.eq_false_iff.mpr c3
  subst c3
  have H1 : (some (([] : List (S76)), false)) = some (r1, r2) := by rw [if_neg (show ¬ (false = true) by decide)] at H; exact H
  clear H
  have H := H1
  clear H1
  simp only [Option.some.injEq, Prod.mk.injEq] at H
  obtain ⟨rfl, rfl⟩ := H
  go_enter Try.func8, Try.ntmps8
  go_wp2_with (first | ((with_reducible refine gate_dst (N := 1) rfl ?_); refine box_event ?hg (N := 1) ?hd (cs := #[.int .i64 a0_0, .int .i64 a0_1, .slice A0_2 l0_2.length c0_2]) (t := 31) ?hr ?_; (case hd => rfl); (case hg => rfl); (case hr => first | (go_simp; done) | (go_simp; rfl)); intro gb129 hg w71 hbox hb; have n0_ := Aside0.mk (below_step blw hb); have n1_ := Aside0.mk (hbox); have n2_ := Aside0.mk ((by rw [hg]; exact (below_size blw) : w.heap.size ≤ gb129)); have n3_ := Aside0.mk ((by rw [hg]; exact (below_size blw) : w.heap.size ≤ gb129)); clear HB; have HB := n0_; have BK129 := n1_; have GW129 := n2_; have GE129 := n3_; clear n0_ n1_ n2_ n3_; clear hb hbox hg; have hcz72_0 : w71.cell? ⟨gb129, 0, none⟩ = some (.int .i64 a0_0) := (blk_cell BK129.out 0).trans rfl; have hcz72_1 : w71.cell? ⟨gb129, 1, none⟩ = some (.int .i64 a0_1) := (blk_cell BK129.out 1).trans rfl; have hcz72_2 : w71.cell? ⟨gb129, 2, none⟩ = some (.slice A0_2 l0_2.length c0_2) := (blk_cell BK129.out 2).trans rfl; have hfz72_0 := blk_frozen BK129.out 0; have hfz72_1 := blk_frozen BK129.out 1; have hfz72_2 := blk_frozen BK129.out 2) | ((with_reducible refine gate_callee (f := 38) rfl ?_); refine goesL_ (some 13) rfl rfl Try.func38 (by kernel_rfl) rfl #[.agg #[.int .i64 a0_0, .int .i64 a0_1, .slice A0_2 l0_2.length c0_2]] rfl (by (try simp only [List.map_toArray, List.map_cons, List.map_nil]); first | done | rfl | (simp only [List.length_drop, List.length_take]; rfl)) ?_; (with_reducible refine (spec_GoodWorld.calls k a0_0 a0_1 _ _ l0_2 false _ ?side1 ?side2 A2.out).mono ?_); (case side1 => repeat (first | exact (Kd.C_below HR0_2.out HB.out) | (with_reducible refine Kd.C_alloc ?_ _) | (with_reducible refine Kd.C_drewN ?_ _) | (with_reducible refine Kd.C_drew ?_))); (case side2 => exact HC0_2.out); rintro e w73 ⟨rfl, hb⟩; refine ⟨_, rfl, ?_⟩; have n0_ := Aside0.mk (blk_below (g := gb129) (o := .cells #[.int .i64 a0_0, .int .i64 a0_1, .slice A0_2 l0_2.length c0_2] 31 (0, 0)) bkw hb); have n1_ := Aside0.mk (below_step blw hb); clear BK129; clear HB; have BK129 := n0_; have HB := n1_; clear n0_ n1_; (try clear hb); (try clear hb2); (try clear hk); (try clear hi)))
  go_ret2
  exact ⟨_, by first | rfl | (simp [errW_none, errW_some] <;> rfl) | (simp [*, errW_none, errW_some] <;> rfl), by first | exact Kd.S_nil _ _ _ _ _ | exact Kd.N_nil _ _ _ _ _ | exact Kd.V_nil _ _ _ _ _ | exact Kd.Q_nil _ _ _ _ _ | exact Kd.R_nil _ _ _ _ _, blw⟩

end Go.Proofs.Ytiaajmnmbjheoaa.PFnExactKindsOf
