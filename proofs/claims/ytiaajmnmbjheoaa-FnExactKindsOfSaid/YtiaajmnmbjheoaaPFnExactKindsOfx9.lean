/- The machine's side of a law, function by function: a Lean function with the Go function's answers and the proof that the Go code comes to them. No condition. Written by this session's program over the kit's print, this session's own contracts set in. -/
import Derived.Test.YtiaajmnmbjheoaaPFnExactKindsOfx0
import Derived.Test.YtiaajmnmbjheoaaPFnExactKindsOfx7
import Derived.Test.YtiaajmnmbjheoaaPFnExactKindsOfx8
namespace Go.Proofs.Ytiaajmnmbjheoaa.PFnExactKindsOf
open Go.RowKit Go.Proofs.YtiaajmnmbjheoaaW.PrintWords Go.Proofs.YtiaajmnmbjheoaaW.PrintLast Go.Proofs.YtiaajmnmbjheoaaW.PrintMore
attribute [local go_sem] max2_int min2_int max_two min_two max_three min_three max_four min_four   -- for this text's walks alone
set_option linter.unusedVariables false
set_option linter.unusedSimpArgs false

/-! ### impl_KindsOf: function 10 -/
mutual
def impl_KindsOf.l0 : Nat → List (S76) → List (S69) → Int → Int → Option ((List (S76)) × Bool)
 | 0, _, _, _, _ => none
 | k + 1, x4, x16, x17, x18 => if x18 < x17 then (if 0 ≤ x18 then (if x18 < (x16.length : Int) then (impl_KindsOf.l1 k x4 x16 x17 x18 ((rd_T69 x16 x18).f1) (((rd_T69 x16 x18).f1).length : Int) 0 (([] : List ByteArray)) ((rd_T69 x16 x18).f0) ((rd_T69 x16 x18).f1)) else (none)) else (none)) else ((impl_Kind_45.f x4).bind fun t235 => (some (t235, true)))
def impl_KindsOf.l1 : Nat → List (S76) → List (S69) → Int → Int → List (S72) → Int → Int → List ByteArray → Int → List (S72) → Option ((List (S76)) × Bool)
 | 0, _, _, _, _, _, _, _, _, _, _ => none
 | k + 1, x4, x16, x17, x18, x24, x25, x26, x66, x240000, x240001 => if x26 < x25 then (if 0 ≤ x26 then (if x26 < (x24.length : Int) then (if x66.length < 8796093022208 then (impl_KindsOf.l1 k x4 x16 x17 x18 x24 x25 (wrap64 (x26 + 1)) (x66 ++ [(rd_T72 x24 x26).f0]) x240000 x240001) else (none)) else (none)) else (none)) else ((impl_Kind_42.f k x4 x66).bind fun t249 => (if t249 < 0 then (if x4.length < 2932031007402 then ((some (x4 ++ [(⟨x66, ([] : List Int)⟩ : S76)] : List (S76))).bind fun y250 => (if 0 ≤ (x4.length : Int) then (if (x4.length : Int) < (y250.length : Int) then (if ((rd_T76 y250 (x4.length : Int)).f1).length < 17592186044416 then (impl_KindsOf.l0 k (y250.set ((x4.length : Int) : Int).toNat (⟨(rd_T76 y250 (x4.length : Int)).f0, (((rd_T76 y250 (x4.length : Int)).f1) ++ [x240000])⟩ : S76)) x16 x17 (wrap64 (x18 + 1))) else (none)) else (none)) else (none))) else (none)) else (if 0 ≤ t249 then (if t249 < (x4.length : Int) then (if ((rd_T76 x4 t249).f1).length < 17592186044416 then (impl_KindsOf.l0 k (x4.set (t249 : Int).toNat (⟨(rd_T76 x4 t249).f0, (((rd_T76 x4 t249).f1) ++ [x240000])⟩ : S76)) x16 x17 (wrap64 (x18 + 1))) else (none)) else (none)) else (none))))
end
def impl_KindsOf.f (k : Nat) (a0_0 : Int) (a0_1 : Int) (l0_2 : List (S69)) : Option ((List (S76)) × Bool) := (impl_GoodWorld.f k a0_0 a0_1 l0_2).bind fun t231 => (if t231 = true then (impl_KindsOf.l0 k (([] : List (S76))) l0_2 (l0_2.length : Int) 0) else (some (([] : List (S76)), false)))
theorem impl_KindsOf.mono_l : ∀ k, (∀ y0 y1 y2 y3, LeO (impl_KindsOf.l0 k y0 y1 y2 y3) (impl_KindsOf.l0 (k + 1) y0 y1 y2 y3)) ∧ (∀ y0 y1 y2 y3 y4 y5 y6 y7 y8 y9, LeO (impl_KindsOf.l1 k y0 y1 y2 y3 y4 y5 y6 y7 y8 y9) (impl_KindsOf.l1 (k + 1) y0 y1 y2 y3 y4 y5 y6 y7 y8 y9))
 | 0 => ⟨fun _ _ _ _ r h => by simp [impl_KindsOf.l0] at h, fun _ _ _ _ _ _ _ _ _ _ r h => by simp [impl_KindsOf.l1] at h⟩
 | k + 1 => by
  obtain ⟨ih0, ih1⟩ := impl_KindsOf.mono_l k
  refine ⟨?_, ?_⟩
  ·intro y0 y1 y2 y3
   unfold impl_KindsOf.l0
   repeat' first
   | (with_reducible exact ih0 _ _ _ _)
   | (with_reducible exact ih1 _ _ _ _ _ _ _ _ _ _)
   | (with_reducible exact impl_GoodWorld.mono _ _ _ _)
   | (with_reducible exact impl_Kind_42.mono _ _ _)
   | (with_reducible exact LeO.refl _)
   | (with_reducible exact LeO.none _)
   | (with_reducible refine LeO.ite ?_ ?_)
   | (with_reducible refine LeO.bind ?_ (fun _ => ?_))
   | exact ih0 _ _ _ _
   | exact ih1 _ _ _ _ _ _ _ _ _ _
   | exact impl_GoodWorld.mono _ _ _ _
   | exact impl_Kind_42.mono _ _ _
   | exact LeO.none _
   | refine LeO.ite ?_ ?_
   | refine LeO.bind ?_ (fun _ => ?_)
  ·intro y0 y1 y2 y3 y4 y5 y6 y7 y8 y9
   unfold impl_KindsOf.l1
   repeat' first
   | (with_reducible exact ih0 _ _ _ _)
   | (with_reducible exact ih1 _ _ _ _ _ _ _ _ _ _)
   | (with_reducible exact impl_GoodWorld.mono _ _ _ _)
   | (with_reducible exact impl_Kind_42.mono _ _ _)
   | (with_reducible exact LeO.refl _)
   | (with_reducible exact LeO.none _)
   | (with_reducible refine LeO.ite ?_ ?_)
   | (with_reducible refine LeO.bind ?_ (fun _ => ?_))
   | exact ih0 _ _ _ _
   | exact ih1 _ _ _ _ _ _ _ _ _ _
   | exact impl_GoodWorld.mono _ _ _ _
   | exact impl_Kind_42.mono _ _ _
   | exact LeO.none _
   | refine LeO.ite ?_ ?_
   | refine LeO.bind ?_ (fun _ => ?_)
theorem impl_KindsOf.mono : ∀ a0 a1 a2 k, LeO (impl_KindsOf.f k a0 a1 a2) (impl_KindsOf.f (k + 1) a0 a1 a2) := by
 intro a0 a1 a2 k
 obtain ⟨ih0, ih1⟩ := impl_KindsOf.mono_l k
 unfold impl_KindsOf.f
 repeat' first
   | (with_reducible exact ih0 _ _ _ _)
   | (with_reducible exact ih1 _ _ _ _ _ _ _ _ _ _)
   | (with_reducible exact impl_GoodWorld.mono _ _ _ _)
   | (with_reducible exact impl_Kind_42.mono _ _ _)
   | (with_reducible exact LeO.refl _)
   | (with_reducible exact LeO.none _)
   | (with_reducible refine LeO.ite ?_ ?_)
   | (with_reducible refine LeO.bind ?_ (fun _ => ?_))
   | exact ih0 _ _ _ _
   | exact ih1 _ _ _ _ _ _ _ _ _ _
   | exact impl_GoodWorld.mono _ _ _ _
   | exact impl_Kind_42.mono _ _ _
   | exact LeO.none _
   | refine LeO.ite ?_ ?_
   | refine LeO.bind ?_ (fun _ => ?_)
def impl_KindsOf.T17 : Bool × List (List Nat × List Nat) := (true, [([], []), ([], []), ([], []), ([], []), ([2, 3], [2, 3]), ([4], [4]), ([5], [5]), ([], []), ([7], [7]), ([8], [8]), ([6, 9], [6, 9]), ([0, 1, 0, 1, 2, 3, 4, 5, 6, 7, 8, 9, 10], [0, 1]), ([11, 0, 1, 2, 3, 4, 5, 6, 7, 8, 9, 10], [11]), ([12, 10, 10, 0, 1, 2, 3, 4, 5, 6, 7, 8, 9, 10], [10, 12])])
def impl_KindsOf.B17 : List Nat := [0, 0, 0, 0, 12, 28, 60, 0, 128, 384, 1020, 2047, 4095, 8191]
theorem impl_KindsOf.tab17 : rtab .any (opsOf Try.f10 17) = impl_KindsOf.T17 := by kernel_rfl
theorem impl_KindsOf.bits17 : waitsOk impl_KindsOf.T17.2 impl_KindsOf.B17 = true := by kernel_rfl
set_option maxHeartbeats 8000000 in
set_option maxRecDepth 100000 in
theorem impl_KindsOf.calls (k : Nat) (a0_0 : Int) (a0_1 : Int) (A0_2 : Option Addr) (c0_2 : Nat) (l0_2 : List (S69)) (r1 : List (S76)) (r2 : Bool) (w : World) (hr0_2 : Kd.C k69 w A0_2 l0_2.length l0_2) (hc0_2 : l0_2.length ≤ c0_2) (h : impl_KindsOf.f k a0_0 a0_1 l0_2 = some (r1, r2)) :
  Calls Try.prog 10 #[.agg #[.int .i64 a0_0, .int .i64 a0_1, .slice A0_2 l0_2.length c0_2]] w fun e w' => ∃ v0_ : Value, e = .returned (.tuple #[v0_, .bool r2]) ∧ Kd.S k76 76 w' w.heap.size (fun _ => True) v0_ r1 ∧ Below w.heap.size w w' := by
 have hu31 := Try.underlying31
 have hu69 := Try.underlying69
 have hu72 := Try.underlying72
 have hu76 := Try.underlying76
 have HR0_2 := Aside0.mk hr0_2
 have HC0_2 := Aside0.mk hc0_2
 clear hr0_2 hc0_2
 have HB := Aside0.mk (Below.refl w.heap.size w)
 have H : ((impl_GoodWorld.f k a0_0 a0_1 l0_2).bind fun t231 => (if t231 = true then (impl_KindsOf.l0 k (([] : List (S76))) l0_2 (l0_2.length : Int) 0) else (some (([] : List (S76)), false)))) = some (r1, r2) := h
 clear h
 replace H := Option.bind_eq_some_iff.mp H
 obtain ⟨t231, A20, H⟩ := H
 replace H : (if t231 = true then (impl_KindsOf.l0 k (([] : List (S76))) l0_2 (l0_2.length : Int) 0) else (some (([] : List (S76)), false))) = some (r1, r2) := H
 have A2 := Aside0.mk A20
 clear A20
 by_cases c3 : t231 = true
 ·subst c3
  have H1 : (impl_KindsOf.l0 k (([] : List (S76))) l0_2 (l0_2.length : Int) 0) = some (r1, r2) := by rw [if_pos rfl] at H; exact H
  clear H
  have H := H1
  clear H1
  obtain ⟨y232, hy232⟩ : ∃ y_ : List (S76), y_ = (([] : List (S76))) := ⟨_, rfl⟩
  replace H : (impl_KindsOf.l0 k y232 l0_2 (l0_2.length : Int) 0) = some (r1, r2) := by first | (rw [hy232]; with_reducible exact H) | (have H2_ := (Option.bind_some _ _).symm.trans H; rw [hy232]; with_reducible exact H2_) | (have H2_ := (Option.bind_some _ _).symm.trans H; with_reducible exact H2_) | with_reducible exact H | (rw [hy232]; exact H) | exact H
  have Ny232 := Aside0.mk hy232
  clear hy232
  have H' := Aside0.mk H
  clear H
  go_enter Try.func10, Try.ntmps10
  go_wp2_with (first | ((with_reducible refine gate_dst (N := 1) rfl ?_); refine box_event ?hg (N := 1) ?hd (cs := #[.int .i64 a0_0, .int .i64 a0_1, .slice A0_2 l0_2.length c0_2]) (t := 31) ?hr ?_; (case hd => rfl); (case hg => rfl); (case hr => first | (go_simp; done) | (go_simp; rfl)); intro gb230 hg w4 hbox hb; have n0_ := Aside0.mk (below_step blw hb); have n1_ := Aside0.mk (hbox); have n2_ := Aside0.mk ((by rw [hg]; exact (below_size blw) : w.heap.size ≤ gb230)); have n3_ := Aside0.mk ((by rw [hg]; exact (below_size blw) : w.heap.size ≤ gb230)); clear HB; have HB := n0_; have BK230 := n1_; have GW230 := n2_; have GE230 := n3_; clear n0_ n1_ n2_ n3_; clear hb hbox hg; have hcz5_0 : w4.cell? ⟨gb230, 0, none⟩ = some (.int .i64 a0_0) := (blk_cell BK230.out 0).trans rfl; have hcz5_1 : w4.cell? ⟨gb230, 1, none⟩ = some (.int .i64 a0_1) := (blk_cell BK230.out 1).trans rfl; have hcz5_2 : w4.cell? ⟨gb230, 2, none⟩ = some (.slice A0_2 l0_2.length c0_2) := (blk_cell BK230.out 2).trans rfl; have hfz5_0 := blk_frozen BK230.out 0; have hfz5_1 := blk_frozen BK230.out 1; have hfz5_2 := blk_frozen BK230.out 2) | ((with_reducible refine gate_callee (f := 41) rfl ?_); refine goesL_ (some 12) rfl rfl Try.func41 (by kernel_rfl) rfl #[.agg #[.int .i64 a0_0, .int .i64 a0_1, .slice A0_2 l0_2.length c0_2]] rfl (by (try simp only [List.map_toArray, List.map_cons, List.map_nil]); first | done | rfl | (simp only [List.length_drop, List.length_take]; rfl)) ?_; (with_reducible refine (impl_GoodWorld.calls k a0_0 a0_1 _ _ l0_2 true _ ?side1 ?side2 A2.out).mono ?_); (case side1 => repeat (first | exact (Kd.C_below HR0_2.out HB.out) | (with_reducible refine Kd.C_alloc ?_ _) | (with_reducible refine Kd.C_drewN ?_ _) | (with_reducible refine Kd.C_drew ?_))); (case side2 => exact HC0_2.out); rintro e w6 ⟨rfl, hb⟩; refine ⟨_, rfl, ?_⟩; have n0_ := Aside0.mk (blk_below (g := gb230) (o := .cells #[.int .i64 a0_0, .int .i64 a0_1, .slice A0_2 l0_2.length c0_2] 31 (0, 0)) bkw hb); have n1_ := Aside0.mk (below_step blw hb); clear BK230; clear HB; have BK230 := n0_; have HB := n1_; clear n0_ n1_; (try clear hb); (try clear hb2); (try clear hk); (try clear hi)) | ((with_reducible refine gate_dst (N := 14) rfl ?_); refine Kd.S_lit k76 _ 76 ?hg (N := 14) ?hd (xs := ([] : List (S76))) (inner := []) (ok := fun _ => True) (okp := fun _ => True) ?hr ?hp (fun _ hk => hk) trivial (Below.refl _ _) (Nat.le_refl _) (by simp) ?_; (case hd => rfl); (case hg => rfl); (case hr => first | (go_simp; done) | (go_simp; rfl)); (case hp => exact (Reps.none _ _)); intro v233 w7 ho8 hb hg_ hnew_; clear hg_ hnew_; (first | rw [← Ny232.out] at ho8 | (simp only [Int.reduceToNat] at ho8; rw [← Ny232.out] at ho8)); have n0_ := Aside0.mk (Kd.S_lower ho8 (below_size blw)); have n1_ := Aside0.mk (blk_below (g := gb230) (o := .cells #[.int .i64 a0_0, .int .i64 a0_1, .slice A0_2 l0_2.length c0_2] 31 (0, 0)) bkw hb); have n2_ := Aside0.mk (below_step blw hb); clear BK230; clear HB; have HO234 := n0_; have BK230 := n1_; have HB := n2_; clear n0_ n1_ n2_; clear hb ho8; have hcz9_0 : w7.cell? ⟨gb230, 0, none⟩ = some (.int .i64 a0_0) := (blk_cell BK230.out 0).trans rfl; have hcz9_1 : w7.cell? ⟨gb230, 1, none⟩ = some (.int .i64 a0_1) := (blk_cell BK230.out 1).trans rfl; have hcz9_2 : w7.cell? ⟨gb230, 2, none⟩ = some (.slice A0_2 l0_2.length c0_2) := (blk_cell BK230.out 2).trans rfl; have hfz9_0 := blk_frozen BK230.out 0; have hfz9_1 := blk_frozen BK230.out 1; have hfz9_2 := blk_frozen BK230.out 2))
  go_loopg [4, 18] k (fun kq v4 v18 w' => ∃ (x4_1 : List (S76)) (x18_1 : Int), v18 = .int .i64 x18_1 ∧ Aside0 (impl_KindsOf.l0 kq x4_1 l0_2 (l0_2.length : Int) x18_1 = some (r1, r2)) ∧ Aside0 (kq ≤ k) ∧ Aside0 (Kd.S k76 76 w' w.heap.size (fun _ => True) v4 x4_1) ∧ Aside0 (w'.heap[gb230]? = some (.cells #[.int .i64 a0_0, .int .i64 a0_1, (.slice A0_2 l0_2.length c0_2)] 31 (0, 0))) ∧ Aside0 (Below w.heap.size w w'))
  case atStart => exact ⟨(y232), (0), (by first | rfl | (simp; done) | (simp [*]; done)), H', ⟨Nat.le_refl _⟩, ⟨by (with_reducible repeat (first | apply Kd.S_alloc | apply Kd.S_drewN | apply Kd.S_drew)); exact HO234.out⟩, ⟨by (with_reducible repeat (first | refine blk_drewN ?_ _ | refine blk_drew ?_ | refine blk_alloc ?_ _)); exact BK230.out⟩, ⟨blw⟩⟩
  case round =>
   clear H'
   try clear c1
   try clear p2
   try clear c3
   try clear c4
   try clear hcz5_0
   try clear hcz5_1
   try clear hcz5_2
   try clear hcz9_0
   try clear hcz9_1
   try clear hcz9_2
   try clear hfz5_0
   try clear hfz5_1
   try clear hfz5_2
   try clear hfz9_0
   try clear hfz9_1
   try clear hfz9_2
   obtain ⟨x4_1, x18_1, rfl, HA, HK1, HO_4, BK230, HB⟩ := hrel
   cases gk with
   | zero => exact absurd HA.out (by simp [impl_KindsOf.l0])
   | succ k1 =>
    have H := HA.out
    clear HA
    simp only [impl_KindsOf.l0] at H
    by_cases c10 : x18_1 < (l0_2.length : Int)
    ·rw [if_pos c10] at H
     have c10b0 : decide (x18_1 < (l0_2.length : Int)) = true := decide_eq_true c10
     clear c10
     by_cases c11 : 0 ≤ x18_1
     ·rw [if_pos c11] at H
      have c11b0 : decide (0 ≤ x18_1) = true := decide_eq_true c11
      clear c11
      by_cases c12 : x18_1 < (l0_2.length : Int)
      ·rw [if_pos c12] at H
       have c12b0 : decide (x18_1 < (l0_2.length : Int)) = true := decide_eq_true c12
       clear c12
       obtain ⟨y240, hy240⟩ : ∃ y_ : List ByteArray, y_ = (([] : List ByteArray)) := ⟨_, rfl⟩
       replace H : (impl_KindsOf.l1 k1 x4_1 l0_2 (l0_2.length : Int) x18_1 ((rd_T69 l0_2 x18_1).f1) (((rd_T69 l0_2 x18_1).f1).length : Int) 0 y240 ((rd_T69 l0_2 x18_1).f0) ((rd_T69 l0_2 x18_1).f1)) = some (r1, r2) := by first | (rw [hy240]; with_reducible exact H) | (have H2_ := (Option.bind_some _ _).symm.trans H; rw [hy240]; with_reducible exact H2_) | (have H2_ := (Option.bind_some _ _).symm.trans H; with_reducible exact H2_) | with_reducible exact H | (rw [hy240]; exact H) | exact H
       have Ny240 := Aside0.mk hy240
       clear hy240
       have H' := Aside0.mk H
       clear H
       have p238 : 0 ≤ (x18_1 : Int) := odt
       have q238 : x18_1 < (l0_2.length : Int) := odt
       obtain ⟨ad238, A238_1, c238_1, e238, hx238_0, hx238_1, hl238_1, hi238_1⟩ := at_T69 HR0_2.out x18_1 p238 q238
       cases e238
       replace hx238_0 := (HB.out.cell (World.block_lt_of_cell? w _ hx238_0)).trans hx238_0
       replace hx238_1 := (HB.out.cell (World.block_lt_of_cell? w _ hx238_1)).trans hx238_1
       have HR238_1 := Aside0.mk hi238_1
       have HC238_1 := Aside0.mk hl238_1
       clear hi238_1 hl238_1
       replace p238 := eq_true p238
       replace q238 := eq_true q238
       go_wp2_with (first | ((with_reducible refine gate_dst (N := 6) rfl ?_); refine box_event ?hg (N := 6) ?hd (cs := #[.int .i64 0, .slice none 0 0]) (t := 69) ?hr ?_; (case hd => rfl); (case hg => rfl); (case hr => first | (go_simp; done) | (go_simp; rfl)); intro gb239 hg w13 hbox hb; have n0_ := Aside0.mk (Kd.S_below (by (with_reducible repeat (first | apply Kd.S_alloc | apply Kd.S_drewN | apply Kd.S_drew)); exact HO_4.out) hb); have n1_ := Aside0.mk (blk_below (g := gb230) (o := .cells #[.int .i64 a0_0, .int .i64 a0_1, .slice (some ad238) l0_2.length c0_2] 31 (0, 0)) bkw hb); have n2_ := Aside0.mk (below_step blw hb); have n3_ := Aside0.mk (hbox); have n4_ := Aside0.mk ((by rw [hg]; exact (below_size blw) : w.heap.size ≤ gb239)); have n5_ := Aside0.mk ((by rw [hg]; exact (below_size blw) : w.heap.size ≤ gb239)); have n6_ := Aside0.mk ((by rw [hg]; exact Nat.ne_of_lt (blk_lt (g := gb230) (o := .cells #[.int .i64 a0_0, .int .i64 a0_1, .slice (some ad238) l0_2.length c0_2] 31 (0, 0)) bkw) : gb230 ≠ gb239)); have n7_ := Aside0.mk ((by rw [hg]; exact Nat.ne_of_gt (blk_lt (g := gb230) (o := .cells #[.int .i64 a0_0, .int .i64 a0_1, .slice (some ad238) l0_2.length c0_2] 31 (0, 0)) bkw) : gb239 ≠ gb230)); clear HO_4; clear BK230; clear HB; have HO_4 := n0_; have BK230 := n1_; have HB := n2_; have BK239 := n3_; have GW239 := n4_; have GE239 := n5_; have NB230_239 := n6_; have NB239_230 := n7_; clear n0_ n1_ n2_ n3_ n4_ n5_ n6_ n7_; clear hb hbox hg; have hnb14 := NB239_230.out; have hnc14 := NB230_239.out; have hcz15_0 : w13.cell? ⟨gb239, 0, none⟩ = some (.int .i64 0) := (blk_cell BK239.out 0).trans rfl; have hcz15_1 : w13.cell? ⟨gb239, 1, none⟩ = some (.slice none 0 0) := (blk_cell BK239.out 1).trans rfl; have hfz15_0 := blk_frozen BK239.out 0; have hfz15_1 := blk_frozen BK239.out 1) | ((with_reducible refine gate_dst (N := 22) rfl ?_); refine Kd.R_lit Kd.string _ 9 ?hg (N := 22) ?hd (xs := ([] : List ByteArray)) (inner := []) (ok := fun _ => True) (okp := fun _ => True) ?hr ?hp (fun _ hk => hk) trivial (Below.refl _ _) (Nat.le_refl _) (by simp) ?_; (case hd => rfl); (case hg => rfl); (case hr => first | (go_simp; done) | (go_simp; rfl)); (case hp => exact (Reps.none _ _)); intro v241 w16 ho17 hb hg_ hnew_; clear hg_ hnew_; (first | rw [← Ny240.out] at ho17 | (simp only [Int.reduceToNat] at ho17; rw [← Ny240.out] at ho17)); have n0_ := Aside0.mk (Kd.S_elder' (by (with_reducible repeat (first | apply Kd.S_alloc | apply Kd.S_drewN | apply Kd.S_drew)); exact (Kd.S_mono (Kd.S_far (p := ⟨gb239, 1, none⟩) (Kd.S_far (p := ⟨gb239, 0, none⟩) (Kd.S_types HO_4.out BK239.out (by decide)) (fun _ hk => hk.2) (.int .i64 ((rd_T69 l0_2 x18_1).f0))) (fun _ hk => hk.2) (.slice A238_1 ((rd_T69 l0_2 x18_1).f1).length c238_1)) (fun _ h_ => h_.1))) (Kd.R_base ho17) hb); have n1_ := Aside0.mk (Kd.R_lower ho17 (below_size blw)); have n2_ := Aside0.mk (blk_below (g := gb230) (o := .cells #[.int .i64 a0_0, .int .i64 a0_1, .slice (some ad238) l0_2.length c0_2] 31 (0, 0)) (by (with_reducible repeat (first | refine blk_drewN ?_ _ | refine blk_drew ?_ | refine blk_alloc ?_ _)); refine blk_far ?_ NB230_239.out _; (with_reducible repeat (first | refine blk_drewN ?_ _ | refine blk_drew ?_ | refine blk_alloc ?_ _)); refine blk_far ?_ NB230_239.out _; (with_reducible repeat (first | refine blk_drewN ?_ _ | refine blk_drew ?_ | refine blk_alloc ?_ _)); exact BK230.out) hb); have n3_ := Aside0.mk (blk_below (g := gb239) (o := .cells #[.int .i64 ((rd_T69 l0_2 x18_1).f0), .slice A238_1 ((rd_T69 l0_2 x18_1).f1).length c238_1] 69 (0, 0)) (by (with_reducible repeat (first | refine blk_drewN ?_ _ | refine blk_drew ?_ | refine blk_alloc ?_ _)); refine blk_put (cs := #[.int .i64 ((rd_T69 l0_2 x18_1).f0), .slice none 0 0]) ?_ 1 _ rfl; (with_reducible repeat (first | refine blk_drewN ?_ _ | refine blk_drew ?_ | refine blk_alloc ?_ _)); refine blk_put (cs := #[.int .i64 0, .slice none 0 0]) ?_ 0 _ rfl; (with_reducible repeat (first | refine blk_drewN ?_ _ | refine blk_drew ?_ | refine blk_alloc ?_ _)); exact BK239.out) hb); have n4_ := Aside0.mk (below_step blw hb); clear HO_4; clear BK230; clear BK239; clear HB; have HO_4 := n0_; have HO242 := n1_; have BK230 := n2_; have BK239 := n3_; have HB := n4_; clear n0_ n1_ n2_ n3_ n4_; clear hb ho17; obtain ⟨Ab0, cb0, eb0⟩ := Kd.R_slice HO242.out; subst eb0) | ((with_reducible refine gate_dst (N := 7) rfl ?_); refine box_event ?hg (N := 7) ?hd (cs := #[.slice none 0 0]) (t := 70) ?hr ?_; (case hd => rfl); (case hg => rfl); (case hr => first | (go_simp; done) | (go_simp; rfl)); intro gb243 hg w18 hbox hb; have n0_ := Aside0.mk (Kd.S_below (Kd.S_elderB (by (with_reducible repeat (first | apply Kd.S_alloc | apply Kd.S_drewN | apply Kd.S_drew)); exact HO_4.out) gb243 (Nat.le_of_eq hg.symm)) hb); have n1_ := Aside0.mk (Kd.R_below (by (with_reducible repeat (first | apply Kd.R_alloc | apply Kd.R_drewN | apply Kd.R_drew)); exact HO242.out) hb); have n2_ := Aside0.mk (blk_below (g := gb230) (o := .cells #[.int .i64 a0_0, .int .i64 a0_1, .slice (some ad238) l0_2.length c0_2] 31 (0, 0)) bkw hb); have n3_ := Aside0.mk (blk_below (g := gb239) (o := .cells #[.int .i64 ((rd_T69 l0_2 x18_1).f0), .slice A238_1 ((rd_T69 l0_2 x18_1).f1).length c238_1] 69 (0, 0)) bkw hb); have n4_ := Aside0.mk (below_step blw hb); have n5_ := Aside0.mk (hbox); have n6_ := Aside0.mk ((by rw [hg]; exact (below_size blw) : w.heap.size ≤ gb243)); have n7_ := Aside0.mk ((by rw [hg]; exact (below_size blw) : w.heap.size ≤ gb243)); have n8_ := Aside0.mk ((by rw [hg]; exact Nat.ne_of_lt (blk_lt (g := gb230) (o := .cells #[.int .i64 a0_0, .int .i64 a0_1, .slice (some ad238) l0_2.length c0_2] 31 (0, 0)) bkw) : gb230 ≠ gb243)); have n9_ := Aside0.mk ((by rw [hg]; exact Nat.ne_of_gt (blk_lt (g := gb230) (o := .cells #[.int .i64 a0_0, .int .i64 a0_1, .slice (some ad238) l0_2.length c0_2] 31 (0, 0)) bkw) : gb243 ≠ gb230)); have n10_ := Aside0.mk ((by rw [hg]; exact Nat.ne_of_lt (blk_lt (g := gb239) (o := .cells #[.int .i64 ((rd_T69 l0_2 x18_1).f0), .slice A238_1 ((rd_T69 l0_2 x18_1).f1).length c238_1] 69 (0, 0)) bkw) : gb239 ≠ gb243)); have n11_ := Aside0.mk ((by rw [hg]; exact Nat.ne_of_gt (blk_lt (g := gb239) (o := .cells #[.int .i64 ((rd_T69 l0_2 x18_1).f0), .slice A238_1 ((rd_T69 l0_2 x18_1).f1).length c238_1] 69 (0, 0)) bkw) : gb243 ≠ gb239)); clear HO_4; clear HO242; clear BK230; clear BK239; clear HB; have HO_4 := n0_; have HO242 := n1_; have BK230 := n2_; have BK239 := n3_; have HB := n4_; have BK243 := n5_; have GW243 := n6_; have GE243 := n7_; have NB230_243 := n8_; have NB243_230 := n9_; have NB239_243 := n10_; have NB243_239 := n11_; clear n0_ n1_ n2_ n3_ n4_ n5_ n6_ n7_ n8_ n9_ n10_ n11_; clear hb hbox hg; have hnb19 := NB243_230.out; have hnc19 := NB230_243.out; have hnb20 := NB243_239.out; have hnc20 := NB239_243.out; have hcz21_0 : w18.cell? ⟨gb243, 0, none⟩ = some (.slice none 0 0) := (blk_cell BK243.out 0).trans rfl; have hfz21_0 := blk_frozen BK243.out 0; have hcz22_0 : w18.cell? ⟨gb239, 0, none⟩ = some (.int .i64 ((rd_T69 l0_2 x18_1).f0)) := (blk_cell BK239.out 0).trans rfl; have hcz22_1 : w18.cell? ⟨gb239, 1, none⟩ = some (.slice A238_1 ((rd_T69 l0_2 x18_1).f1).length c238_1) := (blk_cell BK239.out 1).trans rfl; have hfz22_0 := blk_frozen BK239.out 0; have hfz22_1 := blk_frozen BK239.out 1))
       go_loopg [26] k1 (fun kq v26 w' => ∃ (x26_2 : Int) (x66_2 : List ByteArray) (v66 : Value), v26 = .int .i64 x26_2 ∧ Aside0 (impl_KindsOf.l1 kq x4_1 l0_2 (l0_2.length : Int) x18_1 ((rd_T69 l0_2 x18_1).f1) (((rd_T69 l0_2 x18_1).f1).length : Int) x26_2 x66_2 ((rd_T69 l0_2 x18_1).f0) ((rd_T69 l0_2 x18_1).f1) = some (r1, r2)) ∧ Aside0 (kq ≤ k1) ∧ Aside0 (Kd.S k76 76 w' w.heap.size (fun k_ => some k_ ≠ (v66 : Value).ownBlock ∧ k_ ≠ gb243) u4 x4_1) ∧ Aside0 (Kd.R Kd.string 9 w' w.heap.size (fun _ => True) v66 x66_2) ∧ Aside0 (w'.heap[gb230]? = some (.cells #[.int .i64 a0_0, .int .i64 a0_1, (.slice (some ad238) l0_2.length c0_2)] 31 (0, 0))) ∧ Aside0 (w'.heap[gb239]? = some (.cells #[.int .i64 ((rd_T69 l0_2 x18_1).f0), (.slice A238_1 ((rd_T69 l0_2 x18_1).f1).length c238_1)] 69 (0, 0))) ∧ Aside0 (w'.heap[gb243]? = some (.cells #[v66] 70 (0, 0))) ∧ Aside0 (Below w.heap.size w w'))
       case atStart => exact ⟨(0), (y240), (.slice Ab0 y240.length cb0 : Value), (by first | rfl | (simp; done) | (simp [*]; done)), H', ⟨Nat.le_refl _⟩, ⟨by (with_reducible repeat (first | apply Kd.S_alloc | apply Kd.S_drewN | apply Kd.S_drew)); exact Kd.S_mono (Kd.S_far (p := ⟨gb243, 0, none⟩) (Kd.S_mono HO_4.out (fun k_ hk => (⟨hk, hk.2⟩ : _ ∧ k_ ≠ gb243))) (fun _ hk => hk.2) (.slice Ab0 y240.length cb0 : Value)) (fun _ hk => ⟨hk.1.1.2, hk.1.2⟩)⟩, ⟨by (with_reducible repeat (first | apply Kd.R_alloc | apply Kd.R_drewN | apply Kd.R_drew)); exact Kd.R_mono (Kd.R_far (p := ⟨gb243, 0, none⟩) (Kd.R_types HO242.out BK243.out (by decide)) (fun _ hk => hk.2) (.slice Ab0 y240.length cb0 : Value)) (fun _ hk => trivial)⟩, ⟨by (with_reducible repeat (first | refine blk_drewN ?_ _ | refine blk_drew ?_ | refine blk_alloc ?_ _)); refine blk_far ?_ NB230_243.out _; (with_reducible repeat (first | refine blk_drewN ?_ _ | refine blk_drew ?_ | refine blk_alloc ?_ _)); exact BK230.out⟩, ⟨by (with_reducible repeat (first | refine blk_drewN ?_ _ | refine blk_drew ?_ | refine blk_alloc ?_ _)); refine blk_far ?_ NB239_243.out _; (with_reducible repeat (first | refine blk_drewN ?_ _ | refine blk_drew ?_ | refine blk_alloc ?_ _)); exact BK239.out⟩, ⟨by (with_reducible repeat (first | refine blk_drewN ?_ _ | refine blk_drew ?_ | refine blk_alloc ?_ _)); refine blk_put (cs := #[.slice none 0 0]) ?_ 0 _ rfl; (with_reducible repeat (first | refine blk_drewN ?_ _ | refine blk_drew ?_ | refine blk_alloc ?_ _)); exact BK243.out⟩, ⟨blw⟩⟩
       case round =>
        clear H'
        try clear c1
        try clear c2
        try clear p2
        try clear q2
        try clear hx2
        try clear c3
        try clear c4
        try clear c10
        try clear c10b0
        try clear c11
        try clear c11b0
        try clear c12
        try clear c12b0
        try clear c14
        try clear c19
        try clear c20
        try clear hcz15_0
        try clear hcz15_1
        try clear hcz21_0
        try clear hcz22_0
        try clear hcz22_1
        try clear hcz5_0
        try clear hcz5_1
        try clear hcz5_2
        try clear hcz9_0
        try clear hcz9_1
        try clear hcz9_2
        try clear hfz15_0
        try clear hfz15_1
        try clear hfz21_0
        try clear hfz22_0
        try clear hfz22_1
        try clear hfz5_0
        try clear hfz5_1
        try clear hfz5_2
        try clear hfz9_0
        try clear hfz9_1
        try clear hfz9_2
        try clear hx238_0
        try clear hx238_1
        try clear p2
        try clear p238
        try clear q238
        obtain ⟨x26_2, x66_2, v66, rfl, HA, HK2, HO_4, HO_66, BK230, BK239, BK243, HB⟩ := hrel
        obtain ⟨Ab66, cb66, eb66⟩ := Kd.R_slice HO_66.out
        subst eb66
        cases gk with
        | zero => exact absurd HA.out (by simp [impl_KindsOf.l1])
        | succ k2 =>
         have H := HA.out
         clear HA
         simp only [impl_KindsOf.l1] at H
         by_cases c23 : x26_2 < (((rd_T69 l0_2 x18_1).f1).length : Int)
         ·rw [if_pos c23] at H
          have c23b0 : decide (x26_2 < (((rd_T69 l0_2 x18_1).f1).length : Int)) = true := decide_eq_true c23
          clear c23
          by_cases c24 : 0 ≤ x26_2
          ·rw [if_pos c24] at H
           have c24b0 : decide (0 ≤ x26_2) = true := decide_eq_true c24
           clear c24
           by_cases c25 : x26_2 < (((rd_T69 l0_2 x18_1).f1).length : Int)
           ·rw [if_pos c25] at H
            have c25b0 : decide (x26_2 < (((rd_T69 l0_2 x18_1).f1).length : Int)) = true := decide_eq_true c25
            clear c25
            by_cases c26 : x66_2.length < 8796093022208
            ·rw [if_pos c26] at H
             have LMc26 := Aside0.mk c26
             clear c26
             obtain ⟨y246, hy246⟩ : ∃ y_ : List ByteArray, y_ = (x66_2 ++ [(rd_T72 ((rd_T69 l0_2 x18_1).f1) x26_2).f0]) := ⟨_, rfl⟩
             replace H : (impl_KindsOf.l1 k2 x4_1 l0_2 (l0_2.length : Int) x18_1 ((rd_T69 l0_2 x18_1).f1) (((rd_T69 l0_2 x18_1).f1).length : Int) (wrap64 (x26_2 + 1)) y246 ((rd_T69 l0_2 x18_1).f0) ((rd_T69 l0_2 x18_1).f1)) = some (r1, r2) := by first | (rw [hy246]; with_reducible exact H) | (have H2_ := (Option.bind_some _ _).symm.trans H; rw [hy246]; with_reducible exact H2_) | (have H2_ := (Option.bind_some _ _).symm.trans H; with_reducible exact H2_) | with_reducible exact H | (rw [hy246]; exact H) | exact H
             have Ny246 := Aside0.mk hy246
             clear hy246
             have H' := Aside0.mk H
             clear H
             have p244 : 0 ≤ (x26_2 : Int) := odt
             have q244 : x26_2 < (((rd_T69 l0_2 x18_1).f1).length : Int) := odt
             obtain ⟨ad244, e244, hx244_0, hx244_1, hx244_2⟩ := at_T72 HR238_1.out x26_2 p244 q244
             cases e244
             replace hx244_0 := (HB.out.cell (World.block_lt_of_cell? w _ hx244_0)).trans hx244_0
             replace hx244_1 := (HB.out.cell (World.block_lt_of_cell? w _ hx244_1)).trans hx244_1
             replace hx244_2 := (HB.out.cell (World.block_lt_of_cell? w _ hx244_2)).trans hx244_2
             replace p244 := eq_true p244
             replace q244 := eq_true q244
             go_wp2_with (first | ((with_reducible refine gate_dst (N := 9) rfl ?_); refine box_event ?hg (N := 9) ?hd (cs := #[.string (⟨#[]⟩ : ByteArray), .int .i64 0, .int .i64 0]) (t := 72) ?hr ?_; (case hd => rfl); (case hg => rfl); (case hr => first | (go_simp; done) | (go_simp; rfl)); intro gb245 hg w27 hbox hb; have n0_ := Aside0.mk (Kd.S_below (by (with_reducible repeat (first | apply Kd.S_alloc | apply Kd.S_drewN | apply Kd.S_drew)); exact HO_4.out) hb); have n1_ := Aside0.mk (Kd.R_below (by (with_reducible repeat (first | apply Kd.R_alloc | apply Kd.R_drewN | apply Kd.R_drew)); exact HO_66.out) hb); have n2_ := Aside0.mk (blk_below (g := gb230) (o := .cells #[.int .i64 a0_0, .int .i64 a0_1, .slice (some ad238) l0_2.length c0_2] 31 (0, 0)) bkw hb); have n3_ := Aside0.mk (blk_below (g := gb239) (o := .cells #[.int .i64 ((rd_T69 l0_2 x18_1).f0), .slice (some ad244) ((rd_T69 l0_2 x18_1).f1).length c238_1] 69 (0, 0)) bkw hb); have n4_ := Aside0.mk (blk_below (g := gb243) (o := .cells #[(.slice Ab66 x66_2.length cb66 : Value)] 70 (0, 0)) bkw hb); have n5_ := Aside0.mk (below_step blw hb); have n6_ := Aside0.mk (hbox); have n7_ := Aside0.mk ((by rw [hg]; exact (below_size blw) : w.heap.size ≤ gb245)); have n8_ := Aside0.mk ((by rw [hg]; exact (below_size blw) : w.heap.size ≤ gb245)); have n9_ := Aside0.mk ((by rw [hg]; exact Nat.ne_of_lt (blk_lt (g := gb230) (o := .cells #[.int .i64 a0_0, .int .i64 a0_1, .slice (some ad238) l0_2.length c0_2] 31 (0, 0)) bkw) : gb230 ≠ gb245)); have n10_ := Aside0.mk ((by rw [hg]; exact Nat.ne_of_gt (blk_lt (g := gb230) (o := .cells #[.int .i64 a0_0, .int .i64 a0_1, .slice (some ad238) l0_2.length c0_2] 31 (0, 0)) bkw) : gb245 ≠ gb230)); have n11_ := Aside0.mk ((by rw [hg]; exact Nat.ne_of_lt (blk_lt (g := gb239) (o := .cells #[.int .i64 ((rd_T69 l0_2 x18_1).f0), .slice (some ad244) ((rd_T69 l0_2 x18_1).f1).length c238_1] 69 (0, 0)) bkw) : gb239 ≠ gb245)); have n12_ := Aside0.mk ((by rw [hg]; exact Nat.ne_of_gt (blk_lt (g := gb239) (o := .cells #[.int .i64 ((rd_T69 l0_2 x18_1).f0), .slice (some ad244) ((rd_T69 l0_2 x18_1).f1).length c238_1] 69 (0, 0)) bkw) : gb245 ≠ gb239)); have n13_ := Aside0.mk ((by rw [hg]; exact Nat.ne_of_lt (blk_lt (g := gb243) (o := .cells #[(.slice Ab66 x66_2.length cb66 : Value)] 70 (0, 0)) bkw) : gb243 ≠ gb245)); have n14_ := Aside0.mk ((by rw [hg]; exact Nat.ne_of_gt (blk_lt (g := gb243) (o := .cells #[(.slice Ab66 x66_2.length cb66 : Value)] 70 (0, 0)) bkw) : gb245 ≠ gb243)); clear HO_4; clear HO_66; clear BK230; clear BK239; clear BK243; clear HB; have HO_4 := n0_; have HO_66 := n1_; have BK230 := n2_; have BK239 := n3_; have BK243 := n4_; have HB := n5_; have BK245 := n6_; have GW245 := n7_; have GE245 := n8_; have NB230_245 := n9_; have NB245_230 := n10_; have NB239_245 := n11_; have NB245_239 := n12_; have NB243_245 := n13_; have NB245_243 := n14_; clear n0_ n1_ n2_ n3_ n4_ n5_ n6_ n7_ n8_ n9_ n10_ n11_ n12_ n13_ n14_; clear hb hbox hg; have hnb28 := NB245_230.out; have hnc28 := NB230_245.out; have hnb29 := NB245_239.out; have hnc29 := NB239_245.out; have hnb30 := NB245_243.out; have hnc30 := NB243_245.out; have hcz31_0 : w27.cell? ⟨gb245, 0, none⟩ = some (.string (⟨#[]⟩ : ByteArray)) := (blk_cell BK245.out 0).trans rfl; have hcz31_1 : w27.cell? ⟨gb245, 1, none⟩ = some (.int .i64 0) := (blk_cell BK245.out 1).trans rfl; have hcz31_2 : w27.cell? ⟨gb245, 2, none⟩ = some (.int .i64 0) := (blk_cell BK245.out 2).trans rfl; have hfz31_0 := blk_frozen BK245.out 0; have hfz31_1 := blk_frozen BK245.out 1; have hfz31_2 := blk_frozen BK245.out 2; have hnb32 := NB243_230.out; have hnc32 := NB230_243.out; have hnb33 := NB243_239.out; have hnc33 := NB239_243.out; have hcz34_0 : w27.cell? ⟨gb243, 0, none⟩ = some (.slice Ab66 x66_2.length cb66 : Value) := (blk_cell BK243.out 0).trans rfl; have hfz34_0 := blk_frozen BK243.out 0) | ((with_reducible refine gate_builtin (b := .append) (xs := #[.tmp 30, .tmp 33]) rfl ?_); at_builtin; refine Kd.R_append Kd.string (w0 := w) w.heap.size rfl (.tmp 30) (.tmp 33) 70 9 (.string ⟨#[]⟩) 16 rfl Try.underlying70 info9 rfl (by decide) (by omega) (.slice Ab66 x66_2.length cb66 : Value) x66_2 ((rd_T72 ((rd_T69 l0_2 x18_1).f1) x26_2).f0) [.string ((rd_T72 ((rd_T69 l0_2 x18_1).f1) x26_2).f0)] (fun _ => True) (fun _ => False) rfl (by first | (go_simp; done) | (go_simp; rfl)) ?aP (fun _ hk => hk.elim) ?aF ?aO ?aB ?aS ?aL ?_; (case aP => exact rfl); (case aB => exact blw); (case aF => exact (fun _ _ => trivial)); (case aO => exact (by (with_reducible repeat (first | apply Kd.R_alloc | apply Kd.R_drewN | apply Kd.R_drew)); exact Kd.R_mono (Kd.R_far (p := ⟨gb245, 2, none⟩) (Kd.R_far (p := ⟨gb245, 1, none⟩) (Kd.R_far (p := ⟨gb245, 0, none⟩) (Kd.R_types HO_66.out BK245.out (by decide)) (fun _ hk => hk.2) (.string ((rd_T72 ((rd_T69 l0_2 x18_1).f1) x26_2).f0))) (fun _ hk => hk.2) (.int .i64 ((rd_T72 ((rd_T69 l0_2 x18_1).f1) x26_2).f1))) (fun _ hk => hk.2) (.int .i64 ((rd_T72 ((rd_T69 l0_2 x18_1).f1) x26_2).f2))) (fun _ hk => trivial))); (case aS => exact (below_size blw)); (case aL => have := LMc26.out; omega); intro v247 w35 ho hb hg hat; rw [← Ny246.out] at ho; have n0_ := Aside0.mk (Kd.S_after (ok := (fun k_ => k_ ≠ gb243)) (by (with_reducible repeat (first | apply Kd.S_alloc | apply Kd.S_drewN | apply Kd.S_drew)); exact Kd.S_mono (Kd.S_far (p := ⟨gb245, 2, none⟩) (Kd.S_far (p := ⟨gb245, 1, none⟩) (Kd.S_far (p := ⟨gb245, 0, none⟩) (Kd.S_types HO_4.out BK245.out (by decide)) (fun _ hk => hk.2) (.string ((rd_T72 ((rd_T69 l0_2 x18_1).f1) x26_2).f0))) (fun _ hk => hk.2) (.int .i64 ((rd_T72 ((rd_T69 l0_2 x18_1).f1) x26_2).f1))) (fun _ hk => hk.2) (.int .i64 ((rd_T72 ((rd_T69 l0_2 x18_1).f1) x26_2).f2))) (fun _ hk => ⟨hk.1.2, hk.1.1⟩)) hg hat); have n1_ := Aside0.mk (blk_grown (g := gb230) (o := .cells #[.int .i64 a0_0, .int .i64 a0_1, .slice (some ad238) l0_2.length c0_2] 31 (0, 0)) (by (with_reducible repeat (first | refine blk_drewN ?_ _ | refine blk_drew ?_ | refine blk_alloc ?_ _)); refine blk_far ?_ NB230_245.out _; (with_reducible repeat (first | refine blk_drewN ?_ _ | refine blk_drew ?_ | refine blk_alloc ?_ _)); refine blk_far ?_ NB230_245.out _; (with_reducible repeat (first | refine blk_drewN ?_ _ | refine blk_drew ?_ | refine blk_alloc ?_ _)); refine blk_far ?_ NB230_245.out _; (with_reducible repeat (first | refine blk_drewN ?_ _ | refine blk_drew ?_ | refine blk_alloc ?_ _)); exact BK230.out) hg (Kd.R_ne HO_66.out BK230.out (by decide))); have n2_ := Aside0.mk (blk_grown (g := gb239) (o := .cells #[.int .i64 ((rd_T69 l0_2 x18_1).f0), .slice (some ad244) ((rd_T69 l0_2 x18_1).f1).length c238_1] 69 (0, 0)) (by (with_reducible repeat (first | refine blk_drewN ?_ _ | refine blk_drew ?_ | refine blk_alloc ?_ _)); refine blk_far ?_ NB239_245.out _; (with_reducible repeat (first | refine blk_drewN ?_ _ | refine blk_drew ?_ | refine blk_alloc ?_ _)); refine blk_far ?_ NB239_245.out _; (with_reducible repeat (first | refine blk_drewN ?_ _ | refine blk_drew ?_ | refine blk_alloc ?_ _)); refine blk_far ?_ NB239_245.out _; (with_reducible repeat (first | refine blk_drewN ?_ _ | refine blk_drew ?_ | refine blk_alloc ?_ _)); exact BK239.out) hg (Kd.R_ne HO_66.out BK239.out (by decide))); have n3_ := Aside0.mk (blk_grown (g := gb243) (o := .cells #[(.slice Ab66 x66_2.length cb66 : Value)] 70 (0, 0)) (by (with_reducible repeat (first | refine blk_drewN ?_ _ | refine blk_drew ?_ | refine blk_alloc ?_ _)); refine blk_far ?_ NB243_245.out _; (with_reducible repeat (first | refine blk_drewN ?_ _ | refine blk_drew ?_ | refine blk_alloc ?_ _)); refine blk_far ?_ NB243_245.out _; (with_reducible repeat (first | refine blk_drewN ?_ _ | refine blk_drew ?_ | refine blk_alloc ?_ _)); refine blk_far ?_ NB243_245.out _; (with_reducible repeat (first | refine blk_drewN ?_ _ | refine blk_drew ?_ | refine blk_alloc ?_ _)); exact BK243.out) hg (Kd.R_ne HO_66.out BK243.out (by decide))); have n4_ := Aside0.mk (blk_grown (g := gb245) (o := .cells #[.string ((rd_T72 ((rd_T69 l0_2 x18_1).f1) x26_2).f0), .int .i64 ((rd_T72 ((rd_T69 l0_2 x18_1).f1) x26_2).f1), .int .i64 ((rd_T72 ((rd_T69 l0_2 x18_1).f1) x26_2).f2)] 72 (0, 0)) (by (with_reducible repeat (first | refine blk_drewN ?_ _ | refine blk_drew ?_ | refine blk_alloc ?_ _)); refine blk_put (cs := #[.string ((rd_T72 ((rd_T69 l0_2 x18_1).f1) x26_2).f0), .int .i64 ((rd_T72 ((rd_T69 l0_2 x18_1).f1) x26_2).f1), .int .i64 0]) ?_ 2 _ rfl; (with_reducible repeat (first | refine blk_drewN ?_ _ | refine blk_drew ?_ | refine blk_alloc ?_ _)); refine blk_put (cs := #[.string ((rd_T72 ((rd_T69 l0_2 x18_1).f1) x26_2).f0), .int .i64 0, .int .i64 0]) ?_ 1 _ rfl; (with_reducible repeat (first | refine blk_drewN ?_ _ | refine blk_drew ?_ | refine blk_alloc ?_ _)); refine blk_put (cs := #[.string (⟨#[]⟩ : ByteArray), .int .i64 0, .int .i64 0]) ?_ 0 _ rfl; (with_reducible repeat (first | refine blk_drewN ?_ _ | refine blk_drew ?_ | refine blk_alloc ?_ _)); exact BK245.out) hg (Kd.R_ne HO_66.out BK245.out (by decide))); have n5_ := Aside0.mk (hb); have n6_ := Aside0.mk (ho); clear HO_4; clear BK230; clear BK239; clear BK243; clear BK245; clear HB; clear HO_66; have HO_4 := n0_; have BK230 := n1_; have BK239 := n2_; have BK243 := n3_; have BK245 := n4_; have HB := n5_; have HO248 := n6_; clear n0_ n1_ n2_ n3_ n4_ n5_ n6_; clear ho hb hg hat; obtain ⟨Ab2, cb2, eb2⟩ := Kd.R_slice HO248.out; subst eb2; have hcz36_0 : w35.cell? ⟨gb243, 0, none⟩ = some (.slice Ab66 x66_2.length cb66 : Value) := (blk_cell BK243.out 0).trans rfl; have hfz36_0 := blk_frozen BK243.out 0))
             go_roundg k2
             case measure => have := HK1.out; have := HK2.out; omega
             case rel => exact ⟨(wrap64 (x26_2 + 1)), (y246), (.slice Ab2 y246.length cb2 : Value), (by first | rfl | (simp; done) | (simp [*]; done)), H', ⟨by have := HK1.out; have := HK2.out; omega⟩, ⟨by (with_reducible repeat (first | apply Kd.S_alloc | apply Kd.S_drewN | apply Kd.S_drew)); exact Kd.S_mono (Kd.S_far (p := ⟨gb243, 0, none⟩) (Kd.S_mono HO_4.out (fun k_ hk => (⟨hk, hk.1⟩ : _ ∧ k_ ≠ gb243))) (fun _ hk => hk.2) (.slice Ab2 y246.length cb2 : Value)) (fun _ hk => ⟨hk.1.2, hk.1.1⟩)⟩, ⟨by (with_reducible repeat (first | apply Kd.R_alloc | apply Kd.R_drewN | apply Kd.R_drew)); exact Kd.R_mono (Kd.R_far (p := ⟨gb243, 0, none⟩) (Kd.R_types HO248.out BK243.out (by decide)) (fun _ hk => hk.2) (.slice Ab2 y246.length cb2 : Value)) (fun _ hk => trivial)⟩, ⟨by (with_reducible repeat (first | refine blk_drewN ?_ _ | refine blk_drew ?_ | refine blk_alloc ?_ _)); refine blk_far ?_ NB230_243.out _; (with_reducible repeat (first | refine blk_drewN ?_ _ | refine blk_drew ?_ | refine blk_alloc ?_ _)); exact BK230.out⟩, ⟨by (with_reducible repeat (first | refine blk_drewN ?_ _ | refine blk_drew ?_ | refine blk_alloc ?_ _)); refine blk_far ?_ NB239_243.out _; (with_reducible repeat (first | refine blk_drewN ?_ _ | refine blk_drew ?_ | refine blk_alloc ?_ _)); exact BK239.out⟩, ⟨by (with_reducible repeat (first | refine blk_drewN ?_ _ | refine blk_drew ?_ | refine blk_alloc ?_ _)); refine blk_put (cs := #[(.slice Ab66 x66_2.length cb66 : Value)]) ?_ 0 _ rfl; (with_reducible repeat (first | refine blk_drewN ?_ _ | refine blk_drew ?_ | refine blk_alloc ?_ _)); exact BK243.out⟩, ⟨blw⟩⟩
            ·rw [if_neg c26] at H
             exact absurd H (by simp)
           ·rw [if_neg c25] at H
            exact absurd H (by simp)
          ·rw [if_neg c24] at H
           exact absurd H (by simp)
         ·rw [if_neg c23] at H
          have c23b0 : decide (x26_2 < (((rd_T69 l0_2 x18_1).f1).length : Int)) = false := decide_eq_false c23
          clear c23
          replace H := Option.bind_eq_some_iff.mp H
          obtain ⟨t249, A370, H⟩ := H
          replace H : (if t249 < 0 then (if x4_1.length < 2932031007402 then ((some (x4_1 ++ [(⟨x66_2, ([] : List Int)⟩ : S76)] : List (S76))).bind fun y250 => (if 0 ≤ (x4_1.length : Int) then (if (x4_1.length : Int) < (y250.length : Int) then (if ((rd_T76 y250 (x4_1.length : Int)).f1).length < 17592186044416 then (impl_KindsOf.l0 k2 (y250.set ((x4_1.length : Int) : Int).toNat (⟨(rd_T76 y250 (x4_1.length : Int)).f0, (((rd_T76 y250 (x4_1.length : Int)).f1) ++ [((rd_T69 l0_2 x18_1).f0)])⟩ : S76)) l0_2 (l0_2.length : Int) (wrap64 (x18_1 + 1))) else (none)) else (none)) else (none))) else (none)) else (if 0 ≤ t249 then (if t249 < (x4_1.length : Int) then (if ((rd_T76 x4_1 t249).f1).length < 17592186044416 then (impl_KindsOf.l0 k2 (x4_1.set (t249 : Int).toNat (⟨(rd_T76 x4_1 t249).f0, (((rd_T76 x4_1 t249).f1) ++ [((rd_T69 l0_2 x18_1).f0)])⟩ : S76)) l0_2 (l0_2.length : Int) (wrap64 (x18_1 + 1))) else (none)) else (none)) else (none))) = some (r1, r2) := H
          have A37 := Aside0.mk A370
          clear A370
          by_cases c38 : t249 < 0
          ·rw [if_pos c38] at H
           have c38b0 : decide (t249 < 0) = true := decide_eq_true c38
           clear c38
           by_cases c39 : x4_1.length < 2932031007402
           ·rw [if_pos c39] at H
            have LMc39 := Aside0.mk c39
            clear c39
            obtain ⟨y250, hy250⟩ : ∃ y_ : List (S76), y_ = (x4_1 ++ [(⟨x66_2, ([] : List Int)⟩ : S76)]) := ⟨_, rfl⟩
            replace H : (if 0 ≤ (x4_1.length : Int) then (if (x4_1.length : Int) < (y250.length : Int) then (if ((rd_T76 y250 (x4_1.length : Int)).f1).length < 17592186044416 then (impl_KindsOf.l0 k2 (y250.set ((x4_1.length : Int) : Int).toNat (⟨(rd_T76 y250 (x4_1.length : Int)).f0, (((rd_T76 y250 (x4_1.length : Int)).f1) ++ [((rd_T69 l0_2 x18_1).f0)])⟩ : S76)) l0_2 (l0_2.length : Int) (wrap64 (x18_1 + 1))) else (none)) else (none)) else (none)) = some (r1, r2) := by first | (rw [hy250]; with_reducible exact H) | (have H2_ := (Option.bind_some _ _).symm.trans H; rw [hy250]; with_reducible exact H2_) | (have H2_ := (Option.bind_some _ _).symm.trans H; with_reducible exact H2_) | with_reducible exact H | (rw [hy250]; exact H) | exact H
            have Ny250 := Aside0.mk hy250
            clear hy250
            by_cases c40 : 0 ≤ (x4_1.length : Int)
            ·rw [if_pos c40] at H
             have c40b0 : decide (0 ≤ (x4_1.length : Int)) = true := decide_eq_true c40
             have c40b1 : decide (0 ≤ x4_1.length) = true := decide_eq_true (by omega)
             clear c40
             by_cases c41 : (x4_1.length : Int) < (y250.length : Int)
             ·rw [if_pos c41] at H
              have c41b0 : decide ((x4_1.length : Int) < (y250.length : Int)) = true := decide_eq_true c41
              have c41b1 : decide (x4_1.length < y250.length) = true := decide_eq_true (Int.ofNat_lt.mp c41)
              clear c41
              by_cases c42 : ((rd_T76 y250 (x4_1.length : Int)).f1).length < 17592186044416
              ·rw [if_pos c42] at H
               have LMc42 := Aside0.mk c42
               clear c42
               obtain ⟨y254, hy254⟩ : ∃ y_ : List Int, y_ = (((rd_T76 y250 (x4_1.length : Int)).f1) ++ [((rd_T69 l0_2 x18_1).f0)]) := ⟨_, rfl⟩
               replace H : (impl_KindsOf.l0 k2 (y250.set ((x4_1.length : Int) : Int).toNat (⟨(rd_T76 y250 (x4_1.length : Int)).f0, y254⟩ : S76)) l0_2 (l0_2.length : Int) (wrap64 (x18_1 + 1))) = some (r1, r2) := by first | (rw [hy254]; with_reducible exact H) | (have H2_ := (Option.bind_some _ _).symm.trans H; rw [hy254]; with_reducible exact H2_) | (have H2_ := (Option.bind_some _ _).symm.trans H; with_reducible exact H2_) | with_reducible exact H | (rw [hy254]; exact H) | exact H
               have Ny254 := Aside0.mk hy254
               clear hy254
               obtain ⟨y257, hy257⟩ : ∃ y_ : List (S76), y_ = (y250.set ((x4_1.length : Int) : Int).toNat (⟨(rd_T76 y250 (x4_1.length : Int)).f0, y254⟩ : S76)) := ⟨_, rfl⟩
               replace H : (impl_KindsOf.l0 k2 y257 l0_2 (l0_2.length : Int) (wrap64 (x18_1 + 1))) = some (r1, r2) := by first | (rw [hy257]; with_reducible exact H) | (have H2_ := (Option.bind_some _ _).symm.trans H; rw [hy257]; with_reducible exact H2_) | (have H2_ := (Option.bind_some _ _).symm.trans H; with_reducible exact H2_) | with_reducible exact H | (rw [hy257]; exact H) | exact H
               have Ny257 := Aside0.mk hy257
               clear hy257
               have H' := Aside0.mk H
               clear H
               have hnb44 := NB243_230.out
               have hnc44 := NB230_243.out
               have hnb45 := NB243_239.out
               have hnc45 := NB239_243.out
               have hcz46_0 : wr.cell? ⟨gb243, 0, none⟩ = some (.slice Ab66 x66_2.length cb66 : Value) := (blk_cell BK243.out 0).trans rfl
               have hfz46_0 := blk_frozen BK243.out 0
               obtain ⟨Ao47, co47, eo47⟩ := Kd.S_slice HO_4.out
               subst eo47
               go_wp2_with fail
               refine (impl_Kind_42.real k2 _ _ x4_1 gb243 Ab66 cb66 x66_2 t249 _ ?side1 ?side2 ?sideB ?side3 ?side4 A37.out).mono ?_
               (case sideB => (with_reducible repeat (first | refine blk_drewN ?_ _ | refine blk_drew ?_ | refine blk_alloc ?_ _)); exact BK243.out)
               ((case side1 => repeat (first | exact (Kd.S_reads' HO_4.out).2.2 | (with_reducible refine Kd.C_alloc ?_ _) | (with_reducible refine Kd.C_drewN ?_ _) | (with_reducible refine Kd.C_drew ?_))); (case side2 => exact (Kd.S_reads' HO_4.out).2.1); (case side3 => repeat (first | exact (Kd.R_reads' HO_66.out).2.2 | (with_reducible refine Kd.C_alloc ?_ _) | (with_reducible refine Kd.C_drewN ?_ _) | (with_reducible refine Kd.C_drew ?_))); (case side4 => exact (Kd.R_reads' HO_66.out).2.1); rintro e w49 ⟨rfl, hb⟩; have n0_ := Aside0.mk (Kd.S_below (by (with_reducible repeat (first | apply Kd.S_alloc | apply Kd.S_drewN | apply Kd.S_drew)); exact HO_4.out) hb); have n1_ := Aside0.mk (Kd.R_below (by (with_reducible repeat (first | apply Kd.R_alloc | apply Kd.R_drewN | apply Kd.R_drew)); exact HO_66.out) hb); have n2_ := Aside0.mk (blk_below (g := gb230) (o := .cells #[.int .i64 a0_0, .int .i64 a0_1, .slice (some ad238) l0_2.length c0_2] 31 (0, 0)) bkw hb); have n3_ := Aside0.mk (blk_below (g := gb239) (o := .cells #[.int .i64 ((rd_T69 l0_2 x18_1).f0), .slice A238_1 ((rd_T69 l0_2 x18_1).f1).length c238_1] 69 (0, 0)) bkw hb); have n4_ := Aside0.mk (blk_below (g := gb243) (o := .cells #[(.slice Ab66 x66_2.length cb66 : Value)] 70 (0, 0)) bkw hb); have n5_ := Aside0.mk (below_step blw hb); clear HO_4; clear HO_66; clear BK230; clear BK239; clear BK243; clear HB; have HO_4 := n0_; have HO_66 := n1_; have BK230 := n2_; have BK239 := n3_; have BK243 := n4_; have HB := n5_; clear n0_ n1_ n2_ n3_ n4_ n5_; (try clear hb); (try clear hb2); (try clear hk); (try clear hi); have hcz50_0 : w49.cell? ⟨gb243, 0, none⟩ = some (.slice Ab66 x66_2.length cb66 : Value) := (blk_cell BK243.out 0).trans rfl; have hfz50_0 := blk_frozen BK243.out 0)
               try go_wp2_with (first | ((with_reducible refine gate_builtin (b := .append) (xs := #[.tmp 43, .tmp 46]) rfl ?_); at_builtin; refine Kd.S_append k76 (w0 := w) w.heap.size rfl (.tmp 43) (.tmp 46) 26 76 (.agg #[(.slice none 0 0), (.slice none 0 0)]) 48 rfl Try.underlying26 info76 rfl (by decide) (by omega) (.slice Ao47 x4_1.length co47) x4_1 (⟨x66_2, ([] : List Int)⟩ : S76) [.slice Ab66 x66_2.length cb66, .slice none 0 0] (fun k_ => k_ ≠ gb243) (fun k_ => some k_ = (.slice Ab66 x66_2.length cb66 : Value).ownBlock) rfl rfl ?aP (fun k_ hk_ => ((Kd.R_mono (ok' := fun k_ => ((fun k_ => k_ ≠ gb243)) k_ ∧ some k_ ≠ (.slice Ao47 x4_1.length co47 : Value).ownBlock) (Kd.R_types (Kd.R_apart' (HO_66.out) (Kd.S_typed HO_4.out) (by decide)) BK243.out (by decide)) (fun k_ hk => ⟨hk.2, hk.1.2⟩))).1 k_ hk_.symm) ?aF ?aO ?aB ?aS ?aL ?_; (case aP => exact k76_mkM _ _ _ (⟨x66_2, ([] : List Int)⟩ : S76) (Kd.R_mono (Kd.R_tight rfl (Kd.R_mono (ok' := fun k_ => ((fun k_ => k_ ≠ gb243)) k_ ∧ some k_ ≠ (.slice Ao47 x4_1.length co47 : Value).ownBlock) (Kd.R_types (Kd.R_apart' (HO_66.out) (Kd.S_typed HO_4.out) (by decide)) BK243.out (by decide)) (fun k_ hk => ⟨hk.2, hk.1.2⟩))) (fun _ h_ => h_)) (Kd.R_nil _ _ _ _ _)); (case aB => exact blw); (case aF => exact (fun k_ hk => Kd.freshB (g := gb243) (o := .cells #[(.slice Ab66 x66_2.length cb66 : Value)] 70 (0, 0)) bkw k_ hk)); (case aO => exact (by (with_reducible repeat (first | apply Kd.S_alloc | apply Kd.S_drewN | apply Kd.S_drew)); exact Kd.S_mono HO_4.out (fun k_ hk => ⟨hk.2, fun e_ => hk.1 e_⟩))); (case aS => exact (below_size blw)); (case aL => have := LMc39.out; omega); intro v251 w51 ho hb hg hat; rw [← Ny250.out] at ho; have n0_ := Aside0.mk (blk_grown (g := gb230) (o := .cells #[.int .i64 a0_0, .int .i64 a0_1, .slice (some ad238) l0_2.length c0_2] 31 (0, 0)) bkw hg (Kd.S_ne HO_4.out BK230.out (by decide))); have n1_ := Aside0.mk (blk_grown (g := gb239) (o := .cells #[.int .i64 ((rd_T69 l0_2 x18_1).f0), .slice A238_1 ((rd_T69 l0_2 x18_1).f1).length c238_1] 69 (0, 0)) bkw hg (Kd.S_ne HO_4.out BK239.out (by decide))); have n2_ := Aside0.mk (blk_grown (g := gb243) (o := .cells #[(.slice Ab66 x66_2.length cb66 : Value)] 70 (0, 0)) bkw hg (Kd.S_ne HO_4.out BK243.out (by decide))); have n3_ := Aside0.mk (hb); have n4_ := Aside0.mk (ho); clear BK230; clear BK239; clear BK243; clear HB; clear HO_4; clear HO_66; have BK230 := n0_; have BK239 := n1_; have BK243 := n2_; have HB := n3_; have HO252 := n4_; clear n0_ n1_ n2_ n3_ n4_; clear ho hb hg hat))
               have n0_ := Aside0.mk (Kd.S_drew HO252.out)
               have n1_ := Aside0.mk (blk_drew BK230.out)
               have n2_ := Aside0.mk (blk_drew BK239.out)
               have n3_ := Aside0.mk (blk_drew BK243.out)
               have n4_ := Aside0.mk (below_drew1 HB.out)
               clear HO252
               clear BK230
               clear BK239
               clear BK243
               clear HB
               have HO252 := n0_
               have BK230 := n1_
               have BK239 := n2_
               have BK243 := n3_
               have HB := n4_
               clear n0_ n1_ n2_ n3_ n4_
               obtain ⟨Ao53, co53, eo53⟩ := Kd.S_slice HO252.out
               (first | subst eo53 | (injection eo53 with f1_ f2_ f3_; have f4_ := f1_.symm; have f5_ := f3_.symm; clear f1_ f2_ f3_; subst f4_; subst f5_))
               have p253 : 0 ≤ ((x4_1.length : Int) : Int) := odt
               have q253 : (x4_1.length : Int) < (y250.length : Int) := odt
               obtain ⟨ad253, A253_0, c253_0, A253_1, c253_1, e253, hx253_0, hx253_1, hl253_0, hi253_0, hl253_1, hi253_1⟩ := at_T76 (Kd.S_reads' HO252.out).2.2 (x4_1.length : Int) p253 q253
               cases e253
               obtain ⟨ce253, hce253, hMe253, hcc253⟩ := Kd.S_get HO252.out z76 (x4_1.length : Int) p253 (by first | exact q253 | exact odt | (have e_ := (Kd.S_reads' HO252.out).1; omega))
               obtain ⟨ve253_0, ve253_1, rfl, ge253_0, ge253_1⟩ := k76_openM hMe253
               have hv253_0 := hcc253 0 _ rfl
               rw [Nat.add_zero] at hv253_0
               replace hv253_0 := Option.some.inj (hv253_0.symm.trans hx253_0)
               rw [hv253_0] at ge253_0
               have HL253_0 := Aside0.mk (show Kd.R Kd.string 9 _ _ _ _ ((rd_T76 y250 (x4_1.length : Int)).f0) from ge253_0)
               clear hv253_0 ge253_0
               have HX253_0 := Aside0.mk hx253_0
               have hv253_1 := hcc253 1 _ rfl
               rw [add_field _ _ 1 (by omega)] at hv253_1
               replace hv253_1 := Option.some.inj (hv253_1.symm.trans hx253_1)
               rw [hv253_1] at ge253_1
               have HL253_1 := Aside0.mk (show Kd.R (Kd.int .i64) 3 _ _ _ _ ((rd_T76 y250 (x4_1.length : Int)).f1) from ge253_1)
               clear hv253_1 ge253_1
               have HX253_1 := Aside0.mk hx253_1
               clear hcc253 hce253
               have HR253_0 := Aside0.mk hi253_0
               have HC253_0 := Aside0.mk hl253_0
               clear hi253_0 hl253_0
               have HR253_1 := Aside0.mk hi253_1
               have HC253_1 := Aside0.mk hl253_1
               clear hi253_1 hl253_1
               (try simp only [Go.IntWalk.toNatUp] at hx253_0)
               (try simp only [Go.IntWalk.toNatUp] at hx253_1)
               replace p253 := eq_true p253
               replace q253 := eq_true q253
               obtain ⟨go54, co54, eo54, gb54, gl54, cl54, HG54⟩ := Kd.S_form HO252.out (by have h_ : ((x4_1.length : Int) : Int) < ((y250.length : Int) : Int) := odt; have h2_ : 0 ≤ ((x4_1.length : Int) : Int) := odt; omega)
               (first | cases eo54 | (injection eo54 with ea_ en_ ec_; (first | subst ea_ | (injection ea_ with ea_; subst ea_)); subst ec_; clear en_))
               have GB54 := Aside0.mk gb54
               have GG54 := Aside0.mk HG54
               clear gb54 gl54 HG54
               (first | simp only [add_plain] at hx253_0 | skip)
               (first | simp only [add_plain] at hx253_1 | skip)
               obtain ⟨oki54, ce54, hcl54, hM54, hcc54, _, _, hH54⟩ := Kd.S_elem HO252.out z76 ((x4_1.length : Int) : Int) odt (by have h_ : ((x4_1.length : Int) : Int) < ((y250.length : Int) : Int) := odt; first | exact h_ | (have e_ := (Kd.S_reads' HO252.out).1; omega) | simpa using h_)
               obtain ⟨ve54_0, ve54_1, rfl, ge54_0, ge54_1⟩ := k76_openM hM54
               have hv54 := hcc54 1 _ rfl
               have hX54 := HX253_1.out
               (try simp only [add_plain] at hX54)
               (try simp only [Nat.add_zero] at hv54)
               replace hv54 := Option.some.inj (hv54.symm.trans hX54)
               subst hv54
               clear hX54 hcc54 hcl54
               have UU54 := Aside0.mk (show Kd.R (Kd.int .i64) 3 _ w.heap.size oki54 (.slice A253_1 ((rd_T76 y250 (x4_1.length : Int)).f1).length c253_1) ((rd_T76 y250 (x4_1.length : Int)).f1) from ge54_1)
               have HH54 := Aside0.mk hH54
               have HN54 := Aside0.mk (Kd.S_reads' HO252.out).1
               have HE54_0 := Aside0.mk ge54_0
               clear hH54 ge54_0 ge54_1
               refine start_ (n := 14) (S := fun w' => w'.cell? ⟨gb239, 0, none⟩ = some (.int .i64 ((rd_T69 l0_2 x18_1).f0)) ∧ w'.cell? ⟨gb239, 1, none⟩ = some (.slice A238_1 ((rd_T69 l0_2 x18_1).f1).length c238_1) ∧ w'.cell? ⟨go54, (x4_1.length * 2), none⟩ = some (.slice A253_0 ((rd_T76 y250 (x4_1.length : Int)).f0).length c253_0) ∧ w'.cell? ⟨go54, (x4_1.length * 2) + 1, none⟩ = some (.slice A253_1 ((rd_T76 y250 (x4_1.length : Int)).f1).length c253_1)) (ds := [13]) #[false, false, false, false, false, false, false, false, false, false, false, false, false, false] (by kernel_rfl) rfl rfl ⟨(blk_cell BK239.out 0).trans rfl, (blk_cell BK239.out 1).trans rfl, hx253_0, hx253_1⟩ (fun hHeld => ?_); refine with_tabW impl_KindsOf.tab17 impl_KindsOf.bits17 (fun HT_ HW_ => ?_)
               generalize w51.drew = w52 at HO252 BK230 BK239 BK243 HB GG54 HE54_0 HH54 HL253_0 HL253_1 HR253_0 HR253_1 HX253_0 HX253_1 UU54 hx253_0 hx253_1 hHeld ⊢
               refine pure_ (i := 0) (N := some 48) (v := ?_) (a' := ?_) #[true, false, false, false, false, false, false, false, false, false, false, false, false, false] rfl rfl (any_of HT_.out (by kernel_rfl)) (fun _ _ _ h => h) (Or.inl ⟨by rfl, ?_⟩) ?_ ?_
               rotate_left; (· (intro w'; go_simp; with_reducible rfl)); rotate_left; (· (simp only [Act.put, sp1, sp2, sp3, i64_w, i32_w]; rfl))
               refine pure_ (i := 1) (N := some 49) (v := ?_) (a' := ?_) #[true, true, false, false, false, false, false, false, false, false, false, false, false, false] rfl rfl (any_of HT_.out (by kernel_rfl)) (fun _ _ _ h => h) (Or.inl ⟨by rfl, ?_⟩) ?_ ?_
               rotate_left; (· (intro w'; go_simp; with_reducible rfl)); rotate_left; (· (simp only [Act.put, sp1, sp2, sp3, i64_w, i32_w]; rfl))
               refine pure_ (i := 2) (N := some 50) (v := ?_) (a' := ?_) #[true, true, true, false, false, false, false, false, false, false, false, false, false, false] rfl rfl (any_of HT_.out (by kernel_rfl)) (fun _ _ _ h => h) (Or.inl ⟨by rfl, ?_⟩) ?_ ?_
               rotate_left; (· (intro w'; go_simp; with_reducible rfl)); rotate_left; (· (simp only [Act.put, sp1, sp2, sp3, i64_w, i32_w]; rfl))
               refine pure_ (i := 3) (N := some 51) (v := ?_) (a' := ?_) #[true, true, true, true, false, false, false, false, false, false, false, false, false, false] rfl rfl (any_of HT_.out (by kernel_rfl)) (fun _ _ _ h => h) (Or.inl ⟨by rfl, ?_⟩) ?_ ?_
               rotate_left; (· (intro w'; go_simp; with_reducible rfl)); rotate_left; (· (simp only [Act.put, sp1, sp2, sp3, i64_w, i32_w]; rfl))
               refine pure_ (i := 4) (N := some 52) (v := ?_) (a' := ?_) #[true, true, true, true, true, false, false, false, false, false, false, false, false, false] rfl rfl (any_of HT_.out (by kernel_rfl)) (fun _ _ _ h => h) (Or.inl ⟨by rfl, ?_⟩) ?_ ?_
               rotate_left; (· (intro w'; go_simp; with_reducible rfl)); rotate_left; (· (simp only [Act.put, sp1, sp2, sp3, i64_w, i32_w]; rfl))
               refine pure_ (i := 5) (N := some 53) (v := ?_) (a' := ?_) #[true, true, true, true, true, true, false, false, false, false, false, false, false, false] rfl rfl (any_of HT_.out (by kernel_rfl)) (fun _ _ _ h => h) (Or.inl ⟨by rfl, ?_⟩) ?_ ?_
               rotate_left; (· (intro w'; go_simp; with_reducible rfl)); rotate_left; (· (simp only [Act.put, sp1, sp2, sp3, i64_w, i32_w]; rfl))
               refine pure_ (i := 7) (N := some 55) (v := ?_) (a' := ?_) #[true, true, true, true, true, true, false, true, false, false, false, false, false, false] rfl rfl (any_of HT_.out (by kernel_rfl)) (fun _ _ _ h => h) (Or.inl ⟨by rfl, ?_⟩) ?_ ?_
               rotate_left; (· (intro w'; go_simp; with_reducible rfl)); rotate_left; (· (simp only [Act.put, sp1, sp2, sp3, i64_w, i32_w]; rfl))
               refine take_ (i := 6) (N := some 54) (v := ?_) (a' := ?_) #[true, true, true, true, true, true, true, true, false, false, false, false, false, false] rfl rfl (take_ofW HT_.out HW_.out (by kernel_rfl)) (fun _ _ _ h => h) (Or.inl ⟨by rfl, ?_⟩) hHeld ?_ ?_
               rotate_left; (· (rintro w' ⟨s0, s1, s2, s3⟩; go_simp; with_reducible rfl)); rotate_left; (· (simp only [Act.put, sp1, sp2, sp3, i64_w, i32_w]; rfl))
               refine take_ (i := 8) (N := some 56) (v := ?_) (a' := ?_) #[true, true, true, true, true, true, true, true, true, false, false, false, false, false] rfl rfl (take_ofW HT_.out HW_.out (by kernel_rfl)) (fun _ _ _ h => h) (Or.inl ⟨by rfl, ?_⟩) hHeld ?_ ?_
               rotate_left; (· (rintro w' ⟨s0, s1, s2, s3⟩; go_simp; with_reducible rfl)); rotate_left; (· (simp only [Act.put, sp1, sp2, sp3, i64_w, i32_w]; rfl))
               refine one_ (i := 9) (N := some 57) #[true, true, true, true, true, true, true, true, true, true, false, false, false, false] rfl rfl (one_of HT_.out (by kernel_rfl)) (by decide) (fun K hK => ?_)
               refine value_ (w1 := ?_) (v := ?_) (by rfl) rfl ?_ ?_
               rotate_left 2
               ·go_simp
                constructor
                ·rfl
                ·rfl
               refine hK.out _ _ ⟨(blk_cell (blk_alloc BK239.out _) 0).trans rfl, (blk_cell (blk_alloc BK239.out _) 1).trans rfl, (World.cell?_alloc_lt _ _ _ (World.block_lt_of_cell? _ _ (hHeld.2.2.1))).trans (hHeld.2.2.1), (World.cell?_alloc_lt _ _ _ (World.block_lt_of_cell? _ _ (hHeld.2.2.2))).trans (hHeld.2.2.2)⟩ (fun hHeld => ?_)
               clear hK K
               refine norm_ (a' := ?_) ?_ ?_
               rotate_left
               ·show Act.put _ (some 57) _ = _
                simp only [Act.put, sp1, sp2, sp3, i64_w, i32_w]
                rfl
               refine one_ (i := 10) (N := some 58) #[true, true, true, true, true, true, true, true, true, true, true, false, false, false] rfl rfl (one_of HT_.out (by kernel_rfl)) (by decide) (fun K hK => ?_)
               refine Kd.R_append_step (Kd.int .i64) (w0 := w) w.heap.size (by rfl) (.tmp 54) (.tmp 57) 74 3 (.int .i64 0) 8 rfl Try.underlying74 info3 rfl (by decide) (by omega) (.slice A253_1 ((rd_T76 y250 (x4_1.length : Int)).f1).length c253_1) ((rd_T76 y250 (x4_1.length : Int)).f1) ((rd_T69 l0_2 x18_1).f0) [.int .i64 ((rd_T69 l0_2 x18_1).f0)] (fun k_ => oki54 k_ ∨ ((fun k_ => k_ ≠ gb243)) k_ ∧ w52.heap.size ≤ k_) (fun _ => False) rfl rfl ?aP (fun _ hk => hk.elim) ?aF ?aO ?aB ?aS ?aL ?_
               (case aP => exact rfl)
               (case aB => exact blw)
               (case aF => exact (fun k_ hk => .inr ⟨Kd.freshB (g := gb243) (o := .cells #[(.slice Ab66 x66_2.length cb66 : Value)] 70 (0, 0)) bkw k_ hk, hk⟩))
               (case aO => exact (by (with_reducible repeat (first | apply Kd.R_alloc | apply Kd.R_drewN | apply Kd.R_drew)); exact Kd.R_mono UU54.out (fun _ hk => .inl hk)))
               (case aS => exact (below_size blw))
               (case aL => have := LMc42.out; omega)
               intro v255 w55 ho hb hg hat
               (first | have HS2_ := Go.Proofs.YtiaajmnmbjheoaaW.PrintWords.cell_grown hg (hHeld.2.2.1) (by first | (rw [add_block]; exact (fun e_ => ((HL253_1.out.1 _ e_.symm).2) rfl)) | (show some (Addr.add _ _).block ≠ _; rw [add_block]; exact (fun e_ => ((HL253_1.out.1 _ e_.symm).2) rfl)) | exact (fun e_ => ((HL253_1.out.1 _ e_.symm).2) rfl)) | have HS2_ := Go.Proofs.YtiaajmnmbjheoaaW.PrintWords.cell_grown hg (cell_unalloc (hHeld.2.2.1) (by first | (rw [add_block]; exact Kd.S_lt HO252.out _ rfl) | (show (Addr.add _ _).block < _; rw [add_block]; exact Kd.S_lt HO252.out _ rfl) | exact Kd.S_lt HO252.out _ rfl)) (by first | (rw [add_block]; exact (fun e_ => ((HL253_1.out.1 _ e_.symm).2) rfl)) | (show some (Addr.add _ _).block ≠ _; rw [add_block]; exact (fun e_ => ((HL253_1.out.1 _ e_.symm).2) rfl)) | exact (fun e_ => ((HL253_1.out.1 _ e_.symm).2) rfl)))
               (first | have HS3_ := Go.Proofs.YtiaajmnmbjheoaaW.PrintWords.cell_grown hg (hHeld.2.2.2) (by first | (rw [add_block]; exact (fun e_ => ((HL253_1.out.1 _ e_.symm).2) rfl)) | (show some (Addr.add _ _).block ≠ _; rw [add_block]; exact (fun e_ => ((HL253_1.out.1 _ e_.symm).2) rfl)) | exact (fun e_ => ((HL253_1.out.1 _ e_.symm).2) rfl)) | have HS3_ := Go.Proofs.YtiaajmnmbjheoaaW.PrintWords.cell_grown hg (cell_unalloc (hHeld.2.2.2) (by first | (rw [add_block]; exact Kd.S_lt HO252.out _ rfl) | (show (Addr.add _ _).block < _; rw [add_block]; exact Kd.S_lt HO252.out _ rfl) | exact Kd.S_lt HO252.out _ rfl)) (by first | (rw [add_block]; exact (fun e_ => ((HL253_1.out.1 _ e_.symm).2) rfl)) | (show some (Addr.add _ _).block ≠ _; rw [add_block]; exact (fun e_ => ((HL253_1.out.1 _ e_.symm).2) rfl)) | exact (fun e_ => ((HL253_1.out.1 _ e_.symm).2) rfl)))
               rw [← Ny254.out] at ho
               have n0_ := Aside0.mk (blk_grown (g := gb230) (o := .cells #[.int .i64 a0_0, .int .i64 a0_1, .slice (some ad238) l0_2.length c0_2] 31 (0, 0)) bkw hg (Kd.R_ne HL253_1.out BK230.out (by decide)))
               have n1_ := Aside0.mk (blk_grown (g := gb239) (o := .cells #[.int .i64 ((rd_T69 l0_2 x18_1).f0), .slice A238_1 ((rd_T69 l0_2 x18_1).f1).length c238_1] 69 (0, 0)) bkw hg (Kd.R_ne HL253_1.out BK239.out (by decide)))
               have n2_ := Aside0.mk (blk_grown (g := gb243) (o := .cells #[(.slice Ab66 x66_2.length cb66 : Value)] 70 (0, 0)) bkw hg (Kd.R_away HL253_1.out (fun _ hk => hk.1)))
               have n3_ := Aside0.mk (hb)
               have n4_ := Aside0.mk (Kd.H_grown (Kd.H_widen (by repeat (first | exact HH54.out | refine Kd.H_alloc ?_ _ | refine Kd.H_drewN ?_ _ | refine Kd.H_drew ?_))) hg (fun k_ e_ => .inl (UU54.out.1 k_ e_)))
               have n5_ := Aside0.mk (Kd.R_over' (v := (.slice A253_1 ((rd_T76 y250 (x4_1.length : Int)).f1).length c253_1)) (by (with_reducible repeat (first | apply Kd.R_alloc | apply Kd.R_drewN | apply Kd.R_drew)); exact HE54_0.out) (Kd.R_typed UU54.out) (by decide) hg)
               have n6_ := Aside0.mk (ho)
               clear BK230
               clear BK239
               clear BK243
               clear HB
               clear HH54
               clear HE54_0
               clear HO252
               clear UU54
               clear HL253_0
               clear HL253_1
               have BK230 := n0_
               have BK239 := n1_
               have BK243 := n2_
               have HB := n3_
               have HH54 := n4_
               have HE54_0 := n5_
               have HO256 := n6_
               clear n0_ n1_ n2_ n3_ n4_ n5_ n6_
               clear ho hb hg hat
               have p43 : 0 ≤ ((x4_1.length : Int) : Int) := odt
               have q43 : ((x4_1.length : Int) : Int) < ((y250.length : Int) : Int) := odt
               replace p43 := eq_true p43
               replace q43 := eq_true q43
               obtain ⟨Ao58, co58, eo58⟩ := Kd.R_slice HO256.out
               (first | subst eo58 | (injection eo58 with f1_ f2_ f3_; have f4_ := f1_.symm; have f5_ := f3_.symm; clear f1_ f2_ f3_; subst f4_; subst f5_))
               obtain ⟨_, _, hraw56, _, _, hcc56, _⟩ := Kd.H_raw HH54.out odt (by have h_ : ((x4_1.length : Int) : Int) < ((y250.length : Int) : Int) := odt; first | exact h_ | (have e_ := (HN54.out); omega) | simpa using h_)
               obtain ⟨_, hfr56⟩ := Kd.H_at HH54.out odt (by have h_ : ((x4_1.length : Int) : Int) < ((y250.length : Int) : Int) := odt; first | exact h_ | (have e_ := (HN54.out); omega) | simpa using h_)
               have hx56_0 := hcc56 1 _ rfl
               have hf56_0 := hfr56 1
               (try rw [show (k76).sz = 2 from rfl] at hx56_0)
               (try simp only [Int.toNat_natCast] at hx56_0)
               (try rw [show (k76).sz = 2 from rfl] at hf56_0)
               (try simp only [Int.toNat_natCast] at hf56_0)
               have HP56 := Kd.S_seg0 HH54.out odt (by have h_ : ((x4_1.length : Int) : Int) < ((y250.length : Int) : Int) := odt; first | exact h_ | (have e_ := (HN54.out); omega) | simpa using h_) (seg := [.slice Ao58 y254.length co58]) (j := 1) (show 2 ≤ 2 from by decide) (x' := (⟨(rd_T76 y250 (x4_1.length : Int)).f0, y254⟩ : S76)) (k76_mkM _ _ _ (⟨(rd_T76 y250 (x4_1.length : Int)).f0, y254⟩ : S76) (Kd.R_mono HE54_0.out (fun _ h_ => .inl h_)) HO256.out) (fun _ hk => hk)
               clear hcc56 hfr56
               have HNB230_go54 := Aside0.mk (show gb230 ≠ go54 from by have h_ := Kd.R_ne hraw56 BK230.out (by decide); intro e_; exact h_ (by rw [e_]; rfl))
               have HNB239_go54 := Aside0.mk (show gb239 ≠ go54 from by have h_ := Kd.R_ne hraw56 BK239.out (by decide); intro e_; exact h_ (by rw [e_]; rfl))
               have HNB243_go54 := Aside0.mk (show gb243 ≠ go54 from by have h_ := Kd.R_ne hraw56 BK243.out (by decide); intro e_; exact h_ (by rw [e_]; rfl))
               have HS56 := HP56.1
               rw [← Ny257.out] at HS56
               have HQ56 := Aside0.mk HS56
               obtain ⟨_, hgg56⟩ := Kd.R_typed hraw56 go54 rfl
               have GG56_ := Aside0.mk hgg56
               clear HP56 HS56 hgg56
               refine hK.out _ _ ⟨(blk_cell BK239.out 0).trans rfl, (blk_cell BK239.out 1).trans rfl, HS2_, HS3_⟩ (fun hHeld => ?_)
               clear hK K
               refine norm_ (a' := ?_) ?_ ?_
               rotate_left
               ·show Act.put _ (some 58) _ = _
                simp only [Act.put, sp1, sp2, sp3, i64_w, i32_w]
                rfl
               refine pure_ (i := 11) (N := some 59) (v := ?_) (a' := ?_) #[true, true, true, true, true, true, true, true, true, true, true, true, false, false] rfl rfl (any_of HT_.out (by kernel_rfl)) (fun _ _ _ h => h) (Or.inl ⟨by rfl, ?_⟩) ?_ ?_
               rotate_left; (· (intro w'; go_simp; with_reducible rfl)); rotate_left; (· (simp only [Act.put, sp1, sp2, sp3, i64_w, i32_w]; rfl))
               refine pure_ (i := 12) (N := some 60) (v := ?_) (a' := ?_) #[true, true, true, true, true, true, true, true, true, true, true, true, true, false] rfl rfl (any_of HT_.out (by kernel_rfl)) (fun _ _ _ h => h) (Or.inl ⟨by rfl, ?_⟩) ?_ ?_
               rotate_left; (· (intro w'; go_simp; with_reducible rfl)); rotate_left; (· (simp only [Act.put, sp1, sp2, sp3, i64_w, i32_w]; rfl))
               refine last_ (i := 13) (N := none) #[true, true, true, true, true, true, true, true, true, true, true, true, true, true] rfl rfl (one_of HT_.out (by kernel_rfl)) (by decide) (fun K hK => ?_)
               refine skip_ (w1 := ?_) (by rfl) rfl ?_ ?_
               rotate_left
               ·go_simp
                rfl
               refine hK.out _ _ ?_
               clear hK K
               refine done_ (done_of HT_.out (by kernel_rfl)) ?_
               try go_wp2
               go_roundg k2
               case measure => have := HK1.out; have := HK2.out; omega
               case rel => exact ⟨(y257), (wrap64 (x18_1 + 1)), (by first | rfl | (simp; done) | (simp [*]; done)), H', ⟨by have := HK1.out; have := HK2.out; omega⟩, ⟨by (with_reducible repeat (first | apply Kd.S_alloc | apply Kd.S_drewN | apply Kd.S_drew)); exact Kd.S_mono HQ56.out (fun _ hk => trivial)⟩, ⟨by (with_reducible repeat (first | refine blk_drewN ?_ _ | refine blk_drew ?_ | refine blk_alloc ?_ _)); refine blk_far ?_ HNB230_go54.out _; (with_reducible repeat (first | refine blk_drewN ?_ _ | refine blk_drew ?_ | refine blk_alloc ?_ _)); exact BK230.out⟩, ⟨blw⟩⟩
              ·rw [if_neg c42] at H
               exact absurd H (by simp)
             ·rw [if_neg c41] at H
              exact absurd H (by simp)
            ·rw [if_neg c40] at H
             exact absurd H (by simp)
           ·rw [if_neg c39] at H
            exact absurd H (by simp)
          ·rw [if_neg c38] at H
           have c38b0 : decide (t249 < 0) = false := decide_eq_false c38
           clear c38
           by_cases c59 : 0 ≤ t249
           ·rw [if_pos c59] at H
            have c59b0 : decide (0 ≤ t249) = true := decide_eq_true c59
            clear c59
            by_cases c60 : t249 < (x4_1.length : Int)
            ·rw [if_pos c60] at H
             have c60b0 : decide (t249 < (x4_1.length : Int)) = true := decide_eq_true c60
             clear c60
             by_cases c61 : ((rd_T76 x4_1 t249).f1).length < 17592186044416
             ·rw [if_pos c61] at H
              have LMc61 := Aside0.mk c61
              clear c61
              obtain ⟨y259, hy259⟩ : ∃ y_ : List Int, y_ = (((rd_T76 x4_1 t249).f1) ++ [((rd_T69 l0_2 x18_1).f0)]) := ⟨_, rfl⟩
              replace H : (impl_KindsOf.l0 k2 (x4_1.set (t249 : Int).toNat (⟨(rd_T76 x4_1 t249).f0, y259⟩ : S76)) l0_2 (l0_2.length : Int) (wrap64 (x18_1 + 1))) = some (r1, r2) := by first | (rw [hy259]; with_reducible exact H) | (have H2_ := (Option.bind_some _ _).symm.trans H; rw [hy259]; with_reducible exact H2_) | (have H2_ := (Option.bind_some _ _).symm.trans H; with_reducible exact H2_) | with_reducible exact H | (rw [hy259]; exact H) | exact H
              have Ny259 := Aside0.mk hy259
              clear hy259
              obtain ⟨y262, hy262⟩ : ∃ y_ : List (S76), y_ = (x4_1.set (t249 : Int).toNat (⟨(rd_T76 x4_1 t249).f0, y259⟩ : S76)) := ⟨_, rfl⟩
              replace H : (impl_KindsOf.l0 k2 y262 l0_2 (l0_2.length : Int) (wrap64 (x18_1 + 1))) = some (r1, r2) := by first | (rw [hy262]; with_reducible exact H) | (have H2_ := (Option.bind_some _ _).symm.trans H; rw [hy262]; with_reducible exact H2_) | (have H2_ := (Option.bind_some _ _).symm.trans H; with_reducible exact H2_) | with_reducible exact H | (rw [hy262]; exact H) | exact H
              have Ny262 := Aside0.mk hy262
              clear hy262
              have H' := Aside0.mk H
              clear H
              have hnb63 := NB243_230.out
              have hnc63 := NB230_243.out
              have hnb64 := NB243_239.out
              have hnc64 := NB239_243.out
              have hcz65_0 : wr.cell? ⟨gb243, 0, none⟩ = some (.slice Ab66 x66_2.length cb66 : Value) := (blk_cell BK243.out 0).trans rfl
              have hfz65_0 := blk_frozen BK243.out 0
              obtain ⟨Ao66, co66, eo66⟩ := Kd.S_slice HO_4.out
              subst eo66
              go_wp2_with fail
              refine (impl_Kind_42.real k2 _ _ x4_1 gb243 Ab66 cb66 x66_2 t249 _ ?side1 ?side2 ?sideB ?side3 ?side4 A37.out).mono ?_
              (case sideB => (with_reducible repeat (first | refine blk_drewN ?_ _ | refine blk_drew ?_ | refine blk_alloc ?_ _)); exact BK243.out)
              ((case side1 => repeat (first | exact (Kd.S_reads' HO_4.out).2.2 | (with_reducible refine Kd.C_alloc ?_ _) | (with_reducible refine Kd.C_drewN ?_ _) | (with_reducible refine Kd.C_drew ?_))); (case side2 => exact (Kd.S_reads' HO_4.out).2.1); (case side3 => repeat (first | exact (Kd.R_reads' HO_66.out).2.2 | (with_reducible refine Kd.C_alloc ?_ _) | (with_reducible refine Kd.C_drewN ?_ _) | (with_reducible refine Kd.C_drew ?_))); (case side4 => exact (Kd.R_reads' HO_66.out).2.1); rintro e w68 ⟨rfl, hb⟩; have n0_ := Aside0.mk (Kd.S_below (by (with_reducible repeat (first | apply Kd.S_alloc | apply Kd.S_drewN | apply Kd.S_drew)); exact HO_4.out) hb); have n1_ := Aside0.mk (Kd.R_below (by (with_reducible repeat (first | apply Kd.R_alloc | apply Kd.R_drewN | apply Kd.R_drew)); exact HO_66.out) hb); have n2_ := Aside0.mk (blk_below (g := gb230) (o := .cells #[.int .i64 a0_0, .int .i64 a0_1, .slice (some ad238) l0_2.length c0_2] 31 (0, 0)) bkw hb); have n3_ := Aside0.mk (blk_below (g := gb239) (o := .cells #[.int .i64 ((rd_T69 l0_2 x18_1).f0), .slice A238_1 ((rd_T69 l0_2 x18_1).f1).length c238_1] 69 (0, 0)) bkw hb); have n4_ := Aside0.mk (blk_below (g := gb243) (o := .cells #[(.slice Ab66 x66_2.length cb66 : Value)] 70 (0, 0)) bkw hb); have n5_ := Aside0.mk (below_step blw hb); clear HO_4; clear HO_66; clear BK230; clear BK239; clear BK243; clear HB; have HO_4 := n0_; have HO_66 := n1_; have BK230 := n2_; have BK239 := n3_; have BK243 := n4_; have HB := n5_; clear n0_ n1_ n2_ n3_ n4_ n5_; (try clear hb); (try clear hb2); (try clear hk); (try clear hi))
              try go_wp2
              have n0_ := Aside0.mk (Kd.S_drew HO_4.out)
              have n1_ := Aside0.mk (Kd.R_drew HO_66.out)
              have n2_ := Aside0.mk (blk_drew BK230.out)
              have n3_ := Aside0.mk (blk_drew BK239.out)
              have n4_ := Aside0.mk (blk_drew BK243.out)
              have n5_ := Aside0.mk (below_drew1 HB.out)
              clear HO_4
              clear HO_66
              clear BK230
              clear BK239
              clear BK243
              clear HB
              have HO_4 := n0_
              have HO_66 := n1_
              have BK230 := n2_
              have BK239 := n3_
              have BK243 := n4_
              have HB := n5_
              clear n0_ n1_ n2_ n3_ n4_ n5_
              have p258 : 0 ≤ (t249 : Int) := odt
              have q258 : t249 < (x4_1.length : Int) := odt
              obtain ⟨ad258, A258_0, c258_0, A258_1, c258_1, e258, hx258_0, hx258_1, hl258_0, hi258_0, hl258_1, hi258_1⟩ := at_T76 (Kd.S_reads' HO_4.out).2.2 t249 p258 q258
              cases e258
              obtain ⟨ce258, hce258, hMe258, hcc258⟩ := Kd.S_get HO_4.out z76 t249 p258 (by first | exact q258 | exact odt | (have e_ := (Kd.S_reads' HO_4.out).1; omega))
              obtain ⟨ve258_0, ve258_1, rfl, ge258_0, ge258_1⟩ := k76_openM hMe258
              have hv258_0 := hcc258 0 _ rfl
              rw [Nat.add_zero] at hv258_0
              replace hv258_0 := Option.some.inj (hv258_0.symm.trans hx258_0)
              rw [hv258_0] at ge258_0
              have HL258_0 := Aside0.mk (show Kd.R Kd.string 9 _ _ _ _ ((rd_T76 x4_1 t249).f0) from ge258_0)
              clear hv258_0 ge258_0
              have HX258_0 := Aside0.mk hx258_0
              have hv258_1 := hcc258 1 _ rfl
              rw [add_field _ _ 1 (by omega)] at hv258_1
              replace hv258_1 := Option.some.inj (hv258_1.symm.trans hx258_1)
              rw [hv258_1] at ge258_1
              have HL258_1 := Aside0.mk (show Kd.R (Kd.int .i64) 3 _ _ _ _ ((rd_T76 x4_1 t249).f1) from ge258_1)
              clear hv258_1 ge258_1
              have HX258_1 := Aside0.mk hx258_1
              clear hcc258 hce258
              have HR258_0 := Aside0.mk hi258_0
              have HC258_0 := Aside0.mk hl258_0
              clear hi258_0 hl258_0
              have HR258_1 := Aside0.mk hi258_1
              have HC258_1 := Aside0.mk hl258_1
              clear hi258_1 hl258_1
              replace p258 := eq_true p258
              replace q258 := eq_true q258
              obtain ⟨go70, co70, eo70, gb70, gl70, cl70, HG70⟩ := Kd.S_form HO_4.out (by have h_ : (t249 : Int) < ((x4_1.length : Int) : Int) := odt; have h2_ : 0 ≤ (t249 : Int) := odt; omega)
              (first | cases eo70 | (injection eo70 with ea_ en_ ec_; (first | subst ea_ | (injection ea_ with ea_; subst ea_)); subst ec_; clear en_))
              have GB70 := Aside0.mk gb70
              have GG70 := Aside0.mk HG70
              clear gb70 gl70 HG70
              (first | simp only [add_plain] at hx258_0 | skip)
              (first | simp only [add_plain] at hx258_1 | skip)
              obtain ⟨oki70, ce70, hcl70, hM70, hcc70, _, _, hH70⟩ := Kd.S_elem HO_4.out z76 (t249 : Int) odt (by have h_ : (t249 : Int) < ((x4_1.length : Int) : Int) := odt; first | exact h_ | (have e_ := (Kd.S_reads' HO_4.out).1; omega) | simpa using h_)
              obtain ⟨ve70_0, ve70_1, rfl, ge70_0, ge70_1⟩ := k76_openM hM70
              have hv70 := hcc70 1 _ rfl
              have hX70 := HX258_1.out
              (try simp only [add_plain] at hX70)
              (try simp only [Nat.add_zero] at hv70)
              replace hv70 := Option.some.inj (hv70.symm.trans hX70)
              subst hv70
              clear hX70 hcc70 hcl70
              have UU70 := Aside0.mk (show Kd.R (Kd.int .i64) 3 _ w.heap.size oki70 (.slice A258_1 ((rd_T76 x4_1 t249).f1).length c258_1) ((rd_T76 x4_1 t249).f1) from ge70_1)
              have HH70 := Aside0.mk hH70
              have HN70 := Aside0.mk (Kd.S_reads' HO_4.out).1
              have HE70_0 := Aside0.mk ge70_0
              clear hH70 ge70_0 ge70_1
              refine start_ (n := 14) (S := fun w' => w'.cell? ⟨gb239, 0, none⟩ = some (.int .i64 ((rd_T69 l0_2 x18_1).f0)) ∧ w'.cell? ⟨gb239, 1, none⟩ = some (.slice A238_1 ((rd_T69 l0_2 x18_1).f1).length c238_1) ∧ w'.cell? ⟨go70, ((t249).toNat * 2), none⟩ = some (.slice A258_0 ((rd_T76 x4_1 t249).f0).length c258_0) ∧ w'.cell? ⟨go70, ((t249).toNat * 2) + 1, none⟩ = some (.slice A258_1 ((rd_T76 x4_1 t249).f1).length c258_1)) (ds := [13]) #[false, false, false, false, false, false, false, false, false, false, false, false, false, false] (by kernel_rfl) rfl rfl ⟨(blk_cell BK239.out 0).trans rfl, (blk_cell BK239.out 1).trans rfl, hx258_0, hx258_1⟩ (fun hHeld => ?_); refine with_tabW impl_KindsOf.tab17 impl_KindsOf.bits17 (fun HT_ HW_ => ?_)
              generalize w68.drew = w69 at HO_4 HO_66 BK230 BK239 BK243 HB GG70 HE70_0 HH70 HL258_0 HL258_1 HR258_0 HR258_1 HX258_0 HX258_1 UU70 hx258_0 hx258_1 hHeld ⊢
              refine pure_ (i := 0) (N := some 48) (v := ?_) (a' := ?_) #[true, false, false, false, false, false, false, false, false, false, false, false, false, false] rfl rfl (any_of HT_.out (by kernel_rfl)) (fun _ _ _ h => h) (Or.inl ⟨by rfl, ?_⟩) ?_ ?_
              rotate_left; (· (intro w'; go_simp; with_reducible rfl)); rotate_left; (· (simp only [Act.put, sp1, sp2, sp3, i64_w, i32_w]; rfl))
              refine pure_ (i := 1) (N := some 49) (v := ?_) (a' := ?_) #[true, true, false, false, false, false, false, false, false, false, false, false, false, false] rfl rfl (any_of HT_.out (by kernel_rfl)) (fun _ _ _ h => h) (Or.inl ⟨by rfl, ?_⟩) ?_ ?_
              rotate_left; (· (intro w'; go_simp; with_reducible rfl)); rotate_left; (· (simp only [Act.put, sp1, sp2, sp3, i64_w, i32_w]; rfl))
              refine pure_ (i := 2) (N := some 50) (v := ?_) (a' := ?_) #[true, true, true, false, false, false, false, false, false, false, false, false, false, false] rfl rfl (any_of HT_.out (by kernel_rfl)) (fun _ _ _ h => h) (Or.inl ⟨by rfl, ?_⟩) ?_ ?_
              rotate_left; (· (intro w'; go_simp; with_reducible rfl)); rotate_left; (· (simp only [Act.put, sp1, sp2, sp3, i64_w, i32_w]; rfl))
              refine pure_ (i := 3) (N := some 51) (v := ?_) (a' := ?_) #[true, true, true, true, false, false, false, false, false, false, false, false, false, false] rfl rfl (any_of HT_.out (by kernel_rfl)) (fun _ _ _ h => h) (Or.inl ⟨by rfl, ?_⟩) ?_ ?_
              rotate_left; (· (intro w'; go_simp; with_reducible rfl)); rotate_left; (· (simp only [Act.put, sp1, sp2, sp3, i64_w, i32_w]; rfl))
              refine pure_ (i := 4) (N := some 52) (v := ?_) (a' := ?_) #[true, true, true, true, true, false, false, false, false, false, false, false, false, false] rfl rfl (any_of HT_.out (by kernel_rfl)) (fun _ _ _ h => h) (Or.inl ⟨by rfl, ?_⟩) ?_ ?_
              rotate_left; (· (intro w'; go_simp; with_reducible rfl)); rotate_left; (· (simp only [Act.put, sp1, sp2, sp3, i64_w, i32_w]; rfl))
              refine pure_ (i := 5) (N := some 53) (v := ?_) (a' := ?_) #[true, true, true, true, true, true, false, false, false, false, false, false, false, false] rfl rfl (any_of HT_.out (by kernel_rfl)) (fun _ _ _ h => h) (Or.inl ⟨by rfl, ?_⟩) ?_ ?_
              rotate_left; (· (intro w'; go_simp; with_reducible rfl)); rotate_left; (· (simp only [Act.put, sp1, sp2, sp3, i64_w, i32_w]; rfl))
              refine pure_ (i := 7) (N := some 55) (v := ?_) (a' := ?_) #[true, true, true, true, true, true, false, true, false, false, false, false, false, false] rfl rfl (any_of HT_.out (by kernel_rfl)) (fun _ _ _ h => h) (Or.inl ⟨by rfl, ?_⟩) ?_ ?_
              rotate_left; (· (intro w'; go_simp; with_reducible rfl)); rotate_left; (· (simp only [Act.put, sp1, sp2, sp3, i64_w, i32_w]; rfl))
              refine take_ (i := 6) (N := some 54) (v := ?_) (a' := ?_) #[true, true, true, true, true, true, true, true, false, false, false, false, false, false] rfl rfl (take_ofW HT_.out HW_.out (by kernel_rfl)) (fun _ _ _ h => h) (Or.inl ⟨by rfl, ?_⟩) hHeld ?_ ?_
              rotate_left; (· (rintro w' ⟨s0, s1, s2, s3⟩; go_simp; with_reducible rfl)); rotate_left; (· (simp only [Act.put, sp1, sp2, sp3, i64_w, i32_w]; rfl))
              refine take_ (i := 8) (N := some 56) (v := ?_) (a' := ?_) #[true, true, true, true, true, true, true, true, true, false, false, false, false, false] rfl rfl (take_ofW HT_.out HW_.out (by kernel_rfl)) (fun _ _ _ h => h) (Or.inl ⟨by rfl, ?_⟩) hHeld ?_ ?_
              rotate_left; (· (rintro w' ⟨s0, s1, s2, s3⟩; go_simp; with_reducible rfl)); rotate_left; (· (simp only [Act.put, sp1, sp2, sp3, i64_w, i32_w]; rfl))
              refine one_ (i := 9) (N := some 57) #[true, true, true, true, true, true, true, true, true, true, false, false, false, false] rfl rfl (one_of HT_.out (by kernel_rfl)) (by decide) (fun K hK => ?_)
              refine value_ (w1 := ?_) (v := ?_) (by rfl) rfl ?_ ?_
              rotate_left 2
              ·go_simp
               constructor
               ·rfl
               ·rfl
              refine hK.out _ _ ⟨(blk_cell (blk_alloc BK239.out _) 0).trans rfl, (blk_cell (blk_alloc BK239.out _) 1).trans rfl, (World.cell?_alloc_lt _ _ _ (World.block_lt_of_cell? _ _ (hHeld.2.2.1))).trans (hHeld.2.2.1), (World.cell?_alloc_lt _ _ _ (World.block_lt_of_cell? _ _ (hHeld.2.2.2))).trans (hHeld.2.2.2)⟩ (fun hHeld => ?_)
              clear hK K
              refine norm_ (a' := ?_) ?_ ?_
              rotate_left
              ·show Act.put _ (some 57) _ = _
               simp only [Act.put, sp1, sp2, sp3, i64_w, i32_w]
               rfl
              refine one_ (i := 10) (N := some 58) #[true, true, true, true, true, true, true, true, true, true, true, false, false, false] rfl rfl (one_of HT_.out (by kernel_rfl)) (by decide) (fun K hK => ?_)
              refine Kd.R_append_step (Kd.int .i64) (w0 := w) w.heap.size (by rfl) (.tmp 54) (.tmp 57) 74 3 (.int .i64 0) 8 rfl Try.underlying74 info3 rfl (by decide) (by omega) (.slice A258_1 ((rd_T76 x4_1 t249).f1).length c258_1) ((rd_T76 x4_1 t249).f1) ((rd_T69 l0_2 x18_1).f0) [.int .i64 ((rd_T69 l0_2 x18_1).f0)] (fun k_ => oki70 k_ ∨ ((fun k_ => some k_ ≠ (.slice Ab66 x66_2.length cb66 : Value).ownBlock ∧ k_ ≠ gb243)) k_ ∧ w69.heap.size ≤ k_) (fun _ => False) rfl rfl ?aP (fun _ hk => hk.elim) ?aF ?aO ?aB ?aS ?aL ?_
              (case aP => exact rfl)
              (case aB => exact blw)
              (case aF => exact (fun k_ hk => .inr ⟨⟨Kd.fresh' (Kd.R_lt (by (with_reducible repeat (first | apply Kd.R_alloc | apply Kd.R_drewN | apply Kd.R_drew)); exact HO_66.out)) k_ hk, Kd.freshB (g := gb243) (o := .cells #[(.slice Ab66 x66_2.length cb66 : Value)] 70 (0, 0)) bkw k_ hk⟩, hk⟩))
              (case aO => exact (by (with_reducible repeat (first | apply Kd.R_alloc | apply Kd.R_drewN | apply Kd.R_drew)); exact Kd.R_mono UU70.out (fun _ hk => .inl hk)))
              (case aS => exact (below_size blw))
              (case aL => have := LMc61.out; omega)
              intro v260 w71 ho hb hg hat
              (first | have HS2_ := Go.Proofs.YtiaajmnmbjheoaaW.PrintWords.cell_grown hg (hHeld.2.2.1) (by first | (rw [add_block]; exact (fun e_ => ((HL258_1.out.1 _ e_.symm).2) rfl)) | (show some (Addr.add _ _).block ≠ _; rw [add_block]; exact (fun e_ => ((HL258_1.out.1 _ e_.symm).2) rfl)) | exact (fun e_ => ((HL258_1.out.1 _ e_.symm).2) rfl)) | have HS2_ := Go.Proofs.YtiaajmnmbjheoaaW.PrintWords.cell_grown hg (cell_unalloc (hHeld.2.2.1) (by first | (rw [add_block]; exact Kd.S_lt HO_4.out _ rfl) | (show (Addr.add _ _).block < _; rw [add_block]; exact Kd.S_lt HO_4.out _ rfl) | exact Kd.S_lt HO_4.out _ rfl)) (by first | (rw [add_block]; exact (fun e_ => ((HL258_1.out.1 _ e_.symm).2) rfl)) | (show some (Addr.add _ _).block ≠ _; rw [add_block]; exact (fun e_ => ((HL258_1.out.1 _ e_.symm).2) rfl)) | exact (fun e_ => ((HL258_1.out.1 _ e_.symm).2) rfl)))
              (first | have HS3_ := Go.Proofs.YtiaajmnmbjheoaaW.PrintWords.cell_grown hg (hHeld.2.2.2) (by first | (rw [add_block]; exact (fun e_ => ((HL258_1.out.1 _ e_.symm).2) rfl)) | (show some (Addr.add _ _).block ≠ _; rw [add_block]; exact (fun e_ => ((HL258_1.out.1 _ e_.symm).2) rfl)) | exact (fun e_ => ((HL258_1.out.1 _ e_.symm).2) rfl)) | have HS3_ := Go.Proofs.YtiaajmnmbjheoaaW.PrintWords.cell_grown hg (cell_unalloc (hHeld.2.2.2) (by first | (rw [add_block]; exact Kd.S_lt HO_4.out _ rfl) | (show (Addr.add _ _).block < _; rw [add_block]; exact Kd.S_lt HO_4.out _ rfl) | exact Kd.S_lt HO_4.out _ rfl)) (by first | (rw [add_block]; exact (fun e_ => ((HL258_1.out.1 _ e_.symm).2) rfl)) | (show some (Addr.add _ _).block ≠ _; rw [add_block]; exact (fun e_ => ((HL258_1.out.1 _ e_.symm).2) rfl)) | exact (fun e_ => ((HL258_1.out.1 _ e_.symm).2) rfl)))
              rw [← Ny259.out] at ho
              have n0_ := Aside0.mk (Kd.R_over' (v := (.slice A258_1 ((rd_T76 x4_1 t249).f1).length c258_1)) (by (with_reducible repeat (first | apply Kd.R_alloc | apply Kd.R_drewN | apply Kd.R_drew)); exact HO_66.out) (Kd.R_typed HL258_1.out) (by decide) hg)
              have n1_ := Aside0.mk (blk_grown (g := gb230) (o := .cells #[.int .i64 a0_0, .int .i64 a0_1, .slice (some ad238) l0_2.length c0_2] 31 (0, 0)) bkw hg (Kd.R_ne HL258_1.out BK230.out (by decide)))
              have n2_ := Aside0.mk (blk_grown (g := gb239) (o := .cells #[.int .i64 ((rd_T69 l0_2 x18_1).f0), .slice A238_1 ((rd_T69 l0_2 x18_1).f1).length c238_1] 69 (0, 0)) bkw hg (Kd.R_ne HL258_1.out BK239.out (by decide)))
              have n3_ := Aside0.mk (blk_grown (g := gb243) (o := .cells #[(.slice Ab66 x66_2.length cb66 : Value)] 70 (0, 0)) bkw hg (Kd.R_away HL258_1.out (fun _ hk => hk.1.2)))
              have n4_ := Aside0.mk (hb)
              have n5_ := Aside0.mk (Kd.H_grown (Kd.H_widen (by repeat (first | exact HH70.out | refine Kd.H_alloc ?_ _ | refine Kd.H_drewN ?_ _ | refine Kd.H_drew ?_))) hg (fun k_ e_ => .inl (UU70.out.1 k_ e_)))
              have n6_ := Aside0.mk (Kd.R_over' (v := (.slice A258_1 ((rd_T76 x4_1 t249).f1).length c258_1)) (by (with_reducible repeat (first | apply Kd.R_alloc | apply Kd.R_drewN | apply Kd.R_drew)); exact HE70_0.out) (Kd.R_typed UU70.out) (by decide) hg)
              have n7_ := Aside0.mk (ho)
              clear HO_66
              clear BK230
              clear BK239
              clear BK243
              clear HB
              clear HH70
              clear HE70_0
              clear HO_4
              clear UU70
              clear HL258_0
              clear HL258_1
              have HO_66 := n0_
              have BK230 := n1_
              have BK239 := n2_
              have BK243 := n3_
              have HB := n4_
              have HH70 := n5_
              have HE70_0 := n6_
              have HO261 := n7_
              clear n0_ n1_ n2_ n3_ n4_ n5_ n6_ n7_
              clear ho hb hg hat
              have p62 : 0 ≤ (t249 : Int) := odt
              have q62 : (t249 : Int) < ((x4_1.length : Int) : Int) := odt
              replace p62 := eq_true p62
              replace q62 := eq_true q62
              obtain ⟨Ao74, co74, eo74⟩ := Kd.R_slice HO261.out
              (first | subst eo74 | (injection eo74 with f1_ f2_ f3_; have f4_ := f1_.symm; have f5_ := f3_.symm; clear f1_ f2_ f3_; subst f4_; subst f5_))
              obtain ⟨_, _, hraw72, _, _, hcc72, _⟩ := Kd.H_raw HH70.out odt (by have h_ : (t249 : Int) < ((x4_1.length : Int) : Int) := odt; first | exact h_ | (have e_ := (HN70.out); omega) | simpa using h_)
              obtain ⟨_, hfr72⟩ := Kd.H_at HH70.out odt (by have h_ : (t249 : Int) < ((x4_1.length : Int) : Int) := odt; first | exact h_ | (have e_ := (HN70.out); omega) | simpa using h_)
              have hx72_0 := hcc72 1 _ rfl
              have hf72_0 := hfr72 1
              (try rw [show (k76).sz = 2 from rfl] at hx72_0)
              (try simp only [Int.toNat_natCast] at hx72_0)
              (try rw [show (k76).sz = 2 from rfl] at hf72_0)
              (try simp only [Int.toNat_natCast] at hf72_0)
              have HP72 := Kd.S_seg0 HH70.out odt (by have h_ : (t249 : Int) < ((x4_1.length : Int) : Int) := odt; first | exact h_ | (have e_ := (HN70.out); omega) | simpa using h_) (seg := [.slice Ao74 y259.length co74]) (j := 1) (show 2 ≤ 2 from by decide) (x' := (⟨(rd_T76 x4_1 t249).f0, y259⟩ : S76)) (k76_mkM _ _ _ (⟨(rd_T76 x4_1 t249).f0, y259⟩ : S76) (Kd.R_mono HE70_0.out (fun _ h_ => .inl h_)) HO261.out) (fun _ hk => hk)
              clear hcc72 hfr72
              have HNB230_go70 := Aside0.mk (show gb230 ≠ go70 from by have h_ := Kd.R_ne hraw72 BK230.out (by decide); intro e_; exact h_ (by rw [e_]; rfl))
              have HNB239_go70 := Aside0.mk (show gb239 ≠ go70 from by have h_ := Kd.R_ne hraw72 BK239.out (by decide); intro e_; exact h_ (by rw [e_]; rfl))
              have HNB243_go70 := Aside0.mk (show gb243 ≠ go70 from by have h_ := Kd.R_ne hraw72 BK243.out (by decide); intro e_; exact h_ (by rw [e_]; rfl))
              have HS72 := HP72.1
              rw [← Ny262.out] at HS72
              have HQ72 := Aside0.mk HS72
              obtain ⟨_, hgg72⟩ := Kd.R_typed hraw72 go70 rfl
              have GG72_ := Aside0.mk hgg72
              clear HP72 HS72 hgg72
              refine hK.out _ _ ⟨(blk_cell BK239.out 0).trans rfl, (blk_cell BK239.out 1).trans rfl, HS2_, HS3_⟩ (fun hHeld => ?_)
              clear hK K
              refine norm_ (a' := ?_) ?_ ?_
              rotate_left
              ·show Act.put _ (some 58) _ = _
               simp only [Act.put, sp1, sp2, sp3, i64_w, i32_w]
               rfl
              refine pure_ (i := 11) (N := some 59) (v := ?_) (a' := ?_) #[true, true, true, true, true, true, true, true, true, true, true, true, false, false] rfl rfl (any_of HT_.out (by kernel_rfl)) (fun _ _ _ h => h) (Or.inl ⟨by rfl, ?_⟩) ?_ ?_
              rotate_left; (· (intro w'; go_simp; with_reducible rfl)); rotate_left; (· (simp only [Act.put, sp1, sp2, sp3, i64_w, i32_w]; rfl))
              refine pure_ (i := 12) (N := some 60) (v := ?_) (a' := ?_) #[true, true, true, true, true, true, true, true, true, true, true, true, true, false] rfl rfl (any_of HT_.out (by kernel_rfl)) (fun _ _ _ h => h) (Or.inl ⟨by rfl, ?_⟩) ?_ ?_
              rotate_left; (· (intro w'; go_simp; with_reducible rfl)); rotate_left; (· (simp only [Act.put, sp1, sp2, sp3, i64_w, i32_w]; rfl))
              refine last_ (i := 13) (N := none) #[true, true, true, true, true, true, true, true, true, true, true, true, true, true] rfl rfl (one_of HT_.out (by kernel_rfl)) (by decide) (fun K hK => ?_)
              refine skip_ (w1 := ?_) (by rfl) rfl ?_ ?_
              rotate_left
              ·go_simp
               rfl
              refine hK.out _ _ ?_
              clear hK K
              refine done_ (done_of HT_.out (by kernel_rfl)) ?_
              try go_wp2
              go_roundg k2
              case measure => have := HK1.out; have := HK2.out; omega
              case rel => exact ⟨(y262), (wrap64 (x18_1 + 1)), (by first | rfl | (simp; done) | (simp [*]; done)), H', ⟨by have := HK1.out; have := HK2.out; omega⟩, ⟨by (with_reducible repeat (first | apply Kd.S_alloc | apply Kd.S_drewN | apply Kd.S_drew)); exact Kd.S_mono HQ72.out (fun _ hk => trivial)⟩, ⟨by (with_reducible repeat (first | refine blk_drewN ?_ _ | refine blk_drew ?_ | refine blk_alloc ?_ _)); refine blk_far ?_ HNB230_go70.out _; (with_reducible repeat (first | refine blk_drewN ?_ _ | refine blk_drew ?_ | refine blk_alloc ?_ _)); exact BK230.out⟩, ⟨blw⟩⟩
             ·rw [if_neg c61] at H
              exact absurd H (by simp)
            ·rw [if_neg c60] at H
             exact absurd H (by simp)
           ·rw [if_neg c59] at H
            exact absurd H (by simp)
      ·rw [if_neg c12] at H
       exact absurd H (by simp)
     ·rw [if_neg c11] at H
      exact absurd H (by simp)
    ·rw [if_neg c10] at H
     have c10b0 : decide (x18_1 < (l0_2.length : Int)) = false := decide_eq_false c10
     clear c10
     replace H := Option.bind_eq_some_iff.mp H
     obtain ⟨t235, A750, H⟩ := H
     replace H : (some (t235, true)) = some (r1, r2) := H
     have A75 := Aside0.mk A750
     clear A750
     simp only [Option.some.injEq, Prod.mk.injEq] at H
     obtain ⟨rfl, rfl⟩ := H
     obtain ⟨Ao76, co76, eo76⟩ := Kd.S_slice HO_4.out
     subst eo76
     go_wp2_with (first | ((with_reducible refine gate_callee (f := 45) rfl ?_); refine goesL_ (some 63) rfl rfl Try.func45 (by kernel_rfl) rfl #[.slice Ao76 x4_1.length co76, .func (.func 46) #[] #[]] rfl (by (try simp only [List.map_toArray, List.map_cons, List.map_nil]); first | done | rfl | (simp only [List.length_drop, List.length_take]; rfl)) ?_; refine (impl_Kind_45.real (ok := fun _ => True) (.slice Ao76 x4_1.length co76) x4_1 t235 w _ blw (by (with_reducible repeat (first | apply Kd.S_alloc | apply Kd.S_drewN | apply Kd.S_drew)); exact HO_4.out) A75.out).mono ?_; rintro e w77 ⟨rfl, ho0, hb, hgr⟩; refine ⟨_, rfl, ?_⟩; clear HO_4; clear BK230; clear HB; clear hgr; have HO237 := Aside0.mk ho0; have HB := Aside0.mk hb; clear ho0 hb))
     go_ret2
     exact ⟨_, by first | rfl | (simp [errW_none, errW_some] <;> rfl) | (simp [*, errW_none, errW_some] <;> rfl), by (with_reducible repeat (first | apply Kd.S_alloc | apply Kd.S_drewN | apply Kd.S_drew)); exact Kd.S_mono HO237.out (fun _ hk => trivial), blw⟩
 ·replace c3 := Bool.eq_false_iff.mpr c3
  subst c3
  have H1 : (some (([] : List (S76)), false)) = some (r1, r2) := by rw [if_neg (show ¬ (false = true) by decide)] at H; exact H
  clear H
  have H := H1
  clear H1
  simp only [Option.some.injEq, Prod.mk.injEq] at H
  obtain ⟨rfl, rfl⟩ := H
  go_enter Try.func10, Try.ntmps10
  go_wp2_with (first | ((with_reducible refine gate_dst (N := 1) rfl ?_); refine box_event ?hg (N := 1) ?hd (cs := #[.int .i64 a0_0, .int .i64 a0_1, .slice A0_2 l0_2.length c0_2]) (t := 31) ?hr ?_; (case hd => rfl); (case hg => rfl); (case hr => first | (go_simp; done) | (go_simp; rfl)); intro gb230 hg w78 hbox hb; have n0_ := Aside0.mk (below_step blw hb); have n1_ := Aside0.mk (hbox); have n2_ := Aside0.mk ((by rw [hg]; exact (below_size blw) : w.heap.size ≤ gb230)); have n3_ := Aside0.mk ((by rw [hg]; exact (below_size blw) : w.heap.size ≤ gb230)); clear HB; have HB := n0_; have BK230 := n1_; have GW230 := n2_; have GE230 := n3_; clear n0_ n1_ n2_ n3_; clear hb hbox hg; have hcz79_0 : w78.cell? ⟨gb230, 0, none⟩ = some (.int .i64 a0_0) := (blk_cell BK230.out 0).trans rfl; have hcz79_1 : w78.cell? ⟨gb230, 1, none⟩ = some (.int .i64 a0_1) := (blk_cell BK230.out 1).trans rfl; have hcz79_2 : w78.cell? ⟨gb230, 2, none⟩ = some (.slice A0_2 l0_2.length c0_2) := (blk_cell BK230.out 2).trans rfl; have hfz79_0 := blk_frozen BK230.out 0; have hfz79_1 := blk_frozen BK230.out 1; have hfz79_2 := blk_frozen BK230.out 2) | ((with_reducible refine gate_callee (f := 41) rfl ?_); refine goesL_ (some 12) rfl rfl Try.func41 (by kernel_rfl) rfl #[.agg #[.int .i64 a0_0, .int .i64 a0_1, .slice A0_2 l0_2.length c0_2]] rfl (by (try simp only [List.map_toArray, List.map_cons, List.map_nil]); first | done | rfl | (simp only [List.length_drop, List.length_take]; rfl)) ?_; (with_reducible refine (impl_GoodWorld.calls k a0_0 a0_1 _ _ l0_2 false _ ?side1 ?side2 A2.out).mono ?_); (case side1 => repeat (first | exact (Kd.C_below HR0_2.out HB.out) | (with_reducible refine Kd.C_alloc ?_ _) | (with_reducible refine Kd.C_drewN ?_ _) | (with_reducible refine Kd.C_drew ?_))); (case side2 => exact HC0_2.out); rintro e w80 ⟨rfl, hb⟩; refine ⟨_, rfl, ?_⟩; have n0_ := Aside0.mk (blk_below (g := gb230) (o := .cells #[.int .i64 a0_0, .int .i64 a0_1, .slice A0_2 l0_2.length c0_2] 31 (0, 0)) bkw hb); have n1_ := Aside0.mk (below_step blw hb); clear BK230; clear HB; have BK230 := n0_; have HB := n1_; clear n0_ n1_; (try clear hb); (try clear hb2); (try clear hk); (try clear hi)))
  go_ret2
  exact ⟨_, by first | rfl | (simp [errW_none, errW_some] <;> rfl) | (simp [*, errW_none, errW_some] <;> rfl), by first | exact Kd.S_nil _ _ _ _ _ | exact Kd.N_nil _ _ _ _ _ | exact Kd.V_nil _ _ _ _ _ | exact Kd.Q_nil _ _ _ _ _ | exact Kd.R_nil _ _ _ _ _, blw⟩

end Go.Proofs.Ytiaajmnmbjheoaa.PFnExactKindsOf
