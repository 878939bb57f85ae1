/- The machine's side of a law, function by function: a Lean function with the Go function's answers and the proof that the Go code comes to them. No condition. Written by this session's program over the kit's print, this session's own contracts set in. -/
import Derived.Test.YtmabgkhkokckgaaPFnExactHangx0
import Derived.Test.YtmabgkhkokckgaaPFnExactHangx8
import Derived.Test.YtmabgkhkokckgaaPFnExactHangx9
namespace Go.Proofs.Ytmabgkhkokckgaa.PFnExactHang
open Go.RowKit Go.Proofs.YtmabgkhkokckgaaW.PrintWords Go.Proofs.YtmabgkhkokckgaaW.PrintLast Go.Proofs.YtmabgkhkokckgaaW.PrintMore
attribute [local go_sem] max2_int min2_int max_two min_two max_three min_three max_four min_four   -- for this text's walks alone
set_option linter.unusedVariables false
set_option linter.unusedSimpArgs false

/-! ### impl_spotOf: function 68 -/
def impl_spotOf.f : Nat → List (S73) → Int → Option (Int × Int × Int × Bool × Bool)
 | 0, _, _ => none
 | k + 1, l0, a1 => if 0 ≤ a1 then (if a1 < (l0.length : Int) then (if ((rd_T73 l0 a1).f1) < 0 then ((impl_Node_spot.f ((rd_T73 l0 a1).f0) ((rd_T73 l0 a1).f1) ((rd_T73 l0 a1).f2) ((rd_T73 l0 a1).f3) ((rd_T73 l0 a1).f4) ((rd_T73 l0 a1).f5)).bind fun bt269 => (some (bt269.1, bt269.2.1, bt269.2.2.1, bt269.2.2.2, true))) else ((impl_spotOf.f k l0 ((rd_T73 l0 a1).f1)).bind fun bt274 => (if bt274.2.2.2.2 = true then ((impl_Node_spot.f ((rd_T73 l0 a1).f0) ((rd_T73 l0 a1).f1) ((rd_T73 l0 a1).f2) ((rd_T73 l0 a1).f3) ((rd_T73 l0 a1).f4) ((rd_T73 l0 a1).f5)).bind fun bt281 => ((impl_JoinSpots.f k bt274.1 bt274.2.1 bt274.2.2.1 bt274.2.2.2.1 bt281.1 bt281.2.1 bt281.2.2.1 bt281.2.2.2).bind fun bt285 => (some (bt285.1, bt285.2.1, bt285.2.2.1, bt285.2.2.2.1, bt285.2.2.2.2)))) else (some (0, 0, 0, false, false))))) else (none)) else (none)
theorem impl_spotOf.mono_l : ∀ k, (∀ y0 y1, LeO (impl_spotOf.f k y0 y1) (impl_spotOf.f (k + 1) y0 y1))
 | 0 => fun _ _ r h => by simp [impl_spotOf.f] at h
 | k + 1 => by
  have ih0 := impl_spotOf.mono_l k
  ·intro y0 y1
   unfold impl_spotOf.f
   repeat' first
   | (with_reducible exact ih0 _ _)
   | (with_reducible exact impl_JoinSpots.mono _ _ _ _ _ _ _ _ _)
   | (with_reducible exact LeO.refl _)
   | (with_reducible exact LeO.none _)
   | (with_reducible refine LeO.ite ?_ ?_)
   | (with_reducible refine LeO.bind ?_ (fun _ => ?_))
   | exact ih0 _ _
   | exact impl_JoinSpots.mono _ _ _ _ _ _ _ _ _
   | exact LeO.none _
   | refine LeO.ite ?_ ?_
   | refine LeO.bind ?_ (fun _ => ?_)
theorem impl_spotOf.mono : ∀ a0 a1 k, LeO (impl_spotOf.f k a0 a1) (impl_spotOf.f (k + 1) a0 a1) := by
 intro a0 a1 k
 have ih0 := impl_spotOf.mono_l k
 exact ih0 a0 a1
def impl_spotOf.T6 : Bool × List (List Nat × List Nat) := (true, [([], []), ([], []), ([], []), ([1, 2], [1, 2]), ([3], [3]), ([4], [4]), ([0, 5, 5], [0, 5]), ([6], [6]), ([6], [6]), ([7, 6, 0, 1, 2, 3, 4, 5, 6, 7, 8], [7]), ([8, 9, 0, 1, 2, 3, 4, 5, 6, 7, 8, 9], [8])])
def impl_spotOf.B6 : List Nat := [0, 0, 0, 6, 14, 30, 63, 127, 127, 511, 1023]
theorem impl_spotOf.tab6 : rtab .any (opsOf Try.f68 6) = impl_spotOf.T6 := by kernel_rfl
theorem impl_spotOf.bits6 : waitsOk impl_spotOf.T6.2 impl_spotOf.B6 = true := by kernel_rfl
set_option maxHeartbeats 8000000 in
set_option maxRecDepth 100000 in
theorem impl_spotOf.calls (k : Nat) : ∀ (A0 : Option Addr) (c0 : Nat) (l0 : List (S73)) (a1 : Int) (r1 : Int) (r2 : Int) (r3 : Int) (r4 : Bool) (r5 : Bool) (w : World) (hr0 : Kd.C k73 w A0 l0.length l0) (hc0 : l0.length ≤ c0) (h : impl_spotOf.f k l0 a1 = some (r1, r2, r3, r4, r5)),
  Calls Try.prog 68 #[.slice A0 l0.length c0, .int .i64 a1] w fun e w' => e = .returned (.tuple #[.agg #[.int .i64 r1, .int .i64 r2, .int .i64 r3, .bool r4], .bool r5]) ∧ Below w.heap.size w w' := by
 induction k using Nat.strongRecOn with
 | _ k ih =>
 intro A0 c0 l0 a1 r1 r2 r3 r4 r5 w hr0 hc0 h
 cases k with
 | zero => exact absurd h (by simp [impl_spotOf.f])
 | succ k =>
 simp only [impl_spotOf.f] at h
 have hu24 := Try.underlying24
 have hu73 := Try.underlying73
 have HR0 := Aside0.mk hr0
 have HC0 := Aside0.mk hc0
 clear hr0 hc0
 have HB := Aside0.mk (Below.refl w.heap.size w)
 have H : (if 0 ≤ a1 then (if a1 < (l0.length : Int) then (if ((rd_T73 l0 a1).f1) < 0 then ((impl_Node_spot.f ((rd_T73 l0 a1).f0) ((rd_T73 l0 a1).f1) ((rd_T73 l0 a1).f2) ((rd_T73 l0 a1).f3) ((rd_T73 l0 a1).f4) ((rd_T73 l0 a1).f5)).bind fun bt269 => (some (bt269.1, bt269.2.1, bt269.2.2.1, bt269.2.2.2, true))) else ((impl_spotOf.f k l0 ((rd_T73 l0 a1).f1)).bind fun bt274 => (if bt274.2.2.2.2 = true then ((impl_Node_spot.f ((rd_T73 l0 a1).f0) ((rd_T73 l0 a1).f1) ((rd_T73 l0 a1).f2) ((rd_T73 l0 a1).f3) ((rd_T73 l0 a1).f4) ((rd_T73 l0 a1).f5)).bind fun bt281 => ((impl_JoinSpots.f k bt274.1 bt274.2.1 bt274.2.2.1 bt274.2.2.2.1 bt281.1 bt281.2.1 bt281.2.2.1 bt281.2.2.2).bind fun bt285 => (some (bt285.1, bt285.2.1, bt285.2.2.1, bt285.2.2.2.1, bt285.2.2.2.2)))) else (some (0, 0, 0, false, false))))) else (none)) else (none)) = some (r1, r2, r3, r4, r5) := h
 clear h
 by_cases c3 : 0 ≤ a1
 ·rw [if_pos c3] at H
  have c3b0 : decide (0 ≤ a1) = true := decide_eq_true c3
  clear c3
  by_cases c4 : a1 < (l0.length : Int)
  ·rw [if_pos c4] at H
   have c4b0 : decide (a1 < (l0.length : Int)) = true := decide_eq_true c4
   clear c4
   by_cases c5 : ((rd_T73 l0 a1).f1) < 0
   ·rw [if_pos c5] at H
    have c5b0 : decide (((rd_T73 l0 a1).f1) < 0) = true := decide_eq_true c5
    clear c5
    replace H := Option.bind_eq_some_iff.mp H
    obtain ⟨⟨t269, t270, t271, t272⟩, A60, H⟩ := H
    replace H : (some (t269, t270, t271, t272, true)) = some (r1, r2, r3, r4, r5) := H
    have A6 := Aside0.mk A60
    clear A60
    simp only [Option.some.injEq, Prod.mk.injEq] at H
    obtain ⟨rfl, rfl, rfl, rfl, rfl⟩ := H
    go_enter Try.func68, Try.ntmps68
    go_wp2_with (first | ((with_reducible refine gate_dst (N := 4) rfl ?_); refine box_event ?hg (N := 4) ?hd (cs := #[.int .i64 0, .int .i64 0, .int .i64 0, .bool false]) (t := 24) ?hr ?_; (case hd => rfl); (case hg => rfl); (case hr => first | (go_simp; done) | (go_simp; rfl)); intro gb266 hg w7 hbox hb; have n0_ := Aside0.mk (below_step blw hb); have n1_ := Aside0.mk (hbox); have n2_ := Aside0.mk ((by rw [hg]; exact (below_size blw) : w.heap.size ≤ gb266)); have n3_ := Aside0.mk ((by rw [hg]; exact (below_size blw) : w.heap.size ≤ gb266)); clear HB; have HB := n0_; have BK266 := n1_; have GW266 := n2_; have GE266 := n3_; clear n0_ n1_ n2_ n3_; clear hb hbox hg; have p267 : 0 ≤ (a1 : Int) := odt; have q267 : a1 < (l0.length : Int) := odt; obtain ⟨ad267, e267, hx267_0, hx267_1, hx267_2, hx267_3, hx267_4, hx267_5⟩ := at_T73 HR0.out a1 p267 q267; cases e267; replace hx267_0 := (HB.out.cell (World.block_lt_of_cell? w _ hx267_0)).trans hx267_0; replace hx267_1 := (HB.out.cell (World.block_lt_of_cell? w _ hx267_1)).trans hx267_1; replace hx267_2 := (HB.out.cell (World.block_lt_of_cell? w _ hx267_2)).trans hx267_2; replace hx267_3 := (HB.out.cell (World.block_lt_of_cell? w _ hx267_3)).trans hx267_3; replace hx267_4 := (HB.out.cell (World.block_lt_of_cell? w _ hx267_4)).trans hx267_4; replace hx267_5 := (HB.out.cell (World.block_lt_of_cell? w _ hx267_5)).trans hx267_5; replace p267 := eq_true p267; replace q267 := eq_true q267; have p268 : 0 ≤ (a1 : Int) := odt; have q268 : a1 < (l0.length : Int) := odt; obtain ⟨ad268, e268, hx268_0, hx268_1, hx268_2, hx268_3, hx268_4, hx268_5⟩ := at_T73 HR0.out a1 p268 q268; obtain rfl : ad267 = ad268 := (by injection e268); replace hx268_0 := (HB.out.cell (World.block_lt_of_cell? w _ hx268_0)).trans hx268_0; replace hx268_1 := (HB.out.cell (World.block_lt_of_cell? w _ hx268_1)).trans hx268_1; replace hx268_2 := (HB.out.cell (World.block_lt_of_cell? w _ hx268_2)).trans hx268_2; replace hx268_3 := (HB.out.cell (World.block_lt_of_cell? w _ hx268_3)).trans hx268_3; replace hx268_4 := (HB.out.cell (World.block_lt_of_cell? w _ hx268_4)).trans hx268_4; replace hx268_5 := (HB.out.cell (World.block_lt_of_cell? w _ hx268_5)).trans hx268_5; replace p268 := eq_true p268; replace q268 := eq_true q268) | ((with_reducible refine gate_callee (f := 59) rfl ?_); refine goesL_ (some 18) rfl rfl Try.func59 (by kernel_rfl) rfl #[.agg #[.string ((rd_T73 l0 a1).f0), .int .i64 ((rd_T73 l0 a1).f1), .int .i64 ((rd_T73 l0 a1).f2), .int .i64 ((rd_T73 l0 a1).f3), .int .i64 ((rd_T73 l0 a1).f4), .bool ((rd_T73 l0 a1).f5)]] rfl (by (try simp only [List.map_toArray, List.map_cons, List.map_nil]); first | done | rfl | (simp only [List.length_drop, List.length_take]; rfl)) ?_; (with_reducible refine (impl_Node_spot.calls ((rd_T73 l0 a1).f0) ((rd_T73 l0 a1).f1) ((rd_T73 l0 a1).f2) ((rd_T73 l0 a1).f3) ((rd_T73 l0 a1).f4) ((rd_T73 l0 a1).f5) t269 t270 t271 t272 _ A6.out).mono ?_); rintro e w8 ⟨rfl, hb⟩; refine ⟨_, rfl, ?_⟩; have n0_ := Aside0.mk (blk_below (g := gb266) (o := .cells #[.int .i64 0, .int .i64 0, .int .i64 0, .bool false] 24 (0, 0)) bkw hb); have n1_ := Aside0.mk (below_step blw hb); clear BK266; clear HB; have BK266 := n0_; have HB := n1_; clear n0_ n1_; (try clear hb); (try clear hb2); (try clear hk); (try clear hi); have hcz9_0 : w8.cell? ⟨gb266, 0, none⟩ = some (.int .i64 0) := (blk_cell BK266.out 0).trans rfl; have hcz9_1 : w8.cell? ⟨gb266, 1, none⟩ = some (.int .i64 0) := (blk_cell BK266.out 1).trans rfl; have hcz9_2 : w8.cell? ⟨gb266, 2, none⟩ = some (.int .i64 0) := (blk_cell BK266.out 2).trans rfl; have hcz9_3 : w8.cell? ⟨gb266, 3, none⟩ = some (.bool false) := (blk_cell BK266.out 3).trans rfl; have hfz9_0 := blk_frozen BK266.out 0; have hfz9_1 := blk_frozen BK266.out 1; have hfz9_2 := blk_frozen BK266.out 2; have hfz9_3 := blk_frozen BK266.out 3))
    refine bodyPost_ret (results_ct rfl _ _ gb266 24 #[.int .i64 t269, .int .i64 t270, .int .i64 t271, .bool t272] (0, 0) _ rfl (by (with_reducible repeat (first | refine blk_drewN ?_ _ | refine blk_drew ?_ | refine blk_alloc ?_ _)); refine blk_put (cs := #[.int .i64 t269, .int .i64 t270, .int .i64 t271, .bool false]) ?_ 3 _ rfl; (with_reducible repeat (first | refine blk_drewN ?_ _ | refine blk_drew ?_ | refine blk_alloc ?_ _)); refine blk_put (cs := #[.int .i64 t269, .int .i64 t270, .int .i64 0, .bool false]) ?_ 2 _ rfl; (with_reducible repeat (first | refine blk_drewN ?_ _ | refine blk_drew ?_ | refine blk_alloc ?_ _)); refine blk_put (cs := #[.int .i64 t269, .int .i64 0, .int .i64 0, .bool false]) ?_ 1 _ rfl; (with_reducible repeat (first | refine blk_drewN ?_ _ | refine blk_drew ?_ | refine blk_alloc ?_ _)); refine blk_put (cs := #[.int .i64 0, .int .i64 0, .int .i64 0, .bool false]) ?_ 0 _ rfl; (with_reducible repeat (first | refine blk_drewN ?_ _ | refine blk_drew ?_ | refine blk_alloc ?_ _)); exact BK266.out) Try.underlying24 rfl (by kernel_rfl)) rfl ?_
    exact ⟨by first | rfl | (simp [errW_none, errW_some] <;> rfl) | (simp [*, errW_none, errW_some] <;> rfl), blw⟩
   ·rw [if_neg c5] at H
    have c5b0 : decide (((rd_T73 l0 a1).f1) < 0) = false := decide_eq_false c5
    clear c5
    replace H := Option.bind_eq_some_iff.mp H
    obtain ⟨⟨t274, t275, t276, t277, t278⟩, A100, H⟩ := H
    replace H : (if t278 = true then ((impl_Node_spot.f ((rd_T73 l0 a1).f0) ((rd_T73 l0 a1).f1) ((rd_T73 l0 a1).f2) ((rd_T73 l0 a1).f3) ((rd_T73 l0 a1).f4) ((rd_T73 l0 a1).f5)).bind fun bt281 => ((impl_JoinSpots.f k t274 t275 t276 t277 bt281.1 bt281.2.1 bt281.2.2.1 bt281.2.2.2).bind fun bt285 => (some (bt285.1, bt285.2.1, bt285.2.2.1, bt285.2.2.2.1, bt285.2.2.2.2)))) else (some (0, 0, 0, false, false))) = some (r1, r2, r3, r4, r5) := H
    have A10 := Aside0.mk A100
    clear A100
    by_cases c11 : t278 = true
    ·subst c11
     have H1 : ((impl_Node_spot.f ((rd_T73 l0 a1).f0) ((rd_T73 l0 a1).f1) ((rd_T73 l0 a1).f2) ((rd_T73 l0 a1).f3) ((rd_T73 l0 a1).f4) ((rd_T73 l0 a1).f5)).bind fun bt281 => ((impl_JoinSpots.f k t274 t275 t276 t277 bt281.1 bt281.2.1 bt281.2.2.1 bt281.2.2.2).bind fun bt285 => (some (bt285.1, bt285.2.1, bt285.2.2.1, bt285.2.2.2.1, bt285.2.2.2.2)))) = some (r1, r2, r3, r4, r5) := by rw [if_pos rfl] at H; exact H
     clear H
     have H := H1
     clear H1
     replace H := Option.bind_eq_some_iff.mp H
     obtain ⟨⟨t281, t282, t283, t284⟩, A120, H⟩ := H
     replace H : ((impl_JoinSpots.f k t274 t275 t276 t277 t281 t282 t283 t284).bind fun bt285 => (some (bt285.1, bt285.2.1, bt285.2.2.1, bt285.2.2.2.1, bt285.2.2.2.2))) = some (r1, r2, r3, r4, r5) := H
     have A12 := Aside0.mk A120
     clear A120
     replace H := Option.bind_eq_some_iff.mp H
     obtain ⟨⟨t285, t286, t287, t288, t289⟩, A130, H⟩ := H
     replace H : (some (t285, t286, t287, t288, t289)) = some (r1, r2, r3, r4, r5) := H
     have A13 := Aside0.mk A130
     clear A130
     simp only [Option.some.injEq, Prod.mk.injEq] at H
     obtain ⟨rfl, rfl, rfl, rfl, rfl⟩ := H
     go_enter Try.func68, Try.ntmps68
     try go_wp2_with (first | ((with_reducible refine gate_dst (N := 4) rfl ?_); refine box_event ?hg (N := 4) ?hd (cs := #[.int .i64 0, .int .i64 0, .int .i64 0, .bool false]) (t := 24) ?hr ?_; (case hd => rfl); (case hg => rfl); (case hr => first | (go_simp; done) | (go_simp; rfl)); intro gb266 hg w14 hbox hb; have n0_ := Aside0.mk (below_step blw hb); have n1_ := Aside0.mk (hbox); have n2_ := Aside0.mk ((by rw [hg]; exact (below_size blw) : w.heap.size ≤ gb266)); have n3_ := Aside0.mk ((by rw [hg]; exact (below_size blw) : w.heap.size ≤ gb266)); clear HB; have HB := n0_; have BK266 := n1_; have GW266 := n2_; have GE266 := n3_; clear n0_ n1_ n2_ n3_; clear hb hbox hg; have p267 : 0 ≤ (a1 : Int) := odt; have q267 : a1 < (l0.length : Int) := odt; obtain ⟨ad267, e267, hx267_0, hx267_1, hx267_2, hx267_3, hx267_4, hx267_5⟩ := at_T73 HR0.out a1 p267 q267; cases e267; replace hx267_0 := (HB.out.cell (World.block_lt_of_cell? w _ hx267_0)).trans hx267_0; replace hx267_1 := (HB.out.cell (World.block_lt_of_cell? w _ hx267_1)).trans hx267_1; replace hx267_2 := (HB.out.cell (World.block_lt_of_cell? w _ hx267_2)).trans hx267_2; replace hx267_3 := (HB.out.cell (World.block_lt_of_cell? w _ hx267_3)).trans hx267_3; replace hx267_4 := (HB.out.cell (World.block_lt_of_cell? w _ hx267_4)).trans hx267_4; replace hx267_5 := (HB.out.cell (World.block_lt_of_cell? w _ hx267_5)).trans hx267_5; replace p267 := eq_true p267; replace q267 := eq_true q267; have p273 : 0 ≤ (a1 : Int) := odt; have q273 : a1 < (l0.length : Int) := odt; obtain ⟨ad273, e273, hx273_0, hx273_1, hx273_2, hx273_3, hx273_4, hx273_5⟩ := at_T73 HR0.out a1 p273 q273; obtain rfl : ad267 = ad273 := (by injection e273); replace hx273_0 := (HB.out.cell (World.block_lt_of_cell? w _ hx273_0)).trans hx273_0; replace hx273_1 := (HB.out.cell (World.block_lt_of_cell? w _ hx273_1)).trans hx273_1; replace hx273_2 := (HB.out.cell (World.block_lt_of_cell? w _ hx273_2)).trans hx273_2; replace hx273_3 := (HB.out.cell (World.block_lt_of_cell? w _ hx273_3)).trans hx273_3; replace hx273_4 := (HB.out.cell (World.block_lt_of_cell? w _ hx273_4)).trans hx273_4; replace hx273_5 := (HB.out.cell (World.block_lt_of_cell? w _ hx273_5)).trans hx273_5; replace p273 := eq_true p273; replace q273 := eq_true q273) | ((with_reducible refine gate_callee (f := 68) rfl ?_); refine goesL_ (some 26) rfl rfl Try.func68 (by kernel_rfl) rfl #[.slice (some ad267) l0.length c0, .int .i64 ((rd_T73 l0 a1).f1)] rfl (by (try simp only [List.map_toArray, List.map_cons, List.map_nil]); first | done | rfl | (simp only [List.length_drop, List.length_take]; rfl)) ?_; (with_reducible refine (ih k (by omega) _ _ l0 ((rd_T73 l0 a1).f1) t274 t275 t276 t277 true _ ?side1 ?side2 A10.out).mono ?_); (case side1 => repeat (first | exact (Kd.C_below HR0.out HB.out) | (with_reducible refine Kd.C_alloc ?_ _) | (with_reducible refine Kd.C_drewN ?_ _) | (with_reducible refine Kd.C_drew ?_))); (case side2 => exact HC0.out); rintro e w15 ⟨rfl, hb⟩; refine ⟨_, rfl, ?_⟩; have n0_ := Aside0.mk (blk_below (g := gb266) (o := .cells #[.int .i64 0, .int .i64 0, .int .i64 0, .bool false] 24 (0, 0)) bkw hb); have n1_ := Aside0.mk (below_step blw hb); clear BK266; clear HB; have BK266 := n0_; have HB := n1_; clear n0_ n1_; (try clear hb); (try clear hb2); (try clear hk); (try clear hi)) | ((with_reducible refine gate_dst (N := 6) rfl ?_); refine box_event ?hg (N := 6) ?hd (cs := #[.int .i64 0, .int .i64 0, .int .i64 0, .bool false]) (t := 24) ?hr ?_; (case hd => rfl); (case hg => rfl); (case hr => first | (go_simp; done) | (go_simp; rfl)); intro gb279 hg w16 hbox hb; have n0_ := Aside0.mk (blk_below (g := gb266) (o := .cells #[.int .i64 0, .int .i64 0, .int .i64 0, .bool false] 24 (0, 0)) bkw hb); have n1_ := Aside0.mk (below_step blw hb); have n2_ := Aside0.mk (hbox); have n3_ := Aside0.mk ((by rw [hg]; exact (below_size blw) : w.heap.size ≤ gb279)); have n4_ := Aside0.mk ((by rw [hg]; exact (below_size blw) : w.heap.size ≤ gb279)); have n5_ := Aside0.mk ((by rw [hg]; exact Nat.ne_of_lt (blk_lt (g := gb266) (o := .cells #[.int .i64 0, .int .i64 0, .int .i64 0, .bool false] 24 (0, 0)) bkw) : gb266 ≠ gb279)); have n6_ := Aside0.mk ((by rw [hg]; exact Nat.ne_of_gt (blk_lt (g := gb266) (o := .cells #[.int .i64 0, .int .i64 0, .int .i64 0, .bool false] 24 (0, 0)) bkw) : gb279 ≠ gb266)); clear BK266; clear HB; have BK266 := n0_; have HB := n1_; have BK279 := n2_; have GW279 := n3_; have GE279 := n4_; have NB266_279 := n5_; have NB279_266 := n6_; clear n0_ n1_ n2_ n3_ n4_ n5_ n6_; clear hb hbox hg; have hnb17 := NB279_266.out; have hnc17 := NB266_279.out; have hcz18_0 : w16.cell? ⟨gb279, 0, none⟩ = some (.int .i64 0) := (blk_cell BK279.out 0).trans rfl; have hcz18_1 : w16.cell? ⟨gb279, 1, none⟩ = some (.int .i64 0) := (blk_cell BK279.out 1).trans rfl; have hcz18_2 : w16.cell? ⟨gb279, 2, none⟩ = some (.int .i64 0) := (blk_cell BK279.out 2).trans rfl; have hcz18_3 : w16.cell? ⟨gb279, 3, none⟩ = some (.bool false) := (blk_cell BK279.out 3).trans rfl; have hfz18_0 := blk_frozen BK279.out 0; have hfz18_1 := blk_frozen BK279.out 1; have hfz18_2 := blk_frozen BK279.out 2; have hfz18_3 := blk_frozen BK279.out 3))
     have n0_ : Aside0 (((((w16.setCell ⟨gb279, 0, none⟩ (.int .i64 t274)).setCell ⟨gb279, 1, none⟩ (.int .i64 t275)).setCell ⟨gb279, 2, none⟩ (.int .i64 t276)).setCell ⟨gb279, 3, none⟩ (.bool t277)).heap[gb266]? = some (.cells #[.int .i64 0, .int .i64 0, .int .i64 0, .bool false] 24 (0, 0))) := ⟨by (with_reducible repeat (first | refine blk_drewN ?_ _ | refine blk_drew ?_ | refine blk_alloc ?_ _)); refine blk_far ?_ NB266_279.out _; (with_reducible repeat (first | refine blk_drewN ?_ _ | refine blk_drew ?_ | refine blk_alloc ?_ _)); refine blk_far ?_ NB266_279.out _; (with_reducible repeat (first | refine blk_drewN ?_ _ | refine blk_drew ?_ | refine blk_alloc ?_ _)); refine blk_far ?_ NB266_279.out _; (with_reducible repeat (first | refine blk_drewN ?_ _ | refine blk_drew ?_ | refine blk_alloc ?_ _)); refine blk_far ?_ NB266_279.out _; (with_reducible repeat (first | refine blk_drewN ?_ _ | refine blk_drew ?_ | refine blk_alloc ?_ _)); exact BK266.out⟩
     have n1_ : Aside0 (((((w16.setCell ⟨gb279, 0, none⟩ (.int .i64 t274)).setCell ⟨gb279, 1, none⟩ (.int .i64 t275)).setCell ⟨gb279, 2, none⟩ (.int .i64 t276)).setCell ⟨gb279, 3, none⟩ (.bool t277)).heap[gb279]? = some (.cells #[.int .i64 t274, .int .i64 t275, .int .i64 t276, .bool t277] 24 (0, 0))) := ⟨by (with_reducible repeat (first | refine blk_drewN ?_ _ | refine blk_drew ?_ | refine blk_alloc ?_ _)); refine blk_put (cs := #[.int .i64 t274, .int .i64 t275, .int .i64 t276, .bool false]) ?_ 3 _ rfl; (with_reducible repeat (first | refine blk_drewN ?_ _ | refine blk_drew ?_ | refine blk_alloc ?_ _)); refine blk_put (cs := #[.int .i64 t274, .int .i64 t275, .int .i64 0, .bool false]) ?_ 2 _ rfl; (with_reducible repeat (first | refine blk_drewN ?_ _ | refine blk_drew ?_ | refine blk_alloc ?_ _)); refine blk_put (cs := #[.int .i64 t274, .int .i64 0, .int .i64 0, .bool false]) ?_ 1 _ rfl; (with_reducible repeat (first | refine blk_drewN ?_ _ | refine blk_drew ?_ | refine blk_alloc ?_ _)); refine blk_put (cs := #[.int .i64 0, .int .i64 0, .int .i64 0, .bool false]) ?_ 0 _ rfl; (with_reducible repeat (first | refine blk_drewN ?_ _ | refine blk_drew ?_ | refine blk_alloc ?_ _)); exact BK279.out⟩
     have n2_ : Aside0 (Below w.heap.size w ((((w16.setCell ⟨gb279, 0, none⟩ (.int .i64 t274)).setCell ⟨gb279, 1, none⟩ (.int .i64 t275)).setCell ⟨gb279, 2, none⟩ (.int .i64 t276)).setCell ⟨gb279, 3, none⟩ (.bool t277))) := ⟨blw⟩
     (try clear BK266)
     (try clear BK279)
     (try clear HB)
     generalize ((((w16.setCell ⟨gb279, 0, none⟩ (.int .i64 t274)).setCell ⟨gb279, 1, none⟩ (.int .i64 t275)).setCell ⟨gb279, 2, none⟩ (.int .i64 t276)).setCell ⟨gb279, 3, none⟩ (.bool t277)) = w19 at n0_ n1_ n2_ ⊢
     have BK266 := n0_
     have BK279 := n1_
     have HB := n2_
     clear n0_ n1_ n2_
     have n0_ := Aside0.mk (blk_drew BK266.out)
     have n1_ := Aside0.mk (blk_drew BK279.out)
     have n2_ := Aside0.mk (below_drew1 HB.out)
     clear BK266
     clear BK279
     clear HB
     have BK266 := n0_
     have BK279 := n1_
     have HB := n2_
     clear n0_ n1_ n2_
     have p280 : 0 ≤ (a1 : Int) := odt
     have q280 : a1 < (l0.length : Int) := odt
     obtain ⟨ad280, e280, hx280_0, hx280_1, hx280_2, hx280_3, hx280_4, hx280_5⟩ := at_T73 HR0.out a1 p280 q280
     have hw280_5 := hx280_5
     have hw280_4 := hx280_4
     have hw280_3 := hx280_3
     have hw280_2 := hx280_2
     have hw280_1 := hx280_1
     have hw280_0 := hx280_0
     obtain rfl : ad267 = ad280 := (by injection e280)
     replace hx280_0 := (HB.out.cell (World.block_lt_of_cell? w _ hx280_0)).trans hx280_0
     replace hx280_1 := (HB.out.cell (World.block_lt_of_cell? w _ hx280_1)).trans hx280_1
     replace hx280_2 := (HB.out.cell (World.block_lt_of_cell? w _ hx280_2)).trans hx280_2
     replace hx280_3 := (HB.out.cell (World.block_lt_of_cell? w _ hx280_3)).trans hx280_3
     replace hx280_4 := (HB.out.cell (World.block_lt_of_cell? w _ hx280_4)).trans hx280_4
     replace hx280_5 := (HB.out.cell (World.block_lt_of_cell? w _ hx280_5)).trans hx280_5
     replace p280 := eq_true p280
     replace q280 := eq_true q280
     refine start_ (n := 11) (S := fun w' => w'.cell? ⟨gb279, 0, none⟩ = some (.int .i64 t274) ∧ w'.cell? ⟨gb279, 1, none⟩ = some (.int .i64 t275) ∧ w'.cell? ⟨gb279, 2, none⟩ = some (.int .i64 t276) ∧ w'.cell? ⟨gb279, 3, none⟩ = some (.bool t277) ∧ w'.cell? (ad267.add ((a1).toNat * 6)) = some (.string ((rd_T73 l0 a1).f0)) ∧ w'.cell? ⟨(ad267.add ((a1).toNat * 6)).block, (ad267.add ((a1).toNat * 6)).off + 1, none⟩ = some (.int .i64 ((rd_T73 l0 a1).f1)) ∧ w'.cell? ⟨(ad267.add ((a1).toNat * 6)).block, (ad267.add ((a1).toNat * 6)).off + 2, none⟩ = some (.int .i64 ((rd_T73 l0 a1).f2)) ∧ w'.cell? ⟨(ad267.add ((a1).toNat * 6)).block, (ad267.add ((a1).toNat * 6)).off + 3, none⟩ = some (.int .i64 ((rd_T73 l0 a1).f3)) ∧ w'.cell? ⟨(ad267.add ((a1).toNat * 6)).block, (ad267.add ((a1).toNat * 6)).off + 4, none⟩ = some (.int .i64 ((rd_T73 l0 a1).f4)) ∧ w'.cell? ⟨(ad267.add ((a1).toNat * 6)).block, (ad267.add ((a1).toNat * 6)).off + 5, none⟩ = some (.bool ((rd_T73 l0 a1).f5))) (ds := []) #[false, false, false, false, false, false, false, false, false, false, false] (by kernel_rfl) rfl rfl ⟨(blk_cell BK279.out 0).trans rfl, (blk_cell BK279.out 1).trans rfl, (blk_cell BK279.out 2).trans rfl, (blk_cell BK279.out 3).trans rfl, ((HB.out.cell (World.block_lt_of_cell? w _ hw280_0)).trans hw280_0), ((HB.out.cell (World.block_lt_of_cell? w _ hw280_1)).trans hw280_1), ((HB.out.cell (World.block_lt_of_cell? w _ hw280_2)).trans hw280_2), ((HB.out.cell (World.block_lt_of_cell? w _ hw280_3)).trans hw280_3), ((HB.out.cell (World.block_lt_of_cell? w _ hw280_4)).trans hw280_4), ((HB.out.cell (World.block_lt_of_cell? w _ hw280_5)).trans hw280_5)⟩ (fun hHeld => ?_); refine with_tabW impl_spotOf.tab6 impl_spotOf.bits6 (fun HT_ HW_ => ?_)
     generalize w19.drew = w20 at BK266 BK279 HB hx280_0 hx280_1 hx280_2 hx280_3 hx280_4 hx280_5 hHeld ⊢
     refine pure_ (i := 1) (N := some 33) (v := ?_) (a' := ?_) #[false, true, false, false, false, false, false, false, false, false, false] rfl rfl (any_of HT_.out (by kernel_rfl)) (fun _ _ _ h => h) (Or.inl ⟨by rfl, ?_⟩) ?_ ?_
     rotate_left
     ·intro w'
      go_simp
      with_reducible rfl
     rotate_left
     ·simp only [Act.put, sp1, sp2, sp3, i64_w, i32_w]
      rfl
     refine pure_ (i := 2) (N := some 34) (v := ?_) (a' := ?_) #[false, true, true, false, false, false, false, false, false, false, false] rfl rfl (any_of HT_.out (by kernel_rfl)) (fun _ _ _ h => h) (Or.inl ⟨by rfl, ?_⟩) ?_ ?_
     rotate_left
     ·intro w'
      go_simp
      with_reducible rfl
     rotate_left
     ·simp only [Act.put, sp1, sp2, sp3, i64_w, i32_w]
      rfl
     refine pure_ (i := 3) (N := some 35) (v := ?_) (a' := ?_) #[false, true, true, true, false, false, false, false, false, false, false] rfl rfl (any_of HT_.out (by kernel_rfl)) (fun _ _ _ h => h) (Or.inl ⟨by rfl, ?_⟩) ?_ ?_
     rotate_left
     ·intro w'
      go_simp
      with_reducible rfl
     rotate_left
     ·simp only [Act.put, sp1, sp2, sp3, i64_w, i32_w]
      rfl
     refine take_ (i := 0) (N := some 32) (v := ?_) (a' := ?_) #[true, true, true, true, false, false, false, false, false, false, false] rfl rfl (take_ofW HT_.out HW_.out (by kernel_rfl)) (fun _ _ _ h => h) (Or.inl ⟨by rfl, ?_⟩) hHeld ?_ ?_
     rotate_left
     ·rintro w' ⟨s0, s1, s2, s3, s4, s5, s6, s7, s8, s9⟩
      go_simp
      with_reducible rfl
     rotate_left
     ·simp only [Act.put, sp1, sp2, sp3, i64_w, i32_w]
      rfl
     refine take_ (i := 4) (N := some 36) (v := ?_) (a' := ?_) #[true, true, true, true, true, false, false, false, false, false, false] rfl rfl (take_ofW HT_.out HW_.out (by kernel_rfl)) (fun _ _ _ h => h) (Or.inl ⟨by rfl, ?_⟩) hHeld ?_ ?_
     rotate_left
     ·rintro w' ⟨s0, s1, s2, s3, s4, s5, s6, s7, s8, s9⟩
      go_simp
      with_reducible rfl
     rotate_left
     ·simp only [Act.put, sp1, sp2, sp3, i64_w, i32_w]
      rfl
     refine one_ (i := 5) (N := some 37) #[true, true, true, true, true, true, false, false, false, false, false] rfl rfl (one_of HT_.out (by kernel_rfl)) (by decide) (fun K hK => ?_)
     refine goes_ Try.func59 (by kernel_rfl) rfl #[.agg #[.string ((rd_T73 l0 a1).f0), .int .i64 ((rd_T73 l0 a1).f1), .int .i64 ((rd_T73 l0 a1).f2), .int .i64 ((rd_T73 l0 a1).f3), .int .i64 ((rd_T73 l0 a1).f4), .bool ((rd_T73 l0 a1).f5)]] (by rfl) rfl rfl (by (try simp only [List.map_toArray, List.map_cons, List.map_nil]); first | done | rfl | (simp only [List.length_drop, List.length_take]; rfl)) ?_
     with_reducible refine (impl_Node_spot.calls ((rd_T73 l0 a1).f0) ((rd_T73 l0 a1).f1) ((rd_T73 l0 a1).f2) ((rd_T73 l0 a1).f3) ((rd_T73 l0 a1).f4) ((rd_T73 l0 a1).f5) t281 t282 t283 t284 _ A12.out).mono ?_
     rintro e w21 ⟨rfl, hb⟩
     refine ⟨_, rfl, ?_⟩
     have n0_ := Aside0.mk (blk_below (g := gb266) (o := .cells #[.int .i64 0, .int .i64 0, .int .i64 0, .bool false] 24 (0, 0)) bkw hb)
     have n1_ := Aside0.mk (blk_below (g := gb279) (o := .cells #[.int .i64 t274, .int .i64 t275, .int .i64 t276, .bool t277] 24 (0, 0)) bkw hb)
     have n2_ := Aside0.mk (below_step blw hb)
     clear BK266
     clear BK279
     clear HB
     have BK266 := n0_
     have BK279 := n1_
     have HB := n2_
     clear n0_ n1_ n2_
     (try clear hb)
     (try clear hb2)
     (try clear hk)
     (try clear hi)
     refine hK.out _ _ ⟨(blk_cell BK279.out 0).trans rfl, (blk_cell BK279.out 1).trans rfl, (blk_cell BK279.out 2).trans rfl, (blk_cell BK279.out 3).trans rfl, ((HB.out.cell (World.block_lt_of_cell? w _ hw280_0)).trans hw280_0), ((HB.out.cell (World.block_lt_of_cell? w _ hw280_1)).trans hw280_1), ((HB.out.cell (World.block_lt_of_cell? w _ hw280_2)).trans hw280_2), ((HB.out.cell (World.block_lt_of_cell? w _ hw280_3)).trans hw280_3), ((HB.out.cell (World.block_lt_of_cell? w _ hw280_4)).trans hw280_4), ((HB.out.cell (World.block_lt_of_cell? w _ hw280_5)).trans hw280_5)⟩ (fun hHeld => ?_)
     clear hK K
     refine norm_ (a' := ?_) ?_ ?_
     rotate_left
     ·show Act.put _ (some 37) _ = _
      simp only [Act.put, sp1, sp2, sp3, i64_w, i32_w]
      rfl
     refine one_ (i := 6) (N := some 38) #[true, true, true, true, true, true, true, false, false, false, false] rfl rfl (one_of HT_.out (by kernel_rfl)) (by decide) (fun K hK => ?_)
     refine goes_ Try.func15 (by kernel_rfl) rfl #[.agg #[.int .i64 t274, .int .i64 t275, .int .i64 t276, .bool t277], .agg #[.int .i64 t281, .int .i64 t282, .int .i64 t283, .bool t284]] (by rfl) rfl rfl (by (try simp only [List.map_toArray, List.map_cons, List.map_nil]); first | done | rfl | (simp only [List.length_drop, List.length_take]; rfl)) ?_
     with_reducible refine (impl_JoinSpots.calls k t274 t275 t276 t277 t281 t282 t283 t284 t285 t286 t287 t288 t289 _ A13.out).mono ?_
     rintro e w22 ⟨rfl, hb⟩
     refine ⟨_, rfl, ?_⟩
     have n0_ := Aside0.mk (blk_below (g := gb266) (o := .cells #[.int .i64 0, .int .i64 0, .int .i64 0, .bool false] 24 (0, 0)) bkw hb)
     have n1_ := Aside0.mk (blk_below (g := gb279) (o := .cells #[.int .i64 t274, .int .i64 t275, .int .i64 t276, .bool t277] 24 (0, 0)) bkw hb)
     have n2_ := Aside0.mk (below_step blw hb)
     clear BK266
     clear BK279
     clear HB
     have BK266 := n0_
     have BK279 := n1_
     have HB := n2_
     clear n0_ n1_ n2_
     (try clear hb)
     (try clear hb2)
     (try clear hk)
     (try clear hi)
     refine hK.out _ _ ⟨(blk_cell BK279.out 0).trans rfl, (blk_cell BK279.out 1).trans rfl, (blk_cell BK279.out 2).trans rfl, (blk_cell BK279.out 3).trans rfl, ((HB.out.cell (World.block_lt_of_cell? w _ hw280_0)).trans hw280_0), ((HB.out.cell (World.block_lt_of_cell? w _ hw280_1)).trans hw280_1), ((HB.out.cell (World.block_lt_of_cell? w _ hw280_2)).trans hw280_2), ((HB.out.cell (World.block_lt_of_cell? w _ hw280_3)).trans hw280_3), ((HB.out.cell (World.block_lt_of_cell? w _ hw280_4)).trans hw280_4), ((HB.out.cell (World.block_lt_of_cell? w _ hw280_5)).trans hw280_5)⟩ (fun hHeld => ?_)
     clear hK K
     refine norm_ (a' := ?_) ?_ ?_
     rotate_left
     ·show Act.put _ (some 38) _ = _
      simp only [Act.put, sp1, sp2, sp3, i64_w, i32_w]
      rfl
     refine pure_ (i := 7) (N := some 39) (v := ?_) (a' := ?_) #[true, true, true, true, true, true, true, true, false, false, false] rfl rfl (any_of HT_.out (by kernel_rfl)) (fun _ _ _ h => h) (Or.inl ⟨by rfl, ?_⟩) ?_ ?_
     rotate_left
     ·intro w'
      go_simp
      with_reducible rfl
     rotate_left
     ·simp only [Act.put, sp1, sp2, sp3, i64_w, i32_w]
      rfl
     refine pure_ (i := 8) (N := some 40) (v := ?_) (a' := ?_) #[true, true, true, true, true, true, true, true, true, false, false] rfl rfl (any_of HT_.out (by kernel_rfl)) (fun _ _ _ h => h) (Or.inl ⟨by rfl, ?_⟩) ?_ ?_
     rotate_left
     ·intro w'
      go_simp
      with_reducible rfl
     rotate_left
     ·simp only [Act.put, sp1, sp2, sp3, i64_w, i32_w]
      rfl
     refine one_ (i := 9) (N := none) #[true, true, true, true, true, true, true, true, true, true, false] rfl rfl (one_of HT_.out (by kernel_rfl)) (by decide) (fun K hK => ?_)
     have hs23 : w22.cell? ⟨gb266, 0, none⟩ = some (.int .i64 0) := (blk_cell BK266.out 0).trans rfl
     have hfs23 := blk_frozen BK266.out 0
     have hns23_1 := NB279_266.out
     have hms23_1 := NB266_279.out
     have hs24 : w22.cell? ⟨gb266, 1, none⟩ = some (.int .i64 0) := (blk_cell BK266.out 1).trans rfl
     have hfs24 := blk_frozen BK266.out 1
     have hns24_1 := NB279_266.out
     have hms24_1 := NB266_279.out
     have hs25 : w22.cell? ⟨gb266, 2, none⟩ = some (.int .i64 0) := (blk_cell BK266.out 2).trans rfl
     have hfs25 := blk_frozen BK266.out 2
     have hns25_1 := NB279_266.out
     have hms25_1 := NB266_279.out
     have hs26 : w22.cell? ⟨gb266, 3, none⟩ = some (.bool false) := (blk_cell BK266.out 3).trans rfl
     have hfs26 := blk_frozen BK266.out 3
     have hns26_1 := NB279_266.out
     have hms26_1 := NB266_279.out
     refine skip_ (w1 := ?_) (by rfl) rfl ?_ ?_
     rotate_left
     ·go_simp
      rfl
     refine hK.out _ _ ⟨((cell_far (p := ⟨gb266, _, none⟩) NB279_266.out _).trans (((cell_far (p := ⟨gb266, _, none⟩) NB279_266.out _).trans (((cell_far (p := ⟨gb266, _, none⟩) NB279_266.out _).trans (((cell_far (p := ⟨gb266, _, none⟩) NB279_266.out _).trans (hHeld.1)))))))), ((cell_far (p := ⟨gb266, _, none⟩) NB279_266.out _).trans (((cell_far (p := ⟨gb266, _, none⟩) NB279_266.out _).trans (((cell_far (p := ⟨gb266, _, none⟩) NB279_266.out _).trans (((cell_far (p := ⟨gb266, _, none⟩) NB279_266.out _).trans (hHeld.2.1)))))))), ((cell_far (p := ⟨gb266, _, none⟩) NB279_266.out _).trans (((cell_far (p := ⟨gb266, _, none⟩) NB279_266.out _).trans (((cell_far (p := ⟨gb266, _, none⟩) NB279_266.out _).trans (((cell_far (p := ⟨gb266, _, none⟩) NB279_266.out _).trans (hHeld.2.2.1)))))))), ((cell_far (p := ⟨gb266, _, none⟩) NB279_266.out _).trans (((cell_far (p := ⟨gb266, _, none⟩) NB279_266.out _).trans (((cell_far (p := ⟨gb266, _, none⟩) NB279_266.out _).trans (((cell_far (p := ⟨gb266, _, none⟩) NB279_266.out _).trans (hHeld.2.2.2.1)))))))), ((cell_far (p := ⟨gb266, _, none⟩) (by first | exact Nat.ne_of_lt (Nat.lt_of_lt_of_le (by have := World.block_lt_of_cell? _ _ hw280_0; first | rwa [add_block] at this | exact this) GW266.out) | (rw [add_block]; exact Nat.ne_of_lt (Nat.lt_of_lt_of_le (by have := World.block_lt_of_cell? _ _ hw280_0; first | rwa [add_block] at this | exact this) GW266.out)) | (show (Addr.add _ _).block ≠ _; rw [add_block]; exact Nat.ne_of_lt (Nat.lt_of_lt_of_le (by have := World.block_lt_of_cell? _ _ hw280_0; first | rwa [add_block] at this | exact this) GW266.out)) | (dsimp only; exact Nat.ne_of_lt (Nat.lt_of_lt_of_le (by have := World.block_lt_of_cell? _ _ hw280_0; first | rwa [add_block] at this | exact this) GW266.out))) _).trans (((cell_far (p := ⟨gb266, _, none⟩) (by first | exact Nat.ne_of_lt (Nat.lt_of_lt_of_le (by have := World.block_lt_of_cell? _ _ hw280_0; first | rwa [add_block] at this | exact this) GW266.out) | (rw [add_block]; exact Nat.ne_of_lt (Nat.lt_of_lt_of_le (by have := World.block_lt_of_cell? _ _ hw280_0; first | rwa [add_block] at this | exact this) GW266.out)) | (show (Addr.add _ _).block ≠ _; rw [add_block]; exact Nat.ne_of_lt (Nat.lt_of_lt_of_le (by have := World.block_lt_of_cell? _ _ hw280_0; first | rwa [add_block] at this | exact this) GW266.out)) | (dsimp only; exact Nat.ne_of_lt (Nat.lt_of_lt_of_le (by have := World.block_lt_of_cell? _ _ hw280_0; first | rwa [add_block] at this | exact this) GW266.out))) _).trans (((cell_far (p := ⟨gb266, _, none⟩) (by first | exact Nat.ne_of_lt (Nat.lt_of_lt_of_le (by have := World.block_lt_of_cell? _ _ hw280_0; first | rwa [add_block] at this | exact this) GW266.out) | (rw [add_block]; exact Nat.ne_of_lt (Nat.lt_of_lt_of_le (by have := World.block_lt_of_cell? _ _ hw280_0; first | rwa [add_block] at this | exact this) GW266.out)) | (show (Addr.add _ _).block ≠ _; rw [add_block]; exact Nat.ne_of_lt (Nat.lt_of_lt_of_le (by have := World.block_lt_of_cell? _ _ hw280_0; first | rwa [add_block] at this | exact this) GW266.out)) | (dsimp only; exact Nat.ne_of_lt (Nat.lt_of_lt_of_le (by have := World.block_lt_of_cell? _ _ hw280_0; first | rwa [add_block] at this | exact this) GW266.out))) _).trans (((cell_far (p := ⟨gb266, _, none⟩) (by first | exact Nat.ne_of_lt (Nat.lt_of_lt_of_le (by have := World.block_lt_of_cell? _ _ hw280_0; first | rwa [add_block] at this | exact this) GW266.out) | (rw [add_block]; exact Nat.ne_of_lt (Nat.lt_of_lt_of_le (by have := World.block_lt_of_cell? _ _ hw280_0; first | rwa [add_block] at this | exact this) GW266.out)) | (show (Addr.add _ _).block ≠ _; rw [add_block]; exact Nat.ne_of_lt (Nat.lt_of_lt_of_le (by have := World.block_lt_of_cell? _ _ hw280_0; first | rwa [add_block] at this | exact this) GW266.out)) | (dsimp only; exact Nat.ne_of_lt (Nat.lt_of_lt_of_le (by have := World.block_lt_of_cell? _ _ hw280_0; first | rwa [add_block] at this | exact this) GW266.out))) _).trans (hHeld.2.2.2.2.1)))))))), ((cell_far (p := ⟨gb266, _, none⟩) (by first | exact Nat.ne_of_lt (Nat.lt_of_lt_of_le (by have := World.block_lt_of_cell? _ _ hw280_1; first | rwa [add_block] at this | exact this) GW266.out) | (rw [add_block]; exact Nat.ne_of_lt (Nat.lt_of_lt_of_le (by have := World.block_lt_of_cell? _ _ hw280_1; first | rwa [add_block] at this | exact this) GW266.out)) | (show (Addr.add _ _).block ≠ _; rw [add_block]; exact Nat.ne_of_lt (Nat.lt_of_lt_of_le (by have := World.block_lt_of_cell? _ _ hw280_1; first | rwa [add_block] at this | exact this) GW266.out)) | (dsimp only; exact Nat.ne_of_lt (Nat.lt_of_lt_of_le (by have := World.block_lt_of_cell? _ _ hw280_1; first | rwa [add_block] at this | exact this) GW266.out))) _).trans (((cell_far (p := ⟨gb266, _, none⟩) (by first | exact Nat.ne_of_lt (Nat.lt_of_lt_of_le (by have := World.block_lt_of_cell? _ _ hw280_1; first | rwa [add_block] at this | exact this) GW266.out) | (rw [add_block]; exact Nat.ne_of_lt (Nat.lt_of_lt_of_le (by have := World.block_lt_of_cell? _ _ hw280_1; first | rwa [add_block] at this | exact this) GW266.out)) | (show (Addr.add _ _).block ≠ _; rw [add_block]; exact Nat.ne_of_lt (Nat.lt_of_lt_of_le (by have := World.block_lt_of_cell? _ _ hw280_1; first | rwa [add_block] at this | exact this) GW266.out)) | (dsimp only; exact Nat.ne_of_lt (Nat.lt_of_lt_of_le (by have := World.block_lt_of_cell? _ _ hw280_1; first | rwa [add_block] at this | exact this) GW266.out))) _).trans (((cell_far (p := ⟨gb266, _, none⟩) (by first | exact Nat.ne_of_lt (Nat.lt_of_lt_of_le (by have := World.block_lt_of_cell? _ _ hw280_1; first | rwa [add_block] at this | exact this) GW266.out) | (rw [add_block]; exact Nat.ne_of_lt (Nat.lt_of_lt_of_le (by have := World.block_lt_of_cell? _ _ hw280_1; first | rwa [add_block] at this | exact this) GW266.out)) | (show (Addr.add _ _).block ≠ _; rw [add_block]; exact Nat.ne_of_lt (Nat.lt_of_lt_of_le (by have := World.block_lt_of_cell? _ _ hw280_1; first | rwa [add_block] at this | exact this) GW266.out)) | (dsimp only; exact Nat.ne_of_lt (Nat.lt_of_lt_of_le (by have := World.block_lt_of_cell? _ _ hw280_1; first | rwa [add_block] at this | exact this) GW266.out))) _).trans (((cell_far (p := ⟨gb266, _, none⟩) (by first | exact Nat.ne_of_lt (Nat.lt_of_lt_of_le (by have := World.block_lt_of_cell? _ _ hw280_1; first | rwa [add_block] at this | exact this) GW266.out) | (rw [add_block]; exact Nat.ne_of_lt (Nat.lt_of_lt_of_le (by have := World.block_lt_of_cell? _ _ hw280_1; first | rwa [add_block] at this | exact this) GW266.out)) | (show (Addr.add _ _).block ≠ _; rw [add_block]; exact Nat.ne_of_lt (Nat.lt_of_lt_of_le (by have := World.block_lt_of_cell? _ _ hw280_1; first | rwa [add_block] at this | exact this) GW266.out)) | (dsimp only; exact Nat.ne_of_lt (Nat.lt_of_lt_of_le (by have := World.block_lt_of_cell? _ _ hw280_1; first | rwa [add_block] at this | exact this) GW266.out))) _).trans (hHeld.2.2.2.2.2.1)))))))), ((cell_far (p := ⟨gb266, _, none⟩) (by first | exact Nat.ne_of_lt (Nat.lt_of_lt_of_le (by have := World.block_lt_of_cell? _ _ hw280_2; first | rwa [add_block] at this | exact this) GW266.out) | (rw [add_block]; exact Nat.ne_of_lt (Nat.lt_of_lt_of_le (by have := World.block_lt_of_cell? _ _ hw280_2; first | rwa [add_block] at this | exact this) GW266.out)) | (show (Addr.add _ _).block ≠ _; rw [add_block]; exact Nat.ne_of_lt (Nat.lt_of_lt_of_le (by have := World.block_lt_of_cell? _ _ hw280_2; first | rwa [add_block] at this | exact this) GW266.out)) | (dsimp only; exact Nat.ne_of_lt (Nat.lt_of_lt_of_le (by have := World.block_lt_of_cell? _ _ hw280_2; first | rwa [add_block] at this | exact this) GW266.out))) _).trans (((cell_far (p := ⟨gb266, _, none⟩) (by first | exact Nat.ne_of_lt (Nat.lt_of_lt_of_le (by have := World.block_lt_of_cell? _ _ hw280_2; first | rwa [add_block] at this | exact this) GW266.out) | (rw [add_block]; exact Nat.ne_of_lt (Nat.lt_of_lt_of_le (by have := World.block_lt_of_cell? _ _ hw280_2; first | rwa [add_block] at this | exact this) GW266.out)) | (show (Addr.add _ _).block ≠ _; rw [add_block]; exact Nat.ne_of_lt (Nat.lt_of_lt_of_le (by have := World.block_lt_of_cell? _ _ hw280_2; first | rwa [add_block] at this | exact this) GW266.out)) | (dsimp only; exact Nat.ne_of_lt (Nat.lt_of_lt_of_le (by have := World.block_lt_of_cell? _ _ hw280_2; first | rwa [add_block] at this | exact this) GW266.out))) _).trans (((cell_far (p := ⟨gb266, _, none⟩) (by first | exact Nat.ne_of_lt (Nat.lt_of_lt_of_le (by have := World.block_lt_of_cell? _ _ hw280_2; first | rwa [add_block] at this | exact this) GW266.out) | (rw [add_block]; exact Nat.ne_of_lt (Nat.lt_of_lt_of_le (by have := World.block_lt_of_cell? _ _ hw280_2; first | rwa [add_block] at this | exact this) GW266.out)) | (show (Addr.add _ _).block ≠ _; rw [add_block]; exact Nat.ne_of_lt (Nat.lt_of_lt_of_le (by have := World.block_lt_of_cell? _ _ hw280_2; first | rwa [add_block] at this | exact this) GW266.out)) | (dsimp only; exact Nat.ne_of_lt (Nat.lt_of_lt_of_le (by have := World.block_lt_of_cell? _ _ hw280_2; first | rwa [add_block] at this | exact this) GW266.out))) _).trans (((cell_far (p := ⟨gb266, _, none⟩) (by first | exact Nat.ne_of_lt (Nat.lt_of_lt_of_le (by have := World.block_lt_of_cell? _ _ hw280_2; first | rwa [add_block] at this | exact this) GW266.out) | (rw [add_block]; exact Nat.ne_of_lt (Nat.lt_of_lt_of_le (by have := World.block_lt_of_cell? _ _ hw280_2; first | rwa [add_block] at this | exact this) GW266.out)) | (show (Addr.add _ _).block ≠ _; rw [add_block]; exact Nat.ne_of_lt (Nat.lt_of_lt_of_le (by have := World.block_lt_of_cell? _ _ hw280_2; first | rwa [add_block] at this | exact this) GW266.out)) | (dsimp only; exact Nat.ne_of_lt (Nat.lt_of_lt_of_le (by have := World.block_lt_of_cell? _ _ hw280_2; first | rwa [add_block] at this | exact this) GW266.out))) _).trans (hHeld.2.2.2.2.2.2.1)))))))), ((cell_far (p := ⟨gb266, _, none⟩) (by first | exact Nat.ne_of_lt (Nat.lt_of_lt_of_le (by have := World.block_lt_of_cell? _ _ hw280_3; first | rwa [add_block] at this | exact this) GW266.out) | (rw [add_block]; exact Nat.ne_of_lt (Nat.lt_of_lt_of_le (by have := World.block_lt_of_cell? _ _ hw280_3; first | rwa [add_block] at this | exact this) GW266.out)) | (show (Addr.add _ _).block ≠ _; rw [add_block]; exact Nat.ne_of_lt (Nat.lt_of_lt_of_le (by have := World.block_lt_of_cell? _ _ hw280_3; first | rwa [add_block] at this | exact this) GW266.out)) | (dsimp only; exact Nat.ne_of_lt (Nat.lt_of_lt_of_le (by have := World.block_lt_of_cell? _ _ hw280_3; first | rwa [add_block] at this | exact this) GW266.out))) _).trans (((cell_far (p := ⟨gb266, _, none⟩) (by first | exact Nat.ne_of_lt (Nat.lt_of_lt_of_le (by have := World.block_lt_of_cell? _ _ hw280_3; first | rwa [add_block] at this | exact this) GW266.out) | (rw [add_block]; exact Nat.ne_of_lt (Nat.lt_of_lt_of_le (by have := World.block_lt_of_cell? _ _ hw280_3; first | rwa [add_block] at this | exact this) GW266.out)) | (show (Addr.add _ _).block ≠ _; rw [add_block]; exact Nat.ne_of_lt (Nat.lt_of_lt_of_le (by have := World.block_lt_of_cell? _ _ hw280_3; first | rwa [add_block] at this | exact this) GW266.out)) | (dsimp only; exact Nat.ne_of_lt (Nat.lt_of_lt_of_le (by have := World.block_lt_of_cell? _ _ hw280_3; first | rwa [add_block] at this | exact this) GW266.out))) _).trans (((cell_far (p := ⟨gb266, _, none⟩) (by first | exact Nat.ne_of_lt (Nat.lt_of_lt_of_le (by have := World.block_lt_of_cell? _ _ hw280_3; first | rwa [add_block] at this | exact this) GW266.out) | (rw [add_block]; exact Nat.ne_of_lt (Nat.lt_of_lt_of_le (by have := World.block_lt_of_cell? _ _ hw280_3; first | rwa [add_block] at this | exact this) GW266.out)) | (show (Addr.add _ _).block ≠ _; rw [add_block]; exact Nat.ne_of_lt (Nat.lt_of_lt_of_le (by have := World.block_lt_of_cell? _ _ hw280_3; first | rwa [add_block] at this | exact this) GW266.out)) | (dsimp only; exact Nat.ne_of_lt (Nat.lt_of_lt_of_le (by have := World.block_lt_of_cell? _ _ hw280_3; first | rwa [add_block] at this | exact this) GW266.out))) _).trans (((cell_far (p := ⟨gb266, _, none⟩) (by first | exact Nat.ne_of_lt (Nat.lt_of_lt_of_le (by have := World.block_lt_of_cell? _ _ hw280_3; first | rwa [add_block] at this | exact this) GW266.out) | (rw [add_block]; exact Nat.ne_of_lt (Nat.lt_of_lt_of_le (by have := World.block_lt_of_cell? _ _ hw280_3; first | rwa [add_block] at this | exact this) GW266.out)) | (show (Addr.add _ _).block ≠ _; rw [add_block]; exact Nat.ne_of_lt (Nat.lt_of_lt_of_le (by have := World.block_lt_of_cell? _ _ hw280_3; first | rwa [add_block] at this | exact this) GW266.out)) | (dsimp only; exact Nat.ne_of_lt (Nat.lt_of_lt_of_le (by have := World.block_lt_of_cell? _ _ hw280_3; first | rwa [add_block] at this | exact this) GW266.out))) _).trans (hHeld.2.2.2.2.2.2.2.1)))))))), ((cell_far (p := ⟨gb266, _, none⟩) (by first | exact Nat.ne_of_lt (Nat.lt_of_lt_of_le (by have := World.block_lt_of_cell? _ _ hw280_4; first | rwa [add_block] at this | exact this) GW266.out) | (rw [add_block]; exact Nat.ne_of_lt (Nat.lt_of_lt_of_le (by have := World.block_lt_of_cell? _ _ hw280_4; first | rwa [add_block] at this | exact this) GW266.out)) | (show (Addr.add _ _).block ≠ _; rw [add_block]; exact Nat.ne_of_lt (Nat.lt_of_lt_of_le (by have := World.block_lt_of_cell? _ _ hw280_4; first | rwa [add_block] at this | exact this) GW266.out)) | (dsimp only; exact Nat.ne_of_lt (Nat.lt_of_lt_of_le (by have := World.block_lt_of_cell? _ _ hw280_4; first | rwa [add_block] at this | exact this) GW266.out))) _).trans (((cell_far (p := ⟨gb266, _, none⟩) (by first | exact Nat.ne_of_lt (Nat.lt_of_lt_of_le (by have := World.block_lt_of_cell? _ _ hw280_4; first | rwa [add_block] at this | exact this) GW266.out) | (rw [add_block]; exact Nat.ne_of_lt (Nat.lt_of_lt_of_le (by have := World.block_lt_of_cell? _ _ hw280_4; first | rwa [add_block] at this | exact this) GW266.out)) | (show (Addr.add _ _).block ≠ _; rw [add_block]; exact Nat.ne_of_lt (Nat.lt_of_lt_of_le (by have := World.block_lt_of_cell? _ _ hw280_4; first | rwa [add_block] at this | exact this) GW266.out)) | (dsimp only; exact Nat.ne_of_lt (Nat.lt_of_lt_of_le (by have := World.block_lt_of_cell? _ _ hw280_4; first | rwa [add_block] at this | exact this) GW266.out))) _).trans (((cell_far (p := ⟨gb266, _, none⟩) (by first | exact Nat.ne_of_lt (Nat.lt_of_lt_of_le (by have := World.block_lt_of_cell? _ _ hw280_4; first | rwa [add_block] at this | exact this) GW266.out) | (rw [add_block]; exact Nat.ne_of_lt (Nat.lt_of_lt_of_le (by have := World.block_lt_of_cell? _ _ hw280_4; first | rwa [add_block] at this | exact this) GW266.out)) | (show (Addr.add _ _).block ≠ _; rw [add_block]; exact Nat.ne_of_lt (Nat.lt_of_lt_of_le (by have := World.block_lt_of_cell? _ _ hw280_4; first | rwa [add_block] at this | exact this) GW266.out)) | (dsimp only; exact Nat.ne_of_lt (Nat.lt_of_lt_of_le (by have := World.block_lt_of_cell? _ _ hw280_4; first | rwa [add_block] at this | exact this) GW266.out))) _).trans (((cell_far (p := ⟨gb266, _, none⟩) (by first | exact Nat.ne_of_lt (Nat.lt_of_lt_of_le (by have := World.block_lt_of_cell? _ _ hw280_4; first | rwa [add_block] at this | exact this) GW266.out) | (rw [add_block]; exact Nat.ne_of_lt (Nat.lt_of_lt_of_le (by have := World.block_lt_of_cell? _ _ hw280_4; first | rwa [add_block] at this | exact this) GW266.out)) | (show (Addr.add _ _).block ≠ _; rw [add_block]; exact Nat.ne_of_lt (Nat.lt_of_lt_of_le (by have := World.block_lt_of_cell? _ _ hw280_4; first | rwa [add_block] at this | exact this) GW266.out)) | (dsimp only; exact Nat.ne_of_lt (Nat.lt_of_lt_of_le (by have := World.block_lt_of_cell? _ _ hw280_4; first | rwa [add_block] at this | exact this) GW266.out))) _).trans (hHeld.2.2.2.2.2.2.2.2.1)))))))), ((cell_far (p := ⟨gb266, _, none⟩) (by first | exact Nat.ne_of_lt (Nat.lt_of_lt_of_le (by have := World.block_lt_of_cell? _ _ hw280_5; first | rwa [add_block] at this | exact this) GW266.out) | (rw [add_block]; exact Nat.ne_of_lt (Nat.lt_of_lt_of_le (by have := World.block_lt_of_cell? _ _ hw280_5; first | rwa [add_block] at this | exact this) GW266.out)) | (show (Addr.add _ _).block ≠ _; rw [add_block]; exact Nat.ne_of_lt (Nat.lt_of_lt_of_le (by have := World.block_lt_of_cell? _ _ hw280_5; first | rwa [add_block] at this | exact this) GW266.out)) | (dsimp only; exact Nat.ne_of_lt (Nat.lt_of_lt_of_le (by have := World.block_lt_of_cell? _ _ hw280_5; first | rwa [add_block] at this | exact this) GW266.out))) _).trans (((cell_far (p := ⟨gb266, _, none⟩) (by first | exact Nat.ne_of_lt (Nat.lt_of_lt_of_le (by have := World.block_lt_of_cell? _ _ hw280_5; first | rwa [add_block] at this | exact this) GW266.out) | (rw [add_block]; exact Nat.ne_of_lt (Nat.lt_of_lt_of_le (by have := World.block_lt_of_cell? _ _ hw280_5; first | rwa [add_block] at this | exact this) GW266.out)) | (show (Addr.add _ _).block ≠ _; rw [add_block]; exact Nat.ne_of_lt (Nat.lt_of_lt_of_le (by have := World.block_lt_of_cell? _ _ hw280_5; first | rwa [add_block] at this | exact this) GW266.out)) | (dsimp only; exact Nat.ne_of_lt (Nat.lt_of_lt_of_le (by have := World.block_lt_of_cell? _ _ hw280_5; first | rwa [add_block] at this | exact this) GW266.out))) _).trans (((cell_far (p := ⟨gb266, _, none⟩) (by first | exact Nat.ne_of_lt (Nat.lt_of_lt_of_le (by have := World.block_lt_of_cell? _ _ hw280_5; first | rwa [add_block] at this | exact this) GW266.out) | (rw [add_block]; exact Nat.ne_of_lt (Nat.lt_of_lt_of_le (by have := World.block_lt_of_cell? _ _ hw280_5; first | rwa [add_block] at this | exact this) GW266.out)) | (show (Addr.add _ _).block ≠ _; rw [add_block]; exact Nat.ne_of_lt (Nat.lt_of_lt_of_le (by have := World.block_lt_of_cell? _ _ hw280_5; first | rwa [add_block] at this | exact this) GW266.out)) | (dsimp only; exact Nat.ne_of_lt (Nat.lt_of_lt_of_le (by have := World.block_lt_of_cell? _ _ hw280_5; first | rwa [add_block] at this | exact this) GW266.out))) _).trans (((cell_far (p := ⟨gb266, _, none⟩) (by first | exact Nat.ne_of_lt (Nat.lt_of_lt_of_le (by have := World.block_lt_of_cell? _ _ hw280_5; first | rwa [add_block] at this | exact this) GW266.out) | (rw [add_block]; exact Nat.ne_of_lt (Nat.lt_of_lt_of_le (by have := World.block_lt_of_cell? _ _ hw280_5; first | rwa [add_block] at this | exact this) GW266.out)) | (show (Addr.add _ _).block ≠ _; rw [add_block]; exact Nat.ne_of_lt (Nat.lt_of_lt_of_le (by have := World.block_lt_of_cell? _ _ hw280_5; first | rwa [add_block] at this | exact this) GW266.out)) | (dsimp only; exact Nat.ne_of_lt (Nat.lt_of_lt_of_le (by have := World.block_lt_of_cell? _ _ hw280_5; first | rwa [add_block] at this | exact this) GW266.out))) _).trans (hHeld.2.2.2.2.2.2.2.2.2))))))))⟩ (fun hHeld => ?_)
     clear hK K
     refine pure_ (i := 10) (N := some 5) (v := ?_) (a' := ?_) #[true, true, true, true, true, true, true, true, true, true, true] rfl rfl (any_of HT_.out (by kernel_rfl)) (fun _ _ _ h => h) (Or.inl ⟨by rfl, ?_⟩) ?_ ?_
     rotate_left
     ·intro w'
      go_simp
      with_reducible rfl
     rotate_left
     ·simp only [Act.put, sp1, sp2, sp3, i64_w, i32_w]
      rfl
     refine done_ (done_of HT_.out (by kernel_rfl)) ?_
     try go_wp2
     refine bodyPost_ret (results_ct rfl _ _ gb266 24 #[.int .i64 t285, .int .i64 t286, .int .i64 t287, .bool t288] (0, 0) _ rfl (by (with_reducible repeat (first | refine blk_drewN ?_ _ | refine blk_drew ?_ | refine blk_alloc ?_ _)); refine blk_put (cs := #[.int .i64 t285, .int .i64 t286, .int .i64 t287, .bool false]) ?_ 3 _ rfl; (with_reducible repeat (first | refine blk_drewN ?_ _ | refine blk_drew ?_ | refine blk_alloc ?_ _)); refine blk_put (cs := #[.int .i64 t285, .int .i64 t286, .int .i64 0, .bool false]) ?_ 2 _ rfl; (with_reducible repeat (first | refine blk_drewN ?_ _ | refine blk_drew ?_ | refine blk_alloc ?_ _)); refine blk_put (cs := #[.int .i64 t285, .int .i64 0, .int .i64 0, .bool false]) ?_ 1 _ rfl; (with_reducible repeat (first | refine blk_drewN ?_ _ | refine blk_drew ?_ | refine blk_alloc ?_ _)); refine blk_put (cs := #[.int .i64 0, .int .i64 0, .int .i64 0, .bool false]) ?_ 0 _ rfl; (with_reducible repeat (first | refine blk_drewN ?_ _ | refine blk_drew ?_ | refine blk_alloc ?_ _)); exact BK266.out) Try.underlying24 rfl (by kernel_rfl)) rfl ?_
     exact ⟨by first | rfl | (simp [errW_none, errW_some] <;> rfl) | (simp [*, errW_none, errW_some] <;> rfl), blw⟩
    ·replace c11 := Bool.eq_false_iff.mpr c11
     subst c11
     have H1 : (some (0, 0, 0, false, false)) = some (r1, r2, r3, r4, r5) := by rw [if_neg (show ¬ (false = true) by decide)] at H; exact H
     clear H
     have H := H1
     clear H1
     simp only [Option.some.injEq, Prod.mk.injEq] at H
     obtain ⟨rfl, rfl, rfl, rfl, rfl⟩ := H
     go_enter Try.func68, Try.ntmps68
     go_wp2_with (first | ((with_reducible refine gate_dst (N := 4) rfl ?_); refine box_event ?hg (N := 4) ?hd (cs := #[.int .i64 0, .int .i64 0, .int .i64 0, .bool false]) (t := 24) ?hr ?_; (case hd => rfl); (case hg => rfl); (case hr => first | (go_simp; done) | (go_simp; rfl)); intro gb266 hg w27 hbox hb; have n0_ := Aside0.mk (below_step blw hb); have n1_ := Aside0.mk (hbox); have n2_ := Aside0.mk ((by rw [hg]; exact (below_size blw) : w.heap.size ≤ gb266)); have n3_ := Aside0.mk ((by rw [hg]; exact (below_size blw) : w.heap.size ≤ gb266)); clear HB; have HB := n0_; have BK266 := n1_; have GW266 := n2_; have GE266 := n3_; clear n0_ n1_ n2_ n3_; clear hb hbox hg; have p267 : 0 ≤ (a1 : Int) := odt; have q267 : a1 < (l0.length : Int) := odt; obtain ⟨ad267, e267, hx267_0, hx267_1, hx267_2, hx267_3, hx267_4, hx267_5⟩ := at_T73 HR0.out a1 p267 q267; cases e267; replace hx267_0 := (HB.out.cell (World.block_lt_of_cell? w _ hx267_0)).trans hx267_0; replace hx267_1 := (HB.out.cell (World.block_lt_of_cell? w _ hx267_1)).trans hx267_1; replace hx267_2 := (HB.out.cell (World.block_lt_of_cell? w _ hx267_2)).trans hx267_2; replace hx267_3 := (HB.out.cell (World.block_lt_of_cell? w _ hx267_3)).trans hx267_3; replace hx267_4 := (HB.out.cell (World.block_lt_of_cell? w _ hx267_4)).trans hx267_4; replace hx267_5 := (HB.out.cell (World.block_lt_of_cell? w _ hx267_5)).trans hx267_5; replace p267 := eq_true p267; replace q267 := eq_true q267; have p273 : 0 ≤ (a1 : Int) := odt; have q273 : a1 < (l0.length : Int) := odt; obtain ⟨ad273, e273, hx273_0, hx273_1, hx273_2, hx273_3, hx273_4, hx273_5⟩ := at_T73 HR0.out a1 p273 q273; obtain rfl : ad267 = ad273 := (by injection e273); replace hx273_0 := (HB.out.cell (World.block_lt_of_cell? w _ hx273_0)).trans hx273_0; replace hx273_1 := (HB.out.cell (World.block_lt_of_cell? w _ hx273_1)).trans hx273_1; replace hx273_2 := (HB.out.cell (World.block_lt_of_cell? w _ hx273_2)).trans hx273_2; replace hx273_3 := (HB.out.cell (World.block_lt_of_cell? w _ hx273_3)).trans hx273_3; replace hx273_4 := (HB.out.cell (World.block_lt_of_cell? w _ hx273_4)).trans hx273_4; replace hx273_5 := (HB.out.cell (World.block_lt_of_cell? w _ hx273_5)).trans hx273_5; replace p273 := eq_true p273; replace q273 := eq_true q273) | ((with_reducible refine gate_callee (f := 68) rfl ?_); refine goesL_ (some 26) rfl rfl Try.func68 (by kernel_rfl) rfl #[.slice (some ad267) l0.length c0, .int .i64 ((rd_T73 l0 a1).f1)] rfl (by (try simp only [List.map_toArray, List.map_cons, List.map_nil]); first | done | rfl | (simp only [List.length_drop, List.length_take]; rfl)) ?_; (with_reducible refine (ih k (by omega) _ _ l0 ((rd_T73 l0 a1).f1) t274 t275 t276 t277 false _ ?side1 ?side2 A10.out).mono ?_); (case side1 => repeat (first | exact (Kd.C_below HR0.out HB.out) | (with_reducible refine Kd.C_alloc ?_ _) | (with_reducible refine Kd.C_drewN ?_ _) | (with_reducible refine Kd.C_drew ?_))); (case side2 => exact HC0.out); rintro e w28 ⟨rfl, hb⟩; refine ⟨_, rfl, ?_⟩; have n0_ := Aside0.mk (blk_below (g := gb266) (o := .cells #[.int .i64 0, .int .i64 0, .int .i64 0, .bool false] 24 (0, 0)) bkw hb); have n1_ := Aside0.mk (below_step blw hb); clear BK266; clear HB; have BK266 := n0_; have HB := n1_; clear n0_ n1_; (try clear hb); (try clear hb2); (try clear hk); (try clear hi)) | ((with_reducible refine gate_dst (N := 6) rfl ?_); refine box_event ?hg (N := 6) ?hd (cs := #[.int .i64 0, .int .i64 0, .int .i64 0, .bool false]) (t := 24) ?hr ?_; (case hd => rfl); (case hg => rfl); (case hr => first | (go_simp; done) | (go_simp; rfl)); intro gb279 hg w29 hbox hb; have n0_ := Aside0.mk (blk_below (g := gb266) (o := .cells #[.int .i64 0, .int .i64 0, .int .i64 0, .bool false] 24 (0, 0)) bkw hb); have n1_ := Aside0.mk (below_step blw hb); have n2_ := Aside0.mk (hbox); have n3_ := Aside0.mk ((by rw [hg]; exact (below_size blw) : w.heap.size ≤ gb279)); have n4_ := Aside0.mk ((by rw [hg]; exact (below_size blw) : w.heap.size ≤ gb279)); have n5_ := Aside0.mk ((by rw [hg]; exact Nat.ne_of_lt (blk_lt (g := gb266) (o := .cells #[.int .i64 0, .int .i64 0, .int .i64 0, .bool false] 24 (0, 0)) bkw) : gb266 ≠ gb279)); have n6_ := Aside0.mk ((by rw [hg]; exact Nat.ne_of_gt (blk_lt (g := gb266) (o := .cells #[.int .i64 0, .int .i64 0, .int .i64 0, .bool false] 24 (0, 0)) bkw) : gb279 ≠ gb266)); clear BK266; clear HB; have BK266 := n0_; have HB := n1_; have BK279 := n2_; have GW279 := n3_; have GE279 := n4_; have NB266_279 := n5_; have NB279_266 := n6_; clear n0_ n1_ n2_ n3_ n4_ n5_ n6_; clear hb hbox hg; have hnb30 := NB279_266.out; have hnc30 := NB266_279.out; have hcz31_0 : w29.cell? ⟨gb279, 0, none⟩ = some (.int .i64 0) := (blk_cell BK279.out 0).trans rfl; have hcz31_1 : w29.cell? ⟨gb279, 1, none⟩ = some (.int .i64 0) := (blk_cell BK279.out 1).trans rfl; have hcz31_2 : w29.cell? ⟨gb279, 2, none⟩ = some (.int .i64 0) := (blk_cell BK279.out 2).trans rfl; have hcz31_3 : w29.cell? ⟨gb279, 3, none⟩ = some (.bool false) := (blk_cell BK279.out 3).trans rfl; have hfz31_0 := blk_frozen BK279.out 0; have hfz31_1 := blk_frozen BK279.out 1; have hfz31_2 := blk_frozen BK279.out 2; have hfz31_3 := blk_frozen BK279.out 3; have hcz32_0 : w29.cell? ⟨gb266, 0, none⟩ = some (.int .i64 0) := (blk_cell BK266.out 0).trans rfl; have hcz32_1 : w29.cell? ⟨gb266, 1, none⟩ = some (.int .i64 0) := (blk_cell BK266.out 1).trans rfl; have hcz32_2 : w29.cell? ⟨gb266, 2, none⟩ = some (.int .i64 0) := (blk_cell BK266.out 2).trans rfl; have hcz32_3 : w29.cell? ⟨gb266, 3, none⟩ = some (.bool false) := (blk_cell BK266.out 3).trans rfl; have hfz32_0 := blk_frozen BK266.out 0; have hfz32_1 := blk_frozen BK266.out 1; have hfz32_2 := blk_frozen BK266.out 2; have hfz32_3 := blk_frozen BK266.out 3))
     refine bodyPost_ret (results_ct rfl _ _ gb266 24 #[.int .i64 0, .int .i64 0, .int .i64 0, .bool false] (0, 0) _ rfl (by (with_reducible repeat (first | refine blk_drewN ?_ _ | refine blk_drew ?_ | refine blk_alloc ?_ _)); refine blk_put (cs := #[.int .i64 0, .int .i64 0, .int .i64 0, .bool false]) ?_ 3 _ rfl; (with_reducible repeat (first | refine blk_drewN ?_ _ | refine blk_drew ?_ | refine blk_alloc ?_ _)); refine blk_put (cs := #[.int .i64 0, .int .i64 0, .int .i64 0, .bool false]) ?_ 2 _ rfl; (with_reducible repeat (first | refine blk_drewN ?_ _ | refine blk_drew ?_ | refine blk_alloc ?_ _)); refine blk_put (cs := #[.int .i64 0, .int .i64 0, .int .i64 0, .bool false]) ?_ 1 _ rfl; (with_reducible repeat (first | refine blk_drewN ?_ _ | refine blk_drew ?_ | refine blk_alloc ?_ _)); refine blk_put (cs := #[.int .i64 0, .int .i64 0, .int .i64 0, .bool false]) ?_ 0 _ rfl; (with_reducible repeat (first | refine blk_drewN ?_ _ | refine blk_drew ?_ | refine blk_alloc ?_ _)); refine blk_far ?_ NB266_279.out _; (with_reducible repeat (first | refine blk_drewN ?_ _ | refine blk_drew ?_ | refine blk_alloc ?_ _)); refine blk_far ?_ NB266_279.out _; (with_reducible repeat (first | refine blk_drewN ?_ _ | refine blk_drew ?_ | refine blk_alloc ?_ _)); refine blk_far ?_ NB266_279.out _; (with_reducible repeat (first | refine blk_drewN ?_ _ | refine blk_drew ?_ | refine blk_alloc ?_ _)); refine blk_far ?_ NB266_279.out _; (with_reducible repeat (first | refine blk_drewN ?_ _ | refine blk_drew ?_ | refine blk_alloc ?_ _)); exact BK266.out) Try.underlying24 rfl (by kernel_rfl)) rfl ?_
     exact ⟨by first | rfl | (simp [errW_none, errW_some] <;> rfl) | (simp [*, errW_none, errW_some] <;> rfl), blw⟩
  ·rw [if_neg c4] at H
   exact absurd H (by simp)
 ·rw [if_neg c3] at H
  exact absurd H (by simp)


/-! ### impl_BackSpot: function 70 -/
def impl_BackSpot.f (k : Nat) (a0_0 : Int) (a0_1 : Int) (a0_2 : Int) (a0_3 : Bool) : Option (Int × Int × Int × Bool × Bool) := (impl_isSpot.f a0_0 a0_1 a0_2 a0_3).bind fun t130 => (if t130 = true then (if a0_3 = true then ((impl_Spot_turned.f k 0 0 a0_2 a0_3 (wrap64 (-a0_0)) (wrap64 (-a0_1))).bind fun bt132 => (some (bt132.1, bt132.2, a0_2, a0_3, true))) else ((impl_Spot_turned.f k 0 0 (Int.tmod (wrap64 (4 - a0_2)) 4) a0_3 (wrap64 (-a0_0)) (wrap64 (-a0_1))).bind fun bt134 => (some (bt134.1, bt134.2, Int.tmod (wrap64 (4 - a0_2)) 4, a0_3, true)))) else (some (0, 0, 0, false, false)))
theorem impl_BackSpot.mono : ∀ a0 a1 a2 a3 k, LeO (impl_BackSpot.f k a0 a1 a2 a3) (impl_BackSpot.f (k + 1) a0 a1 a2 a3) := by
 intro a0 a1 a2 a3 k
 unfold impl_BackSpot.f
 exact LeO.bind (LeO.refl _) (fun _ => LeO.ite (LeO.ite (LeO.bind (impl_Spot_turned.mono _ _ _ _ _ _ _) (fun _ => LeO.refl _)) (LeO.bind (impl_Spot_turned.mono _ _ _ _ _ _ _) (fun _ => LeO.refl _))) (LeO.refl _))
set_option maxHeartbeats 2000000 in
set_option maxRecDepth 100000 in
theorem impl_BackSpot.calls (k : Nat) (a0_0 : Int) (a0_1 : Int) (a0_2 : Int) (a0_3 : Bool) (r1 : Int) (r2 : Int) (r3 : Int) (r4 : Bool) (r5 : Bool) (w : World) (h : impl_BackSpot.f k a0_0 a0_1 a0_2 a0_3 = some (r1, r2, r3, r4, r5)) :
  Calls Try.prog 70 #[.agg #[.int .i64 a0_0, .int .i64 a0_1, .int .i64 a0_2, .bool a0_3]] w fun e w' => e = .returned (.tuple #[.agg #[.int .i64 r1, .int .i64 r2, .int .i64 r3, .bool r4], .bool r5]) ∧ Below w.heap.size w w' := by
 have hu := Try.underlying24
 unfold impl_BackSpot.f at h
 obtain ⟨t, ht, h⟩ := Option.bind_eq_some_iff.mp h
 have HT := Aside0.mk ht
 clear ht
 cases t with
 | false =>
  rw [if_neg (show ¬ (false = true) by decide)] at h
  simp only [Option.some.injEq, Prod.mk.injEq] at h
  obtain ⟨rfl, rfl, rfl, rfl, rfl⟩ := h
  go_enter Try.func70, Try.ntmps70
  go_wp2_with (first | (go_at_call 50; refine (impl_isSpot.calls a0_0 a0_1 a0_2 a0_3 false _ HT.out).mono ?_; rintro e w' ⟨rfl, hb⟩; obtain ⟨hc, hf⟩ := bcell hb; have HB := Aside0.mk (below_step (w := w) (by repeat (first | exact Below.refl _ _ | apply below_alloc | apply pw_below_drewN | apply below_drew1)) hb); have hz := hb.size; clear hb; simp at hz))
  refine bodyPost_ret (v := .tuple #[.agg #[.int .i64 0, .int .i64 0, .int .i64 0, .bool false], .bool false]) (by simp [results, Try.results70, go_sem, hc, hz]) rfl ⟨rfl, ?_⟩
  repeat (first | (with_reducible exact HB.out) | refine Below.setCell ?_ (by first | omega | (simp; done) | (simp; omega)) _)
 | true =>
  rw [if_pos rfl] at h
  cases a0_3 with
  | true =>
   rw [if_pos rfl] at h
   obtain ⟨⟨t1, t2⟩, h0, h⟩ := Option.bind_eq_some_iff.mp h
   have HA := Aside0.mk h0
   clear h0
   simp only [Option.some.injEq, Prod.mk.injEq] at h
   obtain ⟨rfl, rfl, rfl, rfl, rfl⟩ := h
   go_enter Try.func70, Try.ntmps70
   go_wp2_with fail
   refine (impl_isSpot.calls a0_0 a0_1 a0_2 true true _ HT.out).mono ?_
   rintro e w1 ⟨rfl, hb⟩
   obtain ⟨hc, hf⟩ := bcell hb
   have HB1 := Aside0.mk (below_step (w := w) (by repeat (first | exact Below.refl _ _ | apply below_alloc | apply pw_below_drewN | apply below_drew1)) hb)
   have hz := hb.size
   clear hb
   simp at hz
   have hz0 : ¬ w.heap.size = w1.heap.size := by omega
   have hz1 : ¬ w.heap.size + 1 = w1.heap.size := by omega
   have ha0 : ∀ (o : Obj) (j : Nat), (w1.alloc o).cell? ⟨w.heap.size, j, none⟩ = w1.cell? ⟨w.heap.size, j, none⟩ := fun o j => World.cell?_alloc_lt _ _ _ (by show w.heap.size < w1.heap.size; omega)
   have ha1 : ∀ (o : Obj) (j : Nat), (w1.alloc o).cell? ⟨w.heap.size + 1, j, none⟩ = w1.cell? ⟨w.heap.size + 1, j, none⟩ := fun o j => World.cell?_alloc_lt _ _ _ (by show w.heap.size + 1 < w1.heap.size; omega)
   go_wp2_with fail
   refine (impl_Spot_turned.calls k 0 0 a0_2 true (wrap64 (-a0_0)) (wrap64 (-a0_1)) t1 t2 _ HA.out).mono ?_
   rintro e w2 ⟨rfl, hb⟩
   obtain ⟨hc2, hf2⟩ := bcell hb
   have HB := Aside0.mk (below_step (w := w) (by repeat (first | (with_reducible exact HB1.out) | apply below_alloc | apply pw_below_drewN | apply below_drew1)) hb)
   have hz2 := hb.size
   clear hb
   simp at hz2
   have hz5 : ¬ w1.heap.size = w.heap.size := by omega
   have hz6 : ¬ w1.heap.size = w.heap.size + 1 := by omega
   have kf0 : ∀ j, w2.frozen? ⟨w1.heap.size, j, none⟩ = false := fun j => by rw [hf2 _ _ (by simp)]; simp
   have kf1 : ∀ j, w2.frozen? ⟨w.heap.size + 1, j, none⟩ = false := fun j => by rw [hf2 _ _ (by simp; omega), World.frozen?_alloc_old _ _ _ (by show ¬ w.heap.size + 1 = w1.heap.size; exact hz1), hf _ _ (by simp)]; simp
   have kc : ∀ j, w2.cell? ⟨w.heap.size + 1, j, none⟩ = ((w.alloc (.cells #[.int .i64 a0_0, .int .i64 a0_1, .int .i64 a0_2, .bool true] 24)).alloc (.cells #[.int .i64 0, .int .i64 0, .int .i64 0, .bool false] 24)).cell? ⟨w.heap.size + 1, j, none⟩ := fun j => by rw [hc2 _ _ (by simp; omega), ha1, hc _ _ (by simp)]
   have kc0 := (kc 0).trans (by simp : _ = some (Value.int .i64 0))
   have kc1 := (kc 1).trans (by simp : _ = some (Value.int .i64 0))
   have kc2 := (kc 2).trans (by simp : _ = some (Value.int .i64 0))
   have kc3 := (kc 3).trans (by simp : _ = some (Value.bool false))
   clear hf2 kc
   go_wp2_with fail
   refine bodyPost_ret (v := .tuple #[.agg #[.int .i64 t1, .int .i64 t2, .int .i64 a0_2, .bool true], .bool true]) (by simp [results, Try.results70, go_sem, kc0, kc1, kc2, kc3, hz1, hz6]) rfl ⟨rfl, ?_⟩
   repeat (first | (with_reducible exact HB.out) | refine Below.setCell ?_ (by first | omega | (simp; done) | (simp; omega)) _)
  | false =>
   rw [if_neg (show ¬ (false = true) by decide)] at h
   obtain ⟨⟨t1, t2⟩, h0, h⟩ := Option.bind_eq_some_iff.mp h
   have HA := Aside0.mk h0
   clear h0
   simp only [Option.some.injEq, Prod.mk.injEq] at h
   obtain ⟨rfl, rfl, rfl, rfl, rfl⟩ := h
   go_enter Try.func70, Try.ntmps70
   go_wp2_with fail
   refine (impl_isSpot.calls a0_0 a0_1 a0_2 false true _ HT.out).mono ?_
   rintro e w1 ⟨rfl, hb⟩
   obtain ⟨hc, hf⟩ := bcell hb
   have HB1 := Aside0.mk (below_step (w := w) (by repeat (first | exact Below.refl _ _ | apply below_alloc | apply pw_below_drewN | apply below_drew1)) hb)
   have hz := hb.size
   clear hb
   simp at hz
   have hz0 : ¬ w.heap.size = w1.heap.size := by omega
   have hz1 : ¬ w.heap.size + 1 = w1.heap.size := by omega
   have ha0 : ∀ (o : Obj) (j : Nat), (w1.alloc o).cell? ⟨w.heap.size, j, none⟩ = w1.cell? ⟨w.heap.size, j, none⟩ := fun o j => World.cell?_alloc_lt _ _ _ (by show w.heap.size < w1.heap.size; omega)
   have ha1 : ∀ (o : Obj) (j : Nat), (w1.alloc o).cell? ⟨w.heap.size + 1, j, none⟩ = w1.cell? ⟨w.heap.size + 1, j, none⟩ := fun o j => World.cell?_alloc_lt _ _ _ (by show w.heap.size + 1 < w1.heap.size; omega)
   go_wp2_with fail
   refine (impl_Spot_turned.calls k 0 0 (Int.tmod (wrap64 (4 - a0_2)) 4) false (wrap64 (-a0_0)) (wrap64 (-a0_1)) t1 t2 _ HA.out).mono ?_
   rintro e w2 ⟨rfl, hb⟩
   obtain ⟨hc2, hf2⟩ := bcell hb
   have HB := Aside0.mk (below_step (w := w) (by repeat (first | (with_reducible exact HB1.out) | apply below_alloc | apply pw_below_drewN | apply below_drew1)) hb)
   have hz2 := hb.size
   clear hb
   simp at hz2
   have hz5 : ¬ w1.heap.size = w.heap.size := by omega
   have hz6 : ¬ w1.heap.size = w.heap.size + 1 := by omega
   have kf0 : ∀ j, w2.frozen? ⟨w1.heap.size, j, none⟩ = false := fun j => by rw [hf2 _ _ (by simp)]; simp
   have kf1 : ∀ j, w2.frozen? ⟨w.heap.size + 1, j, none⟩ = false := fun j => by rw [hf2 _ _ (by simp; omega), World.frozen?_alloc_old _ _ _ (by show ¬ w.heap.size + 1 = w1.heap.size; exact hz1), hf _ _ (by simp)]; simp
   have kc : ∀ j, w2.cell? ⟨w.heap.size + 1, j, none⟩ = ((w.alloc (.cells #[.int .i64 a0_0, .int .i64 a0_1, .int .i64 a0_2, .bool false] 24)).alloc (.cells #[.int .i64 0, .int .i64 0, .int .i64 0, .bool false] 24)).cell? ⟨w.heap.size + 1, j, none⟩ := fun j => by rw [hc2 _ _ (by simp; omega), ha1, hc _ _ (by simp)]
   have kc0 := (kc 0).trans (by simp : _ = some (Value.int .i64 0))
   have kc1 := (kc 1).trans (by simp : _ = some (Value.int .i64 0))
   have kc2 := (kc 2).trans (by simp : _ = some (Value.int .i64 0))
   have kc3 := (kc 3).trans (by simp : _ = some (Value.bool false))
   clear hf2 kc
   go_wp2_with fail
   refine bodyPost_ret (v := .tuple #[.agg #[.int .i64 t1, .int .i64 t2, .int .i64 (Int.tmod (wrap64 (4 - a0_2)) 4), .bool false], .bool true]) (by simp [results, Try.results70, go_sem, kc0, kc1, kc2, kc3, hz1, hz6]) rfl ⟨rfl, ?_⟩
   repeat (first | (with_reducible exact HB.out) | refine Below.setCell ?_ (by first | omega | (simp; done) | (simp; omega)) _)


/-! ### impl_Node_71: function 71 -/
def impl_Node_71.f (l0 : List (S73)) : Option (List (S73)) := if l0.length < 2513169434916 then some l0 else none
set_option maxHeartbeats 8000000 in
set_option maxRecDepth 100000 in
theorem impl_Node_71.calls (A0 : Option Addr) (c0 : Nat) (l0 : List (S73)) (r : List (S73)) (w : World) (hr0 : Kd.C k73 w A0 l0.length l0) (hc0 : l0.length ≤ c0) (h : impl_Node_71.f l0 = some r) :
  Calls Try.prog 71 #[.slice A0 l0.length c0] w fun e w' => ∃ v0_ : Value, e = .returned (v0_) ∧ Kd.R k73 73 w' w.heap.size (fun _ => True) v0_ r ∧ Below w.heap.size w w' := by
 unfold impl_Node_71.f at h
 by_cases c : l0.length < 2513169434916
 ·rw [if_pos c] at h
  obtain rfl := Option.some.inj h
  have LM := Aside0.mk c
  have HR0 := Aside0.mk hr0
  have HC0 := Aside0.mk hc0
  have HB := Aside0.mk (Below.refl w.heap.size w)
  clear c h hr0 hc0
  cases A0 with
  | none =>
   have hl : l0 = [] := by
    cases l0 with
    | nil => rfl
    | cons x l1 => exact absurd (at_T73 HR0.out 0 (by decide) (by simp only [List.length_cons]; omega)) (by rintro ⟨_, h_, _⟩; cases h_)
   subst hl
   have hq_ : ∀ w_ : World, Sem.run Try.prog (binOp .eql 33 (.slice none 0 c0) (.slice none 0 0)) w_ = .ok (.bool true) w_ := fun w_ => Lib.run_eql_slice_nil w_ 33 73 none 0 c0 0 0 Try.underlying33
   go_enter Try.func71, Try.ntmps71
   go_wp2
   go_ret
   exact ⟨_, rfl, Kd.R_nil _ _ _ _ _, blw⟩
  | some ad =>
   have hq_ : ∀ w_ : World, Sem.run Try.prog (binOp .eql 33 (.slice (some ad) l0.length c0) (.slice none 0 0)) w_ = .ok (.bool false) w_ := fun w_ => Lib.run_eql_slice_nil w_ 33 73 (some ad) l0.length c0 0 0 Try.underlying33
   obtain ⟨y1, hy1⟩ : ∃ y_ : List (S73), y_ = (([] : List (S73))) := ⟨_, rfl⟩
   have Ny1 := Aside0.mk hy1
   obtain ⟨y2, hy2⟩ : ∃ y_ : List (S73), y_ = (y1 ++ l0) := ⟨_, rfl⟩
   have Ny2 := Aside0.mk hy2
   have HE := Aside0.mk (show y2 = l0 by rw [hy2, hy1, List.nil_append])
   clear hy1 hy2
   go_enter Try.func71, Try.ntmps71
   go_wp2_with (first | ((with_reducible refine gate_dst (N := 5) rfl ?_); refine Kd.R_lit k73 _ 73 ?hg (N := 5) ?hd (xs := ([] : List (S73))) (inner := []) (ok := fun _ => True) (okp := fun _ => True) ?hr ?hp (fun _ hk => hk) trivial (Below.refl _ _) (Nat.le_refl _) (by simp) ?_; (case hd => rfl); (case hg => rfl); (case hr => first | (go_simp; done) | (go_simp; rfl)); (case hp => exact (Reps.none _ _)); intro v1 w1 ho12 hb hg_ hnew_; clear hg_ hnew_; (first | rw [← Ny1.out] at ho12 | (simp only [Int.reduceToNat] at ho12; rw [← Ny1.out] at ho12)); have n0_ := Aside0.mk (Kd.R_lower ho12 (below_size blw)); have n1_ := Aside0.mk (below_step blw hb); clear HB; have HO1 := n0_; have HB := n1_; clear n0_ n1_; clear hb ho12) | ((with_reducible refine gate_builtin (b := .append) (xs := #[.tmp 5, .tmp 6]) rfl ?_); at_builtin; refine Kd.R_append_rows k73 (w0 := w) w.heap.size rfl (.tmp 5) (.tmp 6) 33 73 (.agg #[(.string ⟨#[]⟩), (.int .i64 0), (.int .i64 0), (.int .i64 0), (.int .i64 0), (.bool false)]) 56 rfl Try.underlying33 info73 rfl (by decide) (by omega) v1 y1 l0 _ _ _ (fun _ => True) (fun _ => False) rfl rfl ?aO ?aR (fun _ _ h => h) (fun _ h => h.elim) ?aF ?aB ?aS ?aL ?_; (case aR => repeat (first | exact (Kd.C_below HR0.out HB.out) | (with_reducible refine Kd.C_alloc ?_ _) | (with_reducible refine Kd.C_drewN ?_ _) | (with_reducible refine Kd.C_drew ?_))); (case aB => exact blw); (case aF => exact (fun _ _ => trivial)); (case aO => exact (by (with_reducible repeat (first | apply Kd.R_alloc | apply Kd.R_drewN | apply Kd.R_drew)); exact HO1.out)); (case aS => exact (below_size blw)); (case aL => have := LM.out; rw [Ny1.out]; simp only [List.length_nil]; omega); intro v2 w2 ho hb hg hat; rw [← Ny2.out] at ho; have n0_ := Aside0.mk (hb); have n1_ := Aside0.mk (ho); clear HB; clear HO1; have HB := n0_; have HO2 := n1_; clear n0_ n1_; clear ho hb hg hat))
   go_ret
   exact ⟨_, rfl, by rw [← HE.out]; (with_reducible repeat (first | apply Kd.R_alloc | apply Kd.R_drewN | apply Kd.R_drew)); exact HO2.out, blw⟩
 ·rw [if_neg c] at h; cases h

end Go.Proofs.Ytmabgkhkokckgaa.PFnExactHang
