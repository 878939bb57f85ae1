/- The machine's side of a law, function by function: a Lean function with the Go function's answers and the proof that the Go code comes to them. No condition. Written by this session's program over the kit's print, this session's own contracts set in. -/
import Derived.Test.YtnfcpbajngccoaaPFnExactDoorsOfx0
import Derived.Test.YtnfcpbajngccoaaPFnExactDoorsOfx6
namespace Go.Proofs.Ytnfcpbajngccoaa.PFnExactDoorsOf
open Go.RowKit Go.Proofs.YtnfcpbajngccoaaW.PrintWords Go.Proofs.YtnfcpbajngccoaaW.PrintLast Go.Proofs.YtnfcpbajngccoaaW.PrintMore
attribute [local go_sem] max2_int min2_int max_two min_two max_three min_three max_four min_four   -- for this text's walks alone
set_option linter.unusedVariables false
set_option linter.unusedSimpArgs false

/-! ### spec_l8Door: function 75 -/
def spec_l8Door.l0 : Nat → Int → List Int → List Int → Int → Int → List (S54) → List (List Int) → Option (List Int × Bool)
 | 0, _, _, _, _, _, _, _ => none
 | k + 1, x2, x8, x17, x18, x19, x196000, x196001 => if x19 < x18 then (if 0 ≤ x19 then (if x19 < (x17.length : Int) then (if (x8.length : Int) = 0 then (none) else (if 0 ≤ (Int.tmod (wrap64 (x19 + 1)) (x8.length : Int)) then (if (Int.tmod (wrap64 (x19 + 1)) (x8.length : Int)) < (x8.length : Int) then (if 0 ≤ x2 then (if x2 < (x196001.length : Int) then ((spec_l8Edge.f k (rd_L2 x196001 x2) (rd x8 (Int.tmod (wrap64 (x19 + 1)) (x8.length : Int))) (rd x17 x19)).bind fun t200 => (if t200 ≥ 0 then (some ((([rd x17 x19, rd x8 (Int.tmod (wrap64 (x19 + 1)) (x8.length : Int))] : List Int)), true)) else (spec_l8Door.l0 k x2 x8 x17 x18 (wrap64 (x19 + 1)) x196000 x196001))) else (none)) else (none)) else (none)) else (none))) else (none)) else (none)) else (some (([] : List Int), false))
def spec_l8Door.f (k : Nat) (l0_0 : List (S54)) (l0_1 : List (List Int)) (a1 : Int) (a2 : Int) : Option (List Int × Bool) := if 0 ≤ a1 then (if a1 < (l0_1.length : Int) then (spec_l8Door.l0 k a2 (rd_L2 l0_1 a1) (rd_L2 l0_1 a1) ((rd_L2 l0_1 a1).length : Int) 0 l0_0 l0_1) else (none)) else (none)
theorem spec_l8Door.mono_l : ∀ k, (∀ y0 y1 y2 y3 y4 y5 y6, LeO (spec_l8Door.l0 k y0 y1 y2 y3 y4 y5 y6) (spec_l8Door.l0 (k + 1) y0 y1 y2 y3 y4 y5 y6))
 | 0 => fun _ _ _ _ _ _ _ r h => by simp [spec_l8Door.l0] at h
 | k + 1 => by
  have ih0 := spec_l8Door.mono_l k
  ·intro y0 y1 y2 y3 y4 y5 y6
   unfold spec_l8Door.l0
   repeat' first
   | (with_reducible exact ih0 _ _ _ _ _ _ _)
   | (with_reducible exact spec_l8Edge.mono _ _ _ _)
   | (with_reducible exact LeO.refl _)
   | (with_reducible exact LeO.none _)
   | (with_reducible refine LeO.ite ?_ ?_)
   | (with_reducible refine LeO.bind ?_ (fun _ => ?_))
   | exact ih0 _ _ _ _ _ _ _
   | exact spec_l8Edge.mono _ _ _ _
   | exact LeO.none _
   | refine LeO.ite ?_ ?_
   | refine LeO.bind ?_ (fun _ => ?_)
theorem spec_l8Door.mono : ∀ a0 a1 a2 a3 k, LeO (spec_l8Door.f k a0 a1 a2 a3) (spec_l8Door.f (k + 1) a0 a1 a2 a3) := by
 intro a0 a1 a2 a3 k
 have ih0 := spec_l8Door.mono_l k
 unfold spec_l8Door.f
 repeat' first
   | (with_reducible exact ih0 _ _ _ _ _ _ _)
   | (with_reducible exact spec_l8Edge.mono _ _ _ _)
   | (with_reducible exact LeO.refl _)
   | (with_reducible exact LeO.none _)
   | (with_reducible refine LeO.ite ?_ ?_)
   | (with_reducible refine LeO.bind ?_ (fun _ => ?_))
   | exact ih0 _ _ _ _ _ _ _
   | exact spec_l8Edge.mono _ _ _ _
   | exact LeO.none _
   | refine LeO.ite ?_ ?_
   | refine LeO.bind ?_ (fun _ => ?_)
set_option maxHeartbeats 8000000 in
set_option maxRecDepth 100000 in
theorem spec_l8Door.calls (k : Nat) (A0_0 : Option Addr) (c0_0 : Nat) (l0_0 : List (S54)) (A0_1 : Option Addr) (c0_1 : Nat) (l0_1 : List (List Int)) (a1 : Int) (a2 : Int) (r1 : List Int) (r2 : Bool) (w : World) (hr0_0 : Kd.C k54 w A0_0 l0_0.length l0_0) (hc0_0 : l0_0.length ≤ c0_0) (hr0_1 : Kd.C (Kd.slice 3 (Kd.int .i64)) w A0_1 l0_1.length l0_1) (hc0_1 : l0_1.length ≤ c0_1) (h : spec_l8Door.f k l0_0 l0_1 a1 a2 = some (r1, r2)) :
  Calls Try.prog 75 #[.agg #[.slice A0_0 l0_0.length c0_0, .slice A0_1 l0_1.length c0_1], .int .i64 a1, .int .i64 a2] w fun e w' => ∃ v0_ : Value, e = .returned (.tuple #[v0_, .bool r2]) ∧ Kd.R (Kd.int .i64) 3 w' w.heap.size (fun _ => True) v0_ r1 ∧ Below w.heap.size w w' := by
 have hu30 := Try.underlying30
 have HR0_0 := Aside0.mk hr0_0
 have HC0_0 := Aside0.mk hc0_0
 clear hr0_0 hc0_0
 have HR0_1 := Aside0.mk hr0_1
 have HC0_1 := Aside0.mk hc0_1
 clear hr0_1 hc0_1
 have HB := Aside0.mk (Below.refl w.heap.size w)
 have H : (if 0 ≤ a1 then (if a1 < (l0_1.length : Int) then (spec_l8Door.l0 k a2 (rd_L2 l0_1 a1) (rd_L2 l0_1 a1) ((rd_L2 l0_1 a1).length : Int) 0 l0_0 l0_1) else (none)) else (none)) = some (r1, r2) := h
 clear h
 by_cases c4 : 0 ≤ a1
 ·rw [if_pos c4] at H
  have c4b0 : decide (0 ≤ a1) = true := decide_eq_true c4
  clear c4
  by_cases c5 : a1 < (l0_1.length : Int)
  ·rw [if_pos c5] at H
   have c5b0 : decide (a1 < (l0_1.length : Int)) = true := decide_eq_true c5
   clear c5
   have H' := Aside0.mk H
   clear H
   go_enter Try.func75, Try.ntmps75
   go_wp2_with (first | ((with_reducible refine gate_dst (N := 3) rfl ?_); refine box_event ?hg (N := 3) ?hd (cs := #[.slice A0_0 l0_0.length c0_0, .slice A0_1 l0_1.length c0_1]) (t := 30) ?hr ?_; (case hd => rfl); (case hg => rfl); (case hr => first | (go_simp; done) | (go_simp; rfl)); intro gb195 hg w6 hbox hb; have n0_ := Aside0.mk (below_step blw hb); have n1_ := Aside0.mk (hbox); have n2_ := Aside0.mk ((by rw [hg]; exact (below_size blw) : w.heap.size ≤ gb195)); have n3_ := Aside0.mk ((by rw [hg]; exact (below_size blw) : w.heap.size ≤ gb195)); clear HB; have HB := n0_; have BK195 := n1_; have GW195 := n2_; have GE195 := n3_; clear n0_ n1_ n2_ n3_; clear hb hbox hg; have hcz7_0 : w6.cell? ⟨gb195, 0, none⟩ = some (.slice A0_0 l0_0.length c0_0) := (blk_cell BK195.out 0).trans rfl; have hcz7_1 : w6.cell? ⟨gb195, 1, none⟩ = some (.slice A0_1 l0_1.length c0_1) := (blk_cell BK195.out 1).trans rfl; have hfz7_0 := blk_frozen BK195.out 0; have hfz7_1 := blk_frozen BK195.out 1; have p196 : 0 ≤ (a1 : Int) := odt; have q196 : a1 < (l0_1.length : Int) := odt; obtain ⟨ad196, A196_0, c196_0, e196, hx196_0, hl196_0, hi196_0⟩ := at_L2 HR0_1.out a1 p196 q196; cases e196; replace hx196_0 := (HB.out.cell (World.block_lt_of_cell? w _ hx196_0)).trans hx196_0; have HR196_0 := Aside0.mk hi196_0; have HC196_0 := Aside0.mk hl196_0; clear hi196_0 hl196_0; replace p196 := eq_true p196; replace q196 := eq_true q196))
   go_loopg [19] k (fun kq v19 w' => ∃ (x19_1 : Int), v19 = .int .i64 x19_1 ∧ Aside0 (spec_l8Door.l0 kq a2 (rd_L2 l0_1 a1) (rd_L2 l0_1 a1) ((rd_L2 l0_1 a1).length : Int) x19_1 l0_0 l0_1 = some (r1, r2)) ∧ Aside0 (kq ≤ k) ∧ Aside0 (w'.heap[gb195]? = some (.cells #[(.slice A0_0 l0_0.length c0_0), (.slice (some ad196) l0_1.length c0_1)] 30 (0, 0))) ∧ Aside0 (Below w.heap.size w w'))
   case atStart => exact ⟨(0), (by first | rfl | (simp; done) | (simp [*]; done)), H', ⟨Nat.le_refl _⟩, ⟨by (with_reducible repeat (first | refine blk_drewN ?_ _ | refine blk_drew ?_ | refine blk_alloc ?_ _)); exact BK195.out⟩, ⟨blw⟩⟩
   case round =>
    clear H'
    try clear c1
    try clear p1
    try clear q1
    try clear hx1
    try clear p2
    try clear c4
    try clear c4b0
    try clear c5
    try clear c5b0
    try clear c7
    try clear hcz7_0
    try clear hcz7_1
    try clear hfz7_0
    try clear hfz7_1
    try clear hx196_0
    try clear p196
    try clear q196
    obtain ⟨x19_1, rfl, HA, HK1, BK195, HB⟩ := hrel
    cases gk with
    | zero => exact absurd HA.out (by simp [spec_l8Door.l0])
    | succ k1 =>
     have H := HA.out
     clear HA
     simp only [spec_l8Door.l0] at H
     by_cases c8 : x19_1 < ((rd_L2 l0_1 a1).length : Int)
     ·rw [if_pos c8] at H
      have c8b0 : decide (x19_1 < ((rd_L2 l0_1 a1).length : Int)) = true := decide_eq_true c8
      clear c8
      by_cases c9 : 0 ≤ x19_1
      ·rw [if_pos c9] at H
       have c9b0 : decide (0 ≤ x19_1) = true := decide_eq_true c9
       clear c9
       by_cases c10 : x19_1 < ((rd_L2 l0_1 a1).length : Int)
       ·rw [if_pos c10] at H
        have c10b0 : decide (x19_1 < ((rd_L2 l0_1 a1).length : Int)) = true := decide_eq_true c10
        clear c10
        by_cases c11 : ((rd_L2 l0_1 a1).length : Int) = 0
        ·rw [if_pos c11] at H
         exact absurd H (by simp)
        ·rw [if_neg c11] at H
         have c11b0 : (((rd_L2 l0_1 a1).length : Int) == 0) = false := beq_eq_false_iff_ne.mpr c11
         have c11b1 : (((rd_L2 l0_1 a1).length : Int) != 0) = true := bne_iff_ne.mpr c11
         have c11b2 : ¬ ((rd_L2 l0_1 a1) = []) := fun h_ => c11 (by rw [h_]; rfl)
         obtain ⟨ji12, hji12⟩ : ∃ j_ : Int, (Int.tmod (wrap64 (x19_1 + 1)) ((rd_L2 l0_1 a1).length : Int)) = j_ := ⟨_, rfl⟩
         replace H : (if 0 ≤ (ji12) then (if (ji12) < ((rd_L2 l0_1 a1).length : Int) then (if 0 ≤ a2 then (if a2 < (l0_1.length : Int) then ((spec_l8Edge.f k1 (rd_L2 l0_1 a2) (rd (rd_L2 l0_1 a1) (ji12)) (rd (rd_L2 l0_1 a1) x19_1)).bind fun t200 => (if t200 ≥ 0 then (some ((([rd (rd_L2 l0_1 a1) x19_1, rd (rd_L2 l0_1 a1) (ji12)] : List Int)), true)) else (spec_l8Door.l0 k1 a2 (rd_L2 l0_1 a1) (rd_L2 l0_1 a1) ((rd_L2 l0_1 a1).length : Int) (wrap64 (x19_1 + 1)) l0_0 l0_1))) else (none)) else (none)) else (none)) else (none)) = some (r1, r2) := by first | (rw [hji12] at H; exact H) | (simp only [hji12] at H ⊢; exact H)
         by_cases c13 : 0 ≤ (ji12)
         ·rw [if_pos c13] at H
          have c13b0 : decide (0 ≤ (ji12)) = true := decide_eq_true c13
          clear c13
          by_cases c14 : (ji12) < ((rd_L2 l0_1 a1).length : Int)
          ·rw [if_pos c14] at H
           have c14b0 : decide ((ji12) < ((rd_L2 l0_1 a1).length : Int)) = true := decide_eq_true c14
           clear c14
           by_cases c15 : 0 ≤ a2
           ·rw [if_pos c15] at H
            have c15b0 : decide (0 ≤ a2) = true := decide_eq_true c15
            clear c15
            by_cases c16 : a2 < (l0_1.length : Int)
            ·rw [if_pos c16] at H
             have c16b0 : decide (a2 < (l0_1.length : Int)) = true := decide_eq_true c16
             clear c16
             replace H := Option.bind_eq_some_iff.mp H
             obtain ⟨t200, A170, H⟩ := H
             replace H : (if t200 ≥ 0 then (some ((([rd (rd_L2 l0_1 a1) x19_1, rd (rd_L2 l0_1 a1) (ji12)] : List Int)), true)) else (spec_l8Door.l0 k1 a2 (rd_L2 l0_1 a1) (rd_L2 l0_1 a1) ((rd_L2 l0_1 a1).length : Int) (wrap64 (x19_1 + 1)) l0_0 l0_1)) = some (r1, r2) := H
             have A17 := Aside0.mk A170
             clear A170
             by_cases c18 : t200 ≥ 0
             ·rw [if_pos c18] at H
              have c18b0 : decide (0 ≤ t200) = true := decide_eq_true c18
              clear c18
              obtain ⟨y201, hy201⟩ : ∃ y_ : List Int, y_ = (([rd (rd_L2 l0_1 a1) x19_1, rd (rd_L2 l0_1 a1) (ji12)] : List Int)) := ⟨_, rfl⟩
              replace H : (some (y201, true)) = some (r1, r2) := by first | (rw [hy201]; with_reducible exact H) | (have H2_ := (Option.bind_some _ _).symm.trans H; rw [hy201]; with_reducible exact H2_) | (have H2_ := (Option.bind_some _ _).symm.trans H; with_reducible exact H2_) | with_reducible exact H | (rw [hy201]; exact H) | exact H
              have Ny201 := Aside0.mk hy201
              clear hy201
              simp only [Option.some.injEq, Prod.mk.injEq] at H
              obtain ⟨rfl, rfl⟩ := H
              have p197 : 0 ≤ (x19_1 : Int) := odt
              have q197 : x19_1 < ((rd_L2 l0_1 a1).length : Int) := odt
              obtain ⟨ad197, e197, hx197_0⟩ := Kd.at_int HR196_0.out x19_1 p197 q197
              cases e197
              replace hx197_0 := (HB.out.cell (World.block_lt_of_cell? w _ hx197_0)).trans hx197_0
              replace p197 := eq_true p197
              replace q197 := eq_true q197
              have p198 : 0 ≤ ((ji12) : Int) := odt
              have q198 : (ji12) < ((rd_L2 l0_1 a1).length : Int) := odt
              obtain ⟨ad198, e198, hx198_0⟩ := Kd.at_int HR196_0.out (ji12) p198 q198
              obtain rfl : ad197 = ad198 := (by injection e198)
              replace hx198_0 := (HB.out.cell (World.block_lt_of_cell? w _ hx198_0)).trans hx198_0
              replace p198 := eq_true p198
              replace q198 := eq_true q198
              have hcz19_0 : wr.cell? ⟨gb195, 0, none⟩ = some (.slice A0_0 l0_0.length c0_0) := (blk_cell BK195.out 0).trans rfl
              have hcz19_1 : wr.cell? ⟨gb195, 1, none⟩ = some (.slice (some ad196) l0_1.length c0_1) := (blk_cell BK195.out 1).trans rfl
              have hfz19_0 := blk_frozen BK195.out 0
              have hfz19_1 := blk_frozen BK195.out 1
              have p199 : 0 ≤ (a2 : Int) := odt
              have q199 : a2 < (l0_1.length : Int) := odt
              obtain ⟨ad199, A199_0, c199_0, e199, hx199_0, hl199_0, hi199_0⟩ := at_L2 HR0_1.out a2 p199 q199
              obtain rfl : ad196 = ad199 := (by injection e199)
              replace hx199_0 := (HB.out.cell (World.block_lt_of_cell? w _ hx199_0)).trans hx199_0
              have HR199_0 := Aside0.mk hi199_0
              have HC199_0 := Aside0.mk hl199_0
              clear hi199_0 hl199_0
              replace p199 := eq_true p199
              replace q199 := eq_true q199
              go_wp2_with (first | ((with_reducible refine gate_callee (f := 40) rfl ?_); refine goesL_ (some 39) rfl rfl Try.func40 (by kernel_rfl) rfl #[.slice A199_0 (rd_L2 l0_1 a2).length c199_0, .int .i64 (rd (rd_L2 l0_1 a1) (ji12)), .int .i64 (rd (rd_L2 l0_1 a1) x19_1)] rfl (by (try simp only [List.map_toArray, List.map_cons, List.map_nil]); first | done | (simp only [hji12]; rfl) | rfl | (simp only [List.length_drop, List.length_take]; rfl)) ?_; (with_reducible refine (spec_l8Edge.calls k1 _ _ (rd_L2 l0_1 a2) (rd (rd_L2 l0_1 a1) (ji12)) (rd (rd_L2 l0_1 a1) x19_1) t200 _ ?side1 ?side2 A17.out).mono ?_); (case side1 => repeat (first | exact (Kd.C_below HR199_0.out HB.out) | (with_reducible refine Kd.C_alloc ?_ _) | (with_reducible refine Kd.C_drewN ?_ _) | (with_reducible refine Kd.C_drew ?_))); (case side2 => exact HC199_0.out); rintro e w' ⟨rfl, ⟨nd, rfl⟩⟩; refine ⟨_, rfl, ?_⟩) | ((with_reducible refine gate_dst (N := 43) rfl ?_); refine Kd.R_lit (Kd.int .i64) _ 3 ?hg (N := 43) ?hd (xs := ([rd (rd_L2 l0_1 a1) x19_1, rd (rd_L2 l0_1 a1) (ji12)] : List Int)) (inner := [.int .i64 (rd (rd_L2 l0_1 a1) x19_1), .int .i64 (rd (rd_L2 l0_1 a1) (ji12))]) (ok := fun _ => True) (okp := fun _ => True) ?hr ?hp (fun _ hk => hk) trivial (Below.refl _ _) (Nat.le_refl _) (by simp) ?_; (case hd => rfl); (case hg => rfl); (case hr => first | (go_simp; done) | (go_simp; rfl)); (case hp => exact (Reps.one (show Kd.M (Kd.int .i64) _ _ _ (rd (rd_L2 l0_1 a1) x19_1) [.int .i64 (rd (rd_L2 l0_1 a1) x19_1)] from rfl) (Reps.one (show Kd.M (Kd.int .i64) _ _ _ (rd (rd_L2 l0_1 a1) (ji12)) [.int .i64 (rd (rd_L2 l0_1 a1) (ji12))] from rfl) (Reps.none _ _)))); intro v202 w20 ho21 hb hg_ hnew_; clear hg_ hnew_; (first | rw [← Ny201.out] at ho21 | (simp only [Int.reduceToNat] at ho21; rw [← Ny201.out] at ho21)); have n0_ := Aside0.mk (Kd.R_lower ho21 (below_size blw)); have n1_ := Aside0.mk (blk_below (g := gb195) (o := .cells #[.slice A0_0 l0_0.length c0_0, .slice (some ad196) l0_1.length c0_1] 30 (0, 0)) bkw hb); have n2_ := Aside0.mk (below_step blw hb); clear BK195; clear HB; have HO203 := n0_; have BK195 := n1_; have HB := n2_; clear n0_ n1_ n2_; clear hb ho21))
              go_ret2
              exact ⟨_, by first | rfl | (simp [errW_none, errW_some] <;> rfl) | (simp only [← hji12]; first | rfl | (simp [errW_none, errW_some] <;> rfl)) | (simp [*, errW_none, errW_some] <;> rfl), by (with_reducible repeat (first | apply Kd.R_alloc | apply Kd.R_drewN | apply Kd.R_drew)); exact HO203.out, blw⟩
             ·rw [if_neg c18] at H
              have c18b0 : decide (0 ≤ t200) = false := decide_eq_false c18
              clear c18
              have H' := Aside0.mk H
              clear H
              have p197 : 0 ≤ (x19_1 : Int) := odt
              have q197 : x19_1 < ((rd_L2 l0_1 a1).length : Int) := odt
              obtain ⟨ad197, e197, hx197_0⟩ := Kd.at_int HR196_0.out x19_1 p197 q197
              cases e197
              replace hx197_0 := (HB.out.cell (World.block_lt_of_cell? w _ hx197_0)).trans hx197_0
              replace p197 := eq_true p197
              replace q197 := eq_true q197
              have p198 : 0 ≤ ((ji12) : Int) := odt
              have q198 : (ji12) < ((rd_L2 l0_1 a1).length : Int) := odt
              obtain ⟨ad198, e198, hx198_0⟩ := Kd.at_int HR196_0.out (ji12) p198 q198
              obtain rfl : ad197 = ad198 := (by injection e198)
              replace hx198_0 := (HB.out.cell (World.block_lt_of_cell? w _ hx198_0)).trans hx198_0
              replace p198 := eq_true p198
              replace q198 := eq_true q198
              have hcz22_0 : wr.cell? ⟨gb195, 0, none⟩ = some (.slice A0_0 l0_0.length c0_0) := (blk_cell BK195.out 0).trans rfl
              have hcz22_1 : wr.cell? ⟨gb195, 1, none⟩ = some (.slice (some ad196) l0_1.length c0_1) := (blk_cell BK195.out 1).trans rfl
              have hfz22_0 := blk_frozen BK195.out 0
              have hfz22_1 := blk_frozen BK195.out 1
              have p199 : 0 ≤ (a2 : Int) := odt
              have q199 : a2 < (l0_1.length : Int) := odt
              obtain ⟨ad199, A199_0, c199_0, e199, hx199_0, hl199_0, hi199_0⟩ := at_L2 HR0_1.out a2 p199 q199
              obtain rfl : ad196 = ad199 := (by injection e199)
              replace hx199_0 := (HB.out.cell (World.block_lt_of_cell? w _ hx199_0)).trans hx199_0
              have HR199_0 := Aside0.mk hi199_0
              have HC199_0 := Aside0.mk hl199_0
              clear hi199_0 hl199_0
              replace p199 := eq_true p199
              replace q199 := eq_true q199
              go_wp2_with (first | ((with_reducible refine gate_callee (f := 40) rfl ?_); refine goesL_ (some 39) rfl rfl Try.func40 (by kernel_rfl) rfl #[.slice A199_0 (rd_L2 l0_1 a2).length c199_0, .int .i64 (rd (rd_L2 l0_1 a1) (ji12)), .int .i64 (rd (rd_L2 l0_1 a1) x19_1)] rfl (by (try simp only [List.map_toArray, List.map_cons, List.map_nil]); first | done | (simp only [hji12]; rfl) | rfl | (simp only [List.length_drop, List.length_take]; rfl)) ?_; (with_reducible refine (spec_l8Edge.calls k1 _ _ (rd_L2 l0_1 a2) (rd (rd_L2 l0_1 a1) (ji12)) (rd (rd_L2 l0_1 a1) x19_1) t200 _ ?side1 ?side2 A17.out).mono ?_); (case side1 => repeat (first | exact (Kd.C_below HR199_0.out HB.out) | (with_reducible refine Kd.C_alloc ?_ _) | (with_reducible refine Kd.C_drewN ?_ _) | (with_reducible refine Kd.C_drew ?_))); (case side2 => exact HC199_0.out); rintro e w' ⟨rfl, ⟨nd, rfl⟩⟩; refine ⟨_, rfl, ?_⟩))
              go_roundg k1
              case measure => have := HK1.out; omega
              case rel => exact ⟨(wrap64 (x19_1 + 1)), (by first | rfl | (simp; done) | (simp [*]; done)), H', ⟨by have := HK1.out; omega⟩, ⟨by (with_reducible repeat (first | refine blk_drewN ?_ _ | refine blk_drew ?_ | refine blk_alloc ?_ _)); exact BK195.out⟩, ⟨blw⟩⟩
            ·rw [if_neg c16] at H
             exact absurd H (by simp)
           ·rw [if_neg c15] at H
            exact absurd H (by simp)
          ·rw [if_neg c14] at H
           exact absurd H (by simp)
         ·rw [if_neg c13] at H
          exact absurd H (by simp)
       ·rw [if_neg c10] at H
        exact absurd H (by simp)
      ·rw [if_neg c9] at H
       exact absurd H (by simp)
     ·rw [if_neg c8] at H
      have c8b0 : decide (x19_1 < ((rd_L2 l0_1 a1).length : Int)) = false := decide_eq_false c8
      clear c8
      simp only [Option.some.injEq, Prod.mk.injEq] at H
      obtain ⟨rfl, rfl⟩ := H
      go_wp2
      go_ret2
      exact ⟨_, by first | rfl | (simp [errW_none, errW_some] <;> rfl) | (simp [*, errW_none, errW_some] <;> rfl), by first | exact Kd.R_nil _ _ _ _ _ | exact Kd.N_nil _ _ _ _ _ | exact Kd.V_nil _ _ _ _ _ | exact Kd.Q_nil _ _ _ _ _ | exact Kd.S_nil _ _ _ _ _, blw⟩
  ·rw [if_neg c5] at H
   exact absurd H (by simp)
 ·rw [if_neg c4] at H
  exact absurd H (by simp)

end Go.Proofs.Ytnfcpbajngccoaa.PFnExactDoorsOf
