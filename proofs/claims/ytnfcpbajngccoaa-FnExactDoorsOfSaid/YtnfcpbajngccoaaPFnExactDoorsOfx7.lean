/- The machine's side of a law, function by function: a Lean function with the Go function's answers and the proof that the Go code comes to them. No condition. Written by this session's program over the kit's print, this session's own contracts set in. -/
import Derived.Test.YtnfcpbajngccoaaPFnExactDoorsOfx0
import Derived.Test.YtnfcpbajngccoaaPFnExactDoorsOfx1
import Derived.Test.YtnfcpbajngccoaaPFnExactDoorsOfx4
import Derived.Test.YtnfcpbajngccoaaPFnExactDoorsOfx5
import Derived.Test.YtnfcpbajngccoaaPFnExactDoorsOfx6
namespace Go.Proofs.Ytnfcpbajngccoaa.PFnExactDoorsOf
open Go.RowKit Go.Proofs.YtnfcpbajngccoaaW.PrintWords Go.Proofs.YtnfcpbajngccoaaW.PrintLast Go.Proofs.YtnfcpbajngccoaaW.PrintMore
attribute [local go_sem] max2_int min2_int max_two min_two max_three min_three max_four min_four   -- for this text's walks alone
set_option linter.unusedVariables false
set_option linter.unusedSimpArgs false

attribute [local go_sem high] eqA54
/-! ### spec_GoodGround: function 10 -/
mutual
def spec_GoodGround.j0 : Nat → Bool → List (S54) → List (List Int) → Option (Bool)
 | 0, _, _, _ => none
 | k + 1, x28, x176000, x176001 => if x28 = true then (some false) else (spec_GoodGround.l0 k x176000 (x176000.length : Int) 0 x176000 x176001)
def spec_GoodGround.l0 : Nat → List (S54) → Int → Int → List (S54) → List (List Int) → Option (Bool)
 | 0, _, _, _, _, _ => none
 | k + 1, x30, x31, x32, x176000, x176001 => if x32 < x31 then (if 0 ≤ x32 then (if x32 < (x30.length : Int) then ((spec_l8Place.f ((rd_T54 x30 x32).f0) ((rd_T54 x30 x32).f1)).bind fun t178 => (if t178 = true then (if x32 ≤ (x176000.length : Int) then ((some (x176000.take (x32 : Int).toNat : List (S54))).bind fun y179 => (spec_GoodGround.l1 k x30 x31 x32 y179 (y179.length : Int) 0 x176000 x176001 ((rd_T54 x30 x32).f0) ((rd_T54 x30 x32).f1))) else (none)) else (some false))) else (none)) else (none)) else (spec_GoodGround.l2 k x176001 (x176001.length : Int) 0 x176000 x176001)
def spec_GoodGround.l1 : Nat → List (S54) → Int → Int → List (S54) → Int → Int → List (S54) → List (List Int) → Int → Int → Option (Bool)
 | 0, _, _, _, _, _, _, _, _, _, _ => none
 | k + 1, x30, x31, x32, x43, x44, x45, x176000, x176001, x178000, x178001 => if x45 < x44 then (if 0 ≤ x45 then (if x45 < (x43.length : Int) then (if (x178000 == ((rd_T54 x43 x45).f0) && (x178001 == ((rd_T54 x43 x45).f1))) = true then (some false) else (spec_GoodGround.l1 k x30 x31 x32 x43 x44 (wrap64 (x45 + 1)) x176000 x176001 x178000 x178001)) else (none)) else (none)) else (spec_GoodGround.l0 k x30 x31 (wrap64 (x32 + 1)) x176000 x176001)
def spec_GoodGround.l2 : Nat → List (List Int) → Int → Int → List (S54) → List (List Int) → Option (Bool)
 | 0, _, _, _, _, _ => none
 | k + 1, x55, x56, x57, x176000, x176001 => if x57 < x56 then (if 0 ≤ x57 then (if x57 < (x55.length : Int) then ((spec_l8Face.f k x176000 x176001 (rd_L2 x55 x57)).bind fun t186 => (if t186 = true then (if x57 ≤ (x176001.length : Int) then ((some (x176001.take (x57 : Int).toNat : List (List Int))).bind fun y187 => (spec_GoodGround.l3 k (rd_L2 x55 x57) x55 x56 x57 y187 (y187.length : Int) 0 x176000 x176001)) else (none)) else (some false))) else (none)) else (none)) else (some true)
def spec_GoodGround.l3 : Nat → List Int → List (List Int) → Int → Int → List (List Int) → Int → Int → List (S54) → List (List Int) → Option (Bool)
 | 0, _, _, _, _, _, _, _, _, _ => none
 | k + 1, x8, x55, x56, x57, x69, x70, x71, x176000, x176001 => if x71 < x70 then (if 0 ≤ x71 then (if x71 < (x69.length : Int) then (spec_GoodGround.l4 k x8 (rd_L2 x69 x71) x55 x56 x57 x69 x70 x71 x8 (x8.length : Int) 0 x176000 x176001) else (none)) else (none)) else (spec_GoodGround.l2 k x55 x56 (wrap64 (x57 + 1)) x176000 x176001)
def spec_GoodGround.l4 : Nat → List Int → List Int → List (List Int) → Int → Int → List (List Int) → Int → Int → List Int → Int → Int → List (S54) → List (List Int) → Option (Bool)
 | 0, _, _, _, _, _, _, _, _, _, _, _, _, _ => none
 | k + 1, x8, x10, x55, x56, x57, x69, x70, x71, x75, x76, x77, x176000, x176001 => if x77 < x76 then (if 0 ≤ x77 then (if x77 < (x75.length : Int) then (if (x8.length : Int) = 0 then (none) else (if 0 ≤ (Int.tmod (wrap64 (x77 + 1)) (x8.length : Int)) then (if (Int.tmod (wrap64 (x77 + 1)) (x8.length : Int)) < (x8.length : Int) then ((spec_l8Edge.f k x10 (rd x75 x77) (rd x8 (Int.tmod (wrap64 (x77 + 1)) (x8.length : Int)))).bind fun t194 => (if t194 ≥ 0 then (some false) else (spec_GoodGround.l4 k x8 x10 x55 x56 x57 x69 x70 x71 x75 x76 (wrap64 (x77 + 1)) x176000 x176001))) else (none)) else (none))) else (none)) else (none)) else (spec_GoodGround.l3 k x8 x55 x56 x57 x69 x70 (wrap64 (x71 + 1)) x176000 x176001)
end
def spec_GoodGround.f (k : Nat) (l0_0 : List (S54)) (l0_1 : List (List Int)) : Option (Bool) := if (l0_0.length : Int) > 40 then (spec_GoodGround.j0 k true l0_0 l0_1) else (if (l0_1.length : Int) < 1 then (spec_GoodGround.j0 k true l0_0 l0_1) else (spec_GoodGround.j0 k (decide ((l0_1.length : Int) > 20)) l0_0 l0_1))
theorem spec_GoodGround.mono_l : ∀ k, (∀ y0 y1 y2, LeO (spec_GoodGround.j0 k y0 y1 y2) (spec_GoodGround.j0 (k + 1) y0 y1 y2)) ∧ (∀ y0 y1 y2 y3 y4, LeO (spec_GoodGround.l0 k y0 y1 y2 y3 y4) (spec_GoodGround.l0 (k + 1) y0 y1 y2 y3 y4)) ∧ (∀ y0 y1 y2 y3 y4 y5 y6 y7 y8 y9, LeO (spec_GoodGround.l1 k y0 y1 y2 y3 y4 y5 y6 y7 y8 y9) (spec_GoodGround.l1 (k + 1) y0 y1 y2 y3 y4 y5 y6 y7 y8 y9)) ∧ (∀ y0 y1 y2 y3 y4, LeO (spec_GoodGround.l2 k y0 y1 y2 y3 y4) (spec_GoodGround.l2 (k + 1) y0 y1 y2 y3 y4)) ∧ (∀ y0 y1 y2 y3 y4 y5 y6 y7 y8, LeO (spec_GoodGround.l3 k y0 y1 y2 y3 y4 y5 y6 y7 y8) (spec_GoodGround.l3 (k + 1) y0 y1 y2 y3 y4 y5 y6 y7 y8)) ∧ (∀ y0 y1 y2 y3 y4 y5 y6 y7 y8 y9 y10 y11 y12, LeO (spec_GoodGround.l4 k y0 y1 y2 y3 y4 y5 y6 y7 y8 y9 y10 y11 y12) (spec_GoodGround.l4 (k + 1) y0 y1 y2 y3 y4 y5 y6 y7 y8 y9 y10 y11 y12))
 | 0 => ⟨fun _ _ _ r h => by simp [spec_GoodGround.j0] at h, fun _ _ _ _ _ r h => by simp [spec_GoodGround.l0] at h, fun _ _ _ _ _ _ _ _ _ _ r h => by simp [spec_GoodGround.l1] at h, fun _ _ _ _ _ r h => by simp [spec_GoodGround.l2] at h, fun _ _ _ _ _ _ _ _ _ r h => by simp [spec_GoodGround.l3] at h, fun _ _ _ _ _ _ _ _ _ _ _ _ _ r h => by simp [spec_GoodGround.l4] at h⟩
 | k + 1 => by
  obtain ⟨ih0, ih1, ih2, ih3, ih4, ih5⟩ := spec_GoodGround.mono_l k
  refine ⟨?_, ?_, ?_, ?_, ?_, ?_⟩
  ·intro y0 y1 y2
   unfold spec_GoodGround.j0
   repeat' first
   | (with_reducible exact ih0 _ _ _)
   | (with_reducible exact ih1 _ _ _ _ _)
   | (with_reducible exact ih2 _ _ _ _ _ _ _ _ _ _)
   | (with_reducible exact ih3 _ _ _ _ _)
   | (with_reducible exact ih4 _ _ _ _ _ _ _ _ _)
   | (with_reducible exact ih5 _ _ _ _ _ _ _ _ _ _ _ _ _)
   | (with_reducible exact spec_l8Edge.mono _ _ _ _)
   | (with_reducible exact spec_l8Face.mono _ _ _ _)
   | (with_reducible exact LeO.refl _)
   | (with_reducible exact LeO.none _)
   | (with_reducible refine LeO.ite ?_ ?_)
   | (with_reducible refine LeO.bind ?_ (fun _ => ?_))
   | exact ih0 _ _ _
   | exact ih1 _ _ _ _ _
   | exact ih2 _ _ _ _ _ _ _ _ _ _
   | exact ih3 _ _ _ _ _
   | exact ih4 _ _ _ _ _ _ _ _ _
   | exact ih5 _ _ _ _ _ _ _ _ _ _ _ _ _
   | exact spec_l8Edge.mono _ _ _ _
   | exact spec_l8Face.mono _ _ _ _
   | exact LeO.none _
   | refine LeO.ite ?_ ?_
   | refine LeO.bind ?_ (fun _ => ?_)
  ·intro y0 y1 y2 y3 y4
   unfold spec_GoodGround.l0
   repeat' first
   | (with_reducible exact ih0 _ _ _)
   | (with_reducible exact ih1 _ _ _ _ _)
   | (with_reducible exact ih2 _ _ _ _ _ _ _ _ _ _)
   | (with_reducible exact ih3 _ _ _ _ _)
   | (with_reducible exact ih4 _ _ _ _ _ _ _ _ _)
   | (with_reducible exact ih5 _ _ _ _ _ _ _ _ _ _ _ _ _)
   | (with_reducible exact spec_l8Edge.mono _ _ _ _)
   | (with_reducible exact spec_l8Face.mono _ _ _ _)
   | (with_reducible exact LeO.refl _)
   | (with_reducible exact LeO.none _)
   | (with_reducible refine LeO.ite ?_ ?_)
   | (with_reducible refine LeO.bind ?_ (fun _ => ?_))
   | exact ih0 _ _ _
   | exact ih1 _ _ _ _ _
   | exact ih2 _ _ _ _ _ _ _ _ _ _
   | exact ih3 _ _ _ _ _
   | exact ih4 _ _ _ _ _ _ _ _ _
   | exact ih5 _ _ _ _ _ _ _ _ _ _ _ _ _
   | exact spec_l8Edge.mono _ _ _ _
   | exact spec_l8Face.mono _ _ _ _
   | exact LeO.none _
   | refine LeO.ite ?_ ?_
   | refine LeO.bind ?_ (fun _ => ?_)
  ·intro y0 y1 y2 y3 y4 y5 y6 y7 y8 y9
   unfold spec_GoodGround.l1
   repeat' first
   | (with_reducible exact ih0 _ _ _)
   | (with_reducible exact ih1 _ _ _ _ _)
   | (with_reducible exact ih2 _ _ _ _ _ _ _ _ _ _)
   | (with_reducible exact ih3 _ _ _ _ _)
   | (with_reducible exact ih4 _ _ _ _ _ _ _ _ _)
   | (with_reducible exact ih5 _ _ _ _ _ _ _ _ _ _ _ _ _)
   | (with_reducible exact spec_l8Edge.mono _ _ _ _)
   | (with_reducible exact spec_l8Face.mono _ _ _ _)
   | (with_reducible exact LeO.refl _)
   | (with_reducible exact LeO.none _)
   | (with_reducible refine LeO.ite ?_ ?_)
   | (with_reducible refine LeO.bind ?_ (fun _ => ?_))
   | exact ih0 _ _ _
   | exact ih1 _ _ _ _ _
   | exact ih2 _ _ _ _ _ _ _ _ _ _
   | exact ih3 _ _ _ _ _
   | exact ih4 _ _ _ _ _ _ _ _ _
   | exact ih5 _ _ _ _ _ _ _ _ _ _ _ _ _
   | exact spec_l8Edge.mono _ _ _ _
   | exact spec_l8Face.mono _ _ _ _
   | exact LeO.none _
   | refine LeO.ite ?_ ?_
   | refine LeO.bind ?_ (fun _ => ?_)
  ·intro y0 y1 y2 y3 y4
   unfold spec_GoodGround.l2
   repeat' first
   | (with_reducible exact ih0 _ _ _)
   | (with_reducible exact ih1 _ _ _ _ _)
   | (with_reducible exact ih2 _ _ _ _ _ _ _ _ _ _)
   | (with_reducible exact ih3 _ _ _ _ _)
   | (with_reducible exact ih4 _ _ _ _ _ _ _ _ _)
   | (with_reducible exact ih5 _ _ _ _ _ _ _ _ _ _ _ _ _)
   | (with_reducible exact spec_l8Edge.mono _ _ _ _)
   | (with_reducible exact spec_l8Face.mono _ _ _ _)
   | (with_reducible exact LeO.refl _)
   | (with_reducible exact LeO.none _)
   | (with_reducible refine LeO.ite ?_ ?_)
   | (with_reducible refine LeO.bind ?_ (fun _ => ?_))
   | exact ih0 _ _ _
   | exact ih1 _ _ _ _ _
   | exact ih2 _ _ _ _ _ _ _ _ _ _
   | exact ih3 _ _ _ _ _
   | exact ih4 _ _ _ _ _ _ _ _ _
   | exact ih5 _ _ _ _ _ _ _ _ _ _ _ _ _
   | exact spec_l8Edge.mono _ _ _ _
   | exact spec_l8Face.mono _ _ _ _
   | exact LeO.none _
   | refine LeO.ite ?_ ?_
   | refine LeO.bind ?_ (fun _ => ?_)
  ·intro y0 y1 y2 y3 y4 y5 y6 y7 y8
   unfold spec_GoodGround.l3
   repeat' first
   | (with_reducible exact ih0 _ _ _)
   | (with_reducible exact ih1 _ _ _ _ _)
   | (with_reducible exact ih2 _ _ _ _ _ _ _ _ _ _)
   | (with_reducible exact ih3 _ _ _ _ _)
   | (with_reducible exact ih4 _ _ _ _ _ _ _ _ _)
   | (with_reducible exact ih5 _ _ _ _ _ _ _ _ _ _ _ _ _)
   | (with_reducible exact spec_l8Edge.mono _ _ _ _)
   | (with_reducible exact spec_l8Face.mono _ _ _ _)
   | (with_reducible exact LeO.refl _)
   | (with_reducible exact LeO.none _)
   | (with_reducible refine LeO.ite ?_ ?_)
   | (with_reducible refine LeO.bind ?_ (fun _ => ?_))
   | exact ih0 _ _ _
   | exact ih1 _ _ _ _ _
   | exact ih2 _ _ _ _ _ _ _ _ _ _
   | exact ih3 _ _ _ _ _
   | exact ih4 _ _ _ _ _ _ _ _ _
   | exact ih5 _ _ _ _ _ _ _ _ _ _ _ _ _
   | exact spec_l8Edge.mono _ _ _ _
   | exact spec_l8Face.mono _ _ _ _
   | exact LeO.none _
   | refine LeO.ite ?_ ?_
   | refine LeO.bind ?_ (fun _ => ?_)
  ·intro y0 y1 y2 y3 y4 y5 y6 y7 y8 y9 y10 y11 y12
   unfold spec_GoodGround.l4
   repeat' first
   | (with_reducible exact ih0 _ _ _)
   | (with_reducible exact ih1 _ _ _ _ _)
   | (with_reducible exact ih2 _ _ _ _ _ _ _ _ _ _)
   | (with_reducible exact ih3 _ _ _ _ _)
   | (with_reducible exact ih4 _ _ _ _ _ _ _ _ _)
   | (with_reducible exact ih5 _ _ _ _ _ _ _ _ _ _ _ _ _)
   | (with_reducible exact spec_l8Edge.mono _ _ _ _)
   | (with_reducible exact spec_l8Face.mono _ _ _ _)
   | (with_reducible exact LeO.refl _)
   | (with_reducible exact LeO.none _)
   | (with_reducible refine LeO.ite ?_ ?_)
   | (with_reducible refine LeO.bind ?_ (fun _ => ?_))
   | exact ih0 _ _ _
   | exact ih1 _ _ _ _ _
   | exact ih2 _ _ _ _ _ _ _ _ _ _
   | exact ih3 _ _ _ _ _
   | exact ih4 _ _ _ _ _ _ _ _ _
   | exact ih5 _ _ _ _ _ _ _ _ _ _ _ _ _
   | exact spec_l8Edge.mono _ _ _ _
   | exact spec_l8Face.mono _ _ _ _
   | exact LeO.none _
   | refine LeO.ite ?_ ?_
   | refine LeO.bind ?_ (fun _ => ?_)
theorem spec_GoodGround.mono : ∀ a0 a1 k, LeO (spec_GoodGround.f k a0 a1) (spec_GoodGround.f (k + 1) a0 a1) := by
 intro a0 a1 k
 obtain ⟨ih0, ih1, ih2, ih3, ih4, ih5⟩ := spec_GoodGround.mono_l k
 unfold spec_GoodGround.f
 repeat' first
   | (with_reducible exact ih0 _ _ _)
   | (with_reducible exact ih1 _ _ _ _ _)
   | (with_reducible exact ih2 _ _ _ _ _ _ _ _ _ _)
   | (with_reducible exact ih3 _ _ _ _ _)
   | (with_reducible exact ih4 _ _ _ _ _ _ _ _ _)
   | (with_reducible exact ih5 _ _ _ _ _ _ _ _ _ _ _ _ _)
   | (with_reducible exact spec_l8Edge.mono _ _ _ _)
   | (with_reducible exact spec_l8Face.mono _ _ _ _)
   | (with_reducible exact LeO.refl _)
   | (with_reducible exact LeO.none _)
   | (with_reducible refine LeO.ite ?_ ?_)
   | (with_reducible refine LeO.bind ?_ (fun _ => ?_))
   | exact ih0 _ _ _
   | exact ih1 _ _ _ _ _
   | exact ih2 _ _ _ _ _ _ _ _ _ _
   | exact ih3 _ _ _ _ _
   | exact ih4 _ _ _ _ _ _ _ _ _
   | exact ih5 _ _ _ _ _ _ _ _ _ _ _ _ _
   | exact spec_l8Edge.mono _ _ _ _
   | exact spec_l8Face.mono _ _ _ _
   | exact LeO.none _
   | refine LeO.ite ?_ ?_
   | refine LeO.bind ?_ (fun _ => ?_)
set_option maxHeartbeats 8000000 in
set_option maxRecDepth 100000 in
theorem spec_GoodGround.calls (k : Nat) (A0_0 : Option Addr) (c0_0 : Nat) (l0_0 : List (S54)) (A0_1 : Option Addr) (c0_1 : Nat) (l0_1 : List (List Int)) (r : Bool) (w : World) (hr0_0 : Kd.C k54 w A0_0 l0_0.length l0_0) (hc0_0 : l0_0.length ≤ c0_0) (hr0_1 : Kd.C (Kd.slice 3 (Kd.int .i64)) w A0_1 l0_1.length l0_1) (hc0_1 : l0_1.length ≤ c0_1) (h : spec_GoodGround.f k l0_0 l0_1 = some r) :
  Calls Try.prog 10 #[.agg #[.slice A0_0 l0_0.length c0_0, .slice A0_1 l0_1.length c0_1]] w fun e w' => e = .returned (.bool r) ∧ Below w.heap.size w w' := by
 have hu30 := Try.underlying30
 have hu54 := Try.underlying54
 have HR0_0 := Aside0.mk hr0_0
 have HC0_0 := Aside0.mk hc0_0
 clear hr0_0 hc0_0
 have HR0_1 := Aside0.mk hr0_1
 have HC0_1 := Aside0.mk hc0_1
 clear hr0_1 hc0_1
 have HB := Aside0.mk (Below.refl w.heap.size w)
 have H : (if (l0_0.length : Int) > 40 then (spec_GoodGround.j0 k true l0_0 l0_1) else (if (l0_1.length : Int) < 1 then (spec_GoodGround.j0 k true l0_0 l0_1) else (spec_GoodGround.j0 k (decide ((l0_1.length : Int) > 20)) l0_0 l0_1))) = some r := h
 clear h
 have HC2 := Aside0.mk H
 clear H
 go_enter Try.func10, Try.ntmps10
 go_upto_region 1 with (first | ((with_reducible refine gate_dst (N := 1) rfl ?_); (try (refine gate_guard (by rfl) ?_; dsimp only)); refine box_event ?hg (N := 1) ?hd (cs := #[.slice A0_0 l0_0.length c0_0, .slice A0_1 l0_1.length c0_1]) (t := 30) ?hr ?_; (case hd => rfl); (case hg => rfl); (case hr => first | (go_simp; done) | (go_simp; rfl)); intro gb175 hg w3 hbox hb; have n0_ := Aside0.mk (below_step blw hb); have n1_ := Aside0.mk (hbox); have n2_ := Aside0.mk ((by rw [hg]; exact (below_size blw) : w.heap.size ≤ gb175)); have n3_ := Aside0.mk ((by rw [hg]; exact (below_size blw) : w.heap.size ≤ gb175)); clear HB; have HB := n0_; have BK175 := n1_; have GW175 := n2_; have GE175 := n3_; clear n0_ n1_ n2_ n3_; clear hb hbox hg))
 (try simp only [Act.put, List.setIfInBounds_toArray, List.set_cons_zero, List.set_cons_succ])
 go_cut [28] (fun v28 wc => ∃ (kq : Nat) (x28_1 : Bool), v28 = .bool x28_1 ∧ Aside0 (spec_GoodGround.j0 kq x28_1 l0_0 l0_1 = some r) ∧ Aside0 (kq ≤ k) ∧ Aside0 (wc.heap[gb175]? = some (.cells #[(.slice A0_0 l0_0.length c0_0), (.slice A0_1 l0_1.length c0_1)] 30 (0, 0))) ∧ Aside0 (Below w.heap.size w wc))
 case first =>
  have H := HC2.out
  clear HC2
  by_cases c4 : (l0_0.length : Int) > 40
  ·rw [if_pos c4] at H
   have c4b0 : decide (40 < (l0_0.length : Int)) = true := decide_eq_true c4
   have c4b1 : decide (40 < l0_0.length) = true := decide_eq_true (by omega)
   clear c4
   (first | rw [c4b0] | (simp only [i64_w, i32_w]; rw [c4b0]) | skip)
   have H' := Aside0.mk H
   clear H
   have hcz5_0 : w3.cell? ⟨gb175, 0, none⟩ = some (.slice A0_0 l0_0.length c0_0) := (blk_cell BK175.out 0).trans rfl
   have hcz5_1 : w3.cell? ⟨gb175, 1, none⟩ = some (.slice A0_1 l0_1.length c0_1) := (blk_cell BK175.out 1).trans rfl
   have hfz5_0 := blk_frozen BK175.out 0
   have hfz5_1 := blk_frozen BK175.out 1
   go_wp2
   go_meet
   case rel => exact ⟨_, (true), (by first | rfl | (simp; done) | (simp [*]; done)), H', ⟨by first | omega | exact Nat.le_refl _⟩, ⟨by (with_reducible repeat (first | refine blk_drewN ?_ _ | refine blk_drew ?_ | refine blk_alloc ?_ _)); exact BK175.out⟩, ⟨blw⟩⟩
  ·rw [if_neg c4] at H
   have c4b0 : decide (40 < (l0_0.length : Int)) = false := decide_eq_false c4
   have c4b1 : decide (40 < l0_0.length) = false := decide_eq_false (by omega)
   clear c4
   (first | rw [c4b0] | (simp only [i64_w, i32_w]; rw [c4b0]) | skip)
   by_cases c6 : (l0_1.length : Int) < 1
   ·rw [if_pos c6] at H
    have c6b0 : decide ((l0_1.length : Int) < 1) = true := decide_eq_true c6
    have c6b1 : decide (l0_1.length < 1) = true := decide_eq_true (by omega)
    clear c6
    have H' := Aside0.mk H
    clear H
    have hcz7_0 : w3.cell? ⟨gb175, 0, none⟩ = some (.slice A0_0 l0_0.length c0_0) := (blk_cell BK175.out 0).trans rfl
    have hcz7_1 : w3.cell? ⟨gb175, 1, none⟩ = some (.slice A0_1 l0_1.length c0_1) := (blk_cell BK175.out 1).trans rfl
    have hfz7_0 := blk_frozen BK175.out 0
    have hfz7_1 := blk_frozen BK175.out 1
    go_wp2
    go_meet
    case rel => exact ⟨_, (true), (by first | rfl | (simp; done) | (simp [*]; done)), H', ⟨by first | omega | exact Nat.le_refl _⟩, ⟨by (with_reducible repeat (first | refine blk_drewN ?_ _ | refine blk_drew ?_ | refine blk_alloc ?_ _)); exact BK175.out⟩, ⟨blw⟩⟩
   ·rw [if_neg c6] at H
    have c6b0 : decide ((l0_1.length : Int) < 1) = false := decide_eq_false c6
    have c6b1 : decide (l0_1.length < 1) = false := decide_eq_false (by omega)
    clear c6
    have H' := Aside0.mk H
    clear H
    have hcz8_0 : w3.cell? ⟨gb175, 0, none⟩ = some (.slice A0_0 l0_0.length c0_0) := (blk_cell BK175.out 0).trans rfl
    have hcz8_1 : w3.cell? ⟨gb175, 1, none⟩ = some (.slice A0_1 l0_1.length c0_1) := (blk_cell BK175.out 1).trans rfl
    have hfz8_0 := blk_frozen BK175.out 0
    have hfz8_1 := blk_frozen BK175.out 1
    go_wp2
    go_meet
    case rel => exact ⟨_, (decide ((l0_1.length : Int) > 20)), (by first | rfl | (simp; done) | (simp [*]; done)), H', ⟨by first | omega | exact Nat.le_refl _⟩, ⟨by (with_reducible repeat (first | refine blk_drewN ?_ _ | refine blk_drew ?_ | refine blk_alloc ?_ _)); exact BK175.out⟩, ⟨blw⟩⟩
 case rest =>
  clear HC2
  try clear c1
  try clear p2
  try clear c4
  try clear c4b0
  try clear c4b1
  try clear c6
  try clear c6b0
  try clear c6b1
  try clear hcz5_0
  try clear hcz5_1
  try clear hcz7_0
  try clear hcz7_1
  try clear hcz8_0
  try clear hcz8_1
  try clear hfz5_0
  try clear hfz5_1
  try clear hfz7_0
  try clear hfz7_1
  try clear hfz8_0
  try clear hfz8_1
  obtain ⟨kq, x28_1, rfl, HA, HJ1, BK175, HB⟩ := hcut
  cases kq with
  | zero => exact absurd HA.out (by simp [spec_GoodGround.j0])
  | succ kj1 =>
   have H := HA.out
   clear HA
   simp only [spec_GoodGround.j0] at H
   by_cases c9 : x28_1 = true
   ·subst c9
    have H1 : (some false) = some r := by rw [if_pos rfl] at H; exact H
    clear H
    have H := H1
    clear H1
    obtain rfl := Option.some.inj H
    go_wp2
    go_ret
    exact ⟨by first | rfl | (simp [errW_none, errW_some] <;> rfl) | (simp [*, errW_none, errW_some] <;> rfl), blw⟩
   ·replace c9 := Bool.eq_false_iff.mpr c9
    subst c9
    have H1 : (spec_GoodGround.l0 kj1 l0_0 (l0_0.length : Int) 0 l0_0 l0_1) = some r := by rw [if_neg (show ¬ (false = true) by decide)] at H; exact H
    clear H
    have H := H1
    clear H1
    have H' := Aside0.mk H
    clear H
    have hcz10_0 : wc.cell? ⟨gb175, 0, none⟩ = some (.slice A0_0 l0_0.length c0_0) := (blk_cell BK175.out 0).trans rfl
    have hcz10_1 : wc.cell? ⟨gb175, 1, none⟩ = some (.slice A0_1 l0_1.length c0_1) := (blk_cell BK175.out 1).trans rfl
    have hfz10_0 := blk_frozen BK175.out 0
    have hfz10_1 := blk_frozen BK175.out 1
    go_wp2
    go_loopg [32] kj1 (fun kq v32 w' => ∃ (x32_2 : Int), v32 = .int .i64 x32_2 ∧ Aside0 (spec_GoodGround.l0 kq l0_0 (l0_0.length : Int) x32_2 l0_0 l0_1 = some r) ∧ Aside0 (kq ≤ kj1) ∧ Aside0 (w'.heap[gb175]? = some (.cells #[(.slice A0_0 l0_0.length c0_0), (.slice A0_1 l0_1.length c0_1)] 30 (0, 0))) ∧ Aside0 (Below w.heap.size w w'))
    case atStart => exact ⟨(0), (by first | rfl | (simp; done) | (simp [*]; done)), H', ⟨Nat.le_refl _⟩, ⟨by (with_reducible repeat (first | refine blk_drewN ?_ _ | refine blk_drew ?_ | refine blk_alloc ?_ _)); exact BK175.out⟩, ⟨blw⟩⟩
    case round =>
     clear H'
     try clear c1
     try clear p2
     try clear c4
     try clear c4b0
     try clear c4b1
     try clear c6
     try clear c6b0
     try clear c6b1
     try clear c9
     try clear c10
     try clear hcz10_0
     try clear hcz10_1
     try clear hcz5_0
     try clear hcz5_1
     try clear hcz7_0
     try clear hcz7_1
     try clear hcz8_0
     try clear hcz8_1
     try clear hfz10_0
     try clear hfz10_1
     try clear hfz5_0
     try clear hfz5_1
     try clear hfz7_0
     try clear hfz7_1
     try clear hfz8_0
     try clear hfz8_1
     try clear p2
     obtain ⟨x32_2, rfl, HA, HK2, BK175, HB⟩ := hrel
     cases gk with
     | zero => exact absurd HA.out (by simp [spec_GoodGround.l0])
     | succ k2 =>
      have H := HA.out
      clear HA
      simp only [spec_GoodGround.l0] at H
      by_cases c11 : x32_2 < (l0_0.length : Int)
      ·rw [if_pos c11] at H
       have c11b0 : decide (x32_2 < (l0_0.length : Int)) = true := decide_eq_true c11
       clear c11
       by_cases c12 : 0 ≤ x32_2
       ·rw [if_pos c12] at H
        have c12b0 : decide (0 ≤ x32_2) = true := decide_eq_true c12
        clear c12
        by_cases c13 : x32_2 < (l0_0.length : Int)
        ·rw [if_pos c13] at H
         have c13b0 : decide (x32_2 < (l0_0.length : Int)) = true := decide_eq_true c13
         clear c13
         replace H := Option.bind_eq_some_iff.mp H
         obtain ⟨t178, A140, H⟩ := H
         replace H : (if t178 = true then (if x32_2 ≤ (l0_0.length : Int) then ((some (l0_0.take (x32_2 : Int).toNat : List (S54))).bind fun y179 => (spec_GoodGround.l1 k2 l0_0 (l0_0.length : Int) x32_2 y179 (y179.length : Int) 0 l0_0 l0_1 ((rd_T54 l0_0 x32_2).f0) ((rd_T54 l0_0 x32_2).f1))) else (none)) else (some false)) = some r := H
         have A14 := Aside0.mk A140
         clear A140
         by_cases c15 : t178 = true
         ·subst c15
          have H1 : (if x32_2 ≤ (l0_0.length : Int) then ((some (l0_0.take (x32_2 : Int).toNat : List (S54))).bind fun y179 => (spec_GoodGround.l1 k2 l0_0 (l0_0.length : Int) x32_2 y179 (y179.length : Int) 0 l0_0 l0_1 ((rd_T54 l0_0 x32_2).f0) ((rd_T54 l0_0 x32_2).f1))) else (none)) = some r := by rw [if_pos rfl] at H; exact H
          clear H
          have H := H1
          clear H1
          have c16b0 := eq_true (odt : 0 ≤ x32_2)
          by_cases c17 : x32_2 ≤ (l0_0.length : Int)
          ·rw [if_pos c17] at H
           have c17b0 := eq_true c17
           have c17b1 : decide (x32_2 ≤ (l0_0.length : Int)) = true := decide_eq_true c17
           clear c17
           obtain ⟨y179, hy179⟩ : ∃ y_ : List (S54), y_ = (l0_0.take (x32_2 : Int).toNat) := ⟨_, rfl⟩
           replace H : (spec_GoodGround.l1 k2 l0_0 (l0_0.length : Int) x32_2 y179 (y179.length : Int) 0 l0_0 l0_1 ((rd_T54 l0_0 x32_2).f0) ((rd_T54 l0_0 x32_2).f1)) = some r := by first | (rw [hy179]; with_reducible exact H) | (have H2_ := (Option.bind_some _ _).symm.trans H; rw [hy179]; with_reducible exact H2_) | (have H2_ := (Option.bind_some _ _).symm.trans H; with_reducible exact H2_) | with_reducible exact H | (rw [hy179]; exact H) | exact H
           have Ny179 := Aside0.mk hy179
           clear hy179
           have H' := Aside0.mk H
           clear H
           have p176 : 0 ≤ (x32_2 : Int) := odt
           have q176 : x32_2 < (l0_0.length : Int) := odt
           obtain ⟨ad176, e176, hx176_0, hx176_1⟩ := at_T54 HR0_0.out x32_2 p176 q176
           cases e176
           replace hx176_0 := (HB.out.cell (World.block_lt_of_cell? w _ hx176_0)).trans hx176_0
           replace hx176_1 := (HB.out.cell (World.block_lt_of_cell? w _ hx176_1)).trans hx176_1
           replace p176 := eq_true p176
           replace q176 := eq_true q176
           go_wp2_with (first | ((with_reducible refine gate_dst (N := 4) rfl ?_); (try (refine gate_guard (by rfl) ?_; dsimp only)); refine box_event ?hg (N := 4) ?hd (cs := #[.int .i64 0, .int .i64 0]) (t := 54) ?hr ?_; (case hd => rfl); (case hg => rfl); (case hr => first | (go_simp; done) | (go_simp; rfl)); intro gb177 hg w18 hbox hb; have n0_ := Aside0.mk (blk_below (g := gb175) (o := .cells #[.slice (some ad176) l0_0.length c0_0, .slice A0_1 l0_1.length c0_1] 30 (0, 0)) bkw hb); have n1_ := Aside0.mk (below_step blw hb); have n2_ := Aside0.mk (hbox); have n3_ := Aside0.mk ((by rw [hg]; exact (below_size blw) : w.heap.size ≤ gb177)); have n4_ := Aside0.mk ((by rw [hg]; exact (below_size blw) : w.heap.size ≤ gb177)); have n5_ := Aside0.mk ((by rw [hg]; exact Nat.ne_of_lt (blk_lt (g := gb175) (o := .cells #[.slice (some ad176) l0_0.length c0_0, .slice A0_1 l0_1.length c0_1] 30 (0, 0)) bkw) : gb175 ≠ gb177)); have n6_ := Aside0.mk ((by rw [hg]; exact Nat.ne_of_gt (blk_lt (g := gb175) (o := .cells #[.slice (some ad176) l0_0.length c0_0, .slice A0_1 l0_1.length c0_1] 30 (0, 0)) bkw) : gb177 ≠ gb175)); clear BK175; clear HB; have BK175 := n0_; have HB := n1_; have BK177 := n2_; have GW177 := n3_; have GE177 := n4_; have NB175_177 := n5_; have NB177_175 := n6_; clear n0_ n1_ n2_ n3_ n4_ n5_ n6_; clear hb hbox hg; have hnb19 := NB177_175.out; have hnc19 := NB175_177.out; have hcz20_0 : w18.cell? ⟨gb177, 0, none⟩ = some (.int .i64 0) := (blk_cell BK177.out 0).trans rfl; have hcz20_1 : w18.cell? ⟨gb177, 1, none⟩ = some (.int .i64 0) := (blk_cell BK177.out 1).trans rfl; have hfz20_0 := blk_frozen BK177.out 0; have hfz20_1 := blk_frozen BK177.out 1) | ((with_reducible refine gate_callee (f := 38) rfl ?_); refine goesL_ (some 38) rfl rfl Try.func38 (by kernel_rfl) rfl #[.agg #[.int .i64 ((rd_T54 l0_0 x32_2).f0), .int .i64 ((rd_T54 l0_0 x32_2).f1)]] rfl (by (try simp only [List.map_toArray, List.map_cons, List.map_nil]); first | done | rfl | (simp only [List.length_drop, List.length_take]; rfl)) ?_; (with_reducible refine (spec_l8Place.calls ((rd_T54 l0_0 x32_2).f0) ((rd_T54 l0_0 x32_2).f1) true _ A14.out).mono ?_); rintro e w21 ⟨rfl, hb⟩; refine ⟨_, rfl, ?_⟩; have n0_ := Aside0.mk (blk_below (g := gb175) (o := .cells #[.slice (some ad176) l0_0.length c0_0, .slice A0_1 l0_1.length c0_1] 30 (0, 0)) (by (with_reducible repeat (first | refine blk_drewN ?_ _ | refine blk_drew ?_ | refine blk_alloc ?_ _)); refine blk_far ?_ NB175_177.out _; (with_reducible repeat (first | refine blk_drewN ?_ _ | refine blk_drew ?_ | refine blk_alloc ?_ _)); refine blk_far ?_ NB175_177.out _; (with_reducible repeat (first | refine blk_drewN ?_ _ | refine blk_drew ?_ | refine blk_alloc ?_ _)); exact BK175.out) hb); have n1_ := Aside0.mk (blk_below (g := gb177) (o := .cells #[.int .i64 ((rd_T54 l0_0 x32_2).f0), .int .i64 ((rd_T54 l0_0 x32_2).f1)] 54 (0, 0)) (by (with_reducible repeat (first | refine blk_drewN ?_ _ | refine blk_drew ?_ | refine blk_alloc ?_ _)); refine blk_put (cs := #[.int .i64 ((rd_T54 l0_0 x32_2).f0), .int .i64 0]) ?_ 1 _ rfl; (with_reducible repeat (first | refine blk_drewN ?_ _ | refine blk_drew ?_ | refine blk_alloc ?_ _)); refine blk_put (cs := #[.int .i64 0, .int .i64 0]) ?_ 0 _ rfl; (with_reducible repeat (first | refine blk_drewN ?_ _ | refine blk_drew ?_ | refine blk_alloc ?_ _)); exact BK177.out) hb); have n2_ := Aside0.mk (below_step blw hb); clear BK175; clear BK177; clear HB; have BK175 := n0_; have BK177 := n1_; have HB := n2_; clear n0_ n1_ n2_; (try clear hb); (try clear hb2); (try clear hk); (try clear hi); have hcz22_0 : w21.cell? ⟨gb175, 0, none⟩ = some (.slice (some ad176) l0_0.length c0_0) := (blk_cell BK175.out 0).trans rfl; have hcz22_1 : w21.cell? ⟨gb175, 1, none⟩ = some (.slice A0_1 l0_1.length c0_1) := (blk_cell BK175.out 1).trans rfl; have hfz22_0 := blk_frozen BK175.out 0; have hfz22_1 := blk_frozen BK175.out 1; have q23 : (x32_2 : Int) ≤ ((l0_0.length : Int) : Int) := odt; obtain ⟨i023, hi023, _, hsz23, _⟩ := info_parts info54; have hroom23 : l0_0.length ≤ c0_0 := HC0_0.out; have hC23 : Kd.C k54 _ (some ad176) l0_0.length l0_0 := HR0_0.out; have hcut23 := cut_to (P := Try.prog) 28 54 .i64 Try.underlying28 hi023 (some ad176) l0_0.length c0_0 x32_2 odt q23 hroom23; have hr23 := Kd.C_take (m := (x32_2 : Int).toNat) hC23 (by omega); have hy23 : y179.length = (x32_2 : Int).toNat := (by rw [Ny179.out, List.length_take]; omega); rw [← Ny179.out] at hr23; rw [← hy23] at hcut23; have HR182 := Aside0.mk hr23; have HC182 := Aside0.mk (show y179.length ≤ c0_0 from by omega); clear hr23 hC23 hroom23 hi023 hsz23; have KY23 := Aside0.mk hy23; clear hy23; replace q23 := eq_true q23))
           go_loopg [45] k2 (fun kq v45 w' => ∃ (x45_3 : Int), v45 = .int .i64 x45_3 ∧ Aside0 (spec_GoodGround.l1 kq l0_0 (l0_0.length : Int) x32_2 y179 (y179.length : Int) x45_3 l0_0 l0_1 ((rd_T54 l0_0 x32_2).f0) ((rd_T54 l0_0 x32_2).f1) = some r) ∧ Aside0 (kq ≤ k2) ∧ Aside0 (w'.heap[gb175]? = some (.cells #[(.slice (some ad176) l0_0.length c0_0), (.slice A0_1 l0_1.length c0_1)] 30 (0, 0))) ∧ Aside0 (w'.heap[gb177]? = some (.cells #[.int .i64 ((rd_T54 l0_0 x32_2).f0), .int .i64 ((rd_T54 l0_0 x32_2).f1)] 54 (0, 0))) ∧ Aside0 (Below w.heap.size w w'))
           case atStart => exact ⟨(0), (by first | rfl | (simp; done) | (simp [*]; done)), H', ⟨Nat.le_refl _⟩, ⟨by (with_reducible repeat (first | refine blk_drewN ?_ _ | refine blk_drew ?_ | refine blk_alloc ?_ _)); exact BK175.out⟩, ⟨by (with_reducible repeat (first | refine blk_drewN ?_ _ | refine blk_drew ?_ | refine blk_alloc ?_ _)); exact BK177.out⟩, ⟨blw⟩⟩
           case round =>
            clear H'
            try clear c1
            try clear p1
            try clear q1
            try clear hx1
            try clear p2
            try clear q2
            try clear c3
            try clear c4
            try clear c4b0
            try clear c4b1
            try clear c6
            try clear c6b0
            try clear c6b1
            try clear c9
            try clear c10
            try clear c11
            try clear c11b0
            try clear c12
            try clear c12b0
            try clear c13
            try clear c13b0
            try clear c15
            try clear c16
            try clear c16b0
            try clear c17
            try clear c17b0
            try clear c17b1
            try clear p17
            try clear q17
            try clear hx17
            try clear c19
            try clear q23
            try clear hcz10_0
            try clear hcz10_1
            try clear hcz20_0
            try clear hcz20_1
            try clear hcz22_0
            try clear hcz22_1
            try clear hcz5_0
            try clear hcz5_1
            try clear hcz7_0
            try clear hcz7_1
            try clear hcz8_0
            try clear hcz8_1
            try clear hfz10_0
            try clear hfz10_1
            try clear hfz20_0
            try clear hfz20_1
            try clear hfz22_0
            try clear hfz22_1
            try clear hfz5_0
            try clear hfz5_1
            try clear hfz7_0
            try clear hfz7_1
            try clear hfz8_0
            try clear hfz8_1
            try clear hx176_0
            try clear hx176_1
            try clear p176
            try clear p2
            try clear q176
            try clear q23
            obtain ⟨x45_3, rfl, HA, HK3, BK175, BK177, HB⟩ := hrel
            cases gk with
            | zero => exact absurd HA.out (by simp [spec_GoodGround.l1])
            | succ k3 =>
             have H := HA.out
             clear HA
             simp only [spec_GoodGround.l1] at H
             by_cases c24 : x45_3 < (y179.length : Int)
             ·rw [if_pos c24] at H
              have c24b0 : decide (x45_3 < (y179.length : Int)) = true := decide_eq_true c24
              clear c24
              by_cases c25 : 0 ≤ x45_3
              ·rw [if_pos c25] at H
               have c25b0 : decide (0 ≤ x45_3) = true := decide_eq_true c25
               clear c25
               by_cases c26 : x45_3 < (y179.length : Int)
               ·rw [if_pos c26] at H
                have c26b0 : decide (x45_3 < (y179.length : Int)) = true := decide_eq_true c26
                clear c26
                by_cases c27 : (((rd_T54 l0_0 x32_2).f0) == ((rd_T54 y179 x45_3).f0) && (((rd_T54 l0_0 x32_2).f1) == ((rd_T54 y179 x45_3).f1))) = true
                ·rw [if_pos c27] at H
                 have c27b0 : (((rd_T54 l0_0 x32_2).f0) == ((rd_T54 y179 x45_3).f0) && (((rd_T54 l0_0 x32_2).f1) == ((rd_T54 y179 x45_3).f1))) = true := c27
                 (try (have c27b1 : decide (((rd_T54 l0_0 x32_2).f0) = ((rd_T54 y179 x45_3).f0) && (((rd_T54 l0_0 x32_2).f1) == ((rd_T54 y179 x45_3).f1))) = true := by simpa using c27))
                 (try (have c27b2 : (((rd_T54 l0_0 x32_2).f0) == ((rd_T54 y179 x45_3).f0) && (((rd_T54 l0_0 x32_2).f1) == ((rd_T54 y179 x45_3).f1))) = true := by simpa using c27))
                 clear c27
                 obtain rfl := Option.some.inj H
                 have p183 : 0 ≤ (x45_3 : Int) := odt
                 have q183 : x45_3 < (y179.length : Int) := odt
                 obtain ⟨ad183, e183, hx183_0, hx183_1⟩ := at_T54 HR182.out x45_3 p183 q183
                 obtain rfl : ad176 = ad183 := (by injection e183)
                 replace hx183_0 := (HB.out.cell (World.block_lt_of_cell? w _ hx183_0)).trans hx183_0
                 replace hx183_1 := (HB.out.cell (World.block_lt_of_cell? w _ hx183_1)).trans hx183_1
                 replace p183 := eq_true p183
                 replace q183 := eq_true q183
                 go_wp2_with (first | ((with_reducible refine gate_dst (N := 6) rfl ?_); (try (refine gate_guard (by rfl) ?_; dsimp only)); refine box_event ?hg (N := 6) ?hd (cs := #[.int .i64 0, .int .i64 0]) (t := 54) ?hr ?_; (case hd => rfl); (case hg => rfl); (case hr => first | (go_simp; done) | (go_simp; rfl)); intro gb184 hg w28 hbox hb; have n0_ := Aside0.mk (blk_below (g := gb175) (o := .cells #[.slice (some ad176) l0_0.length c0_0, .slice A0_1 l0_1.length c0_1] 30 (0, 0)) bkw hb); have n1_ := Aside0.mk (blk_below (g := gb177) (o := .cells #[.int .i64 ((rd_T54 l0_0 x32_2).f0), .int .i64 ((rd_T54 l0_0 x32_2).f1)] 54 (0, 0)) bkw hb); have n2_ := Aside0.mk (below_step blw hb); have n3_ := Aside0.mk (hbox); have n4_ := Aside0.mk ((by rw [hg]; exact (below_size blw) : w.heap.size ≤ gb184)); have n5_ := Aside0.mk ((by rw [hg]; exact (below_size blw) : w.heap.size ≤ gb184)); have n6_ := Aside0.mk ((by rw [hg]; exact Nat.ne_of_lt (blk_lt (g := gb175) (o := .cells #[.slice (some ad176) l0_0.length c0_0, .slice A0_1 l0_1.length c0_1] 30 (0, 0)) bkw) : gb175 ≠ gb184)); have n7_ := Aside0.mk ((by rw [hg]; exact Nat.ne_of_gt (blk_lt (g := gb175) (o := .cells #[.slice (some ad176) l0_0.length c0_0, .slice A0_1 l0_1.length c0_1] 30 (0, 0)) bkw) : gb184 ≠ gb175)); have n8_ := Aside0.mk ((by rw [hg]; exact Nat.ne_of_lt (blk_lt (g := gb177) (o := .cells #[.int .i64 ((rd_T54 l0_0 x32_2).f0), .int .i64 ((rd_T54 l0_0 x32_2).f1)] 54 (0, 0)) bkw) : gb177 ≠ gb184)); have n9_ := Aside0.mk ((by rw [hg]; exact Nat.ne_of_gt (blk_lt (g := gb177) (o := .cells #[.int .i64 ((rd_T54 l0_0 x32_2).f0), .int .i64 ((rd_T54 l0_0 x32_2).f1)] 54 (0, 0)) bkw) : gb184 ≠ gb177)); clear BK175; clear BK177; clear HB; have BK175 := n0_; have BK177 := n1_; have HB := n2_; have BK184 := n3_; have GW184 := n4_; have GE184 := n5_; have NB175_184 := n6_; have NB184_175 := n7_; have NB177_184 := n8_; have NB184_177 := n9_; clear n0_ n1_ n2_ n3_ n4_ n5_ n6_ n7_ n8_ n9_; clear hb hbox hg; have hnb29 := NB184_175.out; have hnc29 := NB175_184.out; have hnb30 := NB184_177.out; have hnc30 := NB177_184.out; have hcz31_0 : w28.cell? ⟨gb184, 0, none⟩ = some (.int .i64 0) := (blk_cell BK184.out 0).trans rfl; have hcz31_1 : w28.cell? ⟨gb184, 1, none⟩ = some (.int .i64 0) := (blk_cell BK184.out 1).trans rfl; have hfz31_0 := blk_frozen BK184.out 0; have hfz31_1 := blk_frozen BK184.out 1; have hnb32 := NB177_175.out; have hnc32 := NB175_177.out; have hcz33_0 : w28.cell? ⟨gb177, 0, none⟩ = some (.int .i64 ((rd_T54 l0_0 x32_2).f0)) := (blk_cell BK177.out 0).trans rfl; have hcz33_1 : w28.cell? ⟨gb177, 1, none⟩ = some (.int .i64 ((rd_T54 l0_0 x32_2).f1)) := (blk_cell BK177.out 1).trans rfl; have hfz33_0 := blk_frozen BK177.out 0; have hfz33_1 := blk_frozen BK177.out 1))
                 go_ret
                 exact ⟨by first | rfl | (simp [errW_none, errW_some] <;> rfl) | (simp [*, errW_none, errW_some] <;> rfl), blw⟩
                ·rw [if_neg c27] at H
                 have c27b0 : (((rd_T54 l0_0 x32_2).f0) == ((rd_T54 y179 x45_3).f0) && (((rd_T54 l0_0 x32_2).f1) == ((rd_T54 y179 x45_3).f1))) = false := by simpa using c27
                 (try (have c27b1 : decide (((rd_T54 l0_0 x32_2).f0) = ((rd_T54 y179 x45_3).f0) && (((rd_T54 l0_0 x32_2).f1) == ((rd_T54 y179 x45_3).f1))) = false := by simpa using c27))
                 (try (have c27b2 : (((rd_T54 l0_0 x32_2).f0) == ((rd_T54 y179 x45_3).f0) && (((rd_T54 l0_0 x32_2).f1) == ((rd_T54 y179 x45_3).f1))) = false := by simpa using c27))
                 (try (have c27b3 : ¬ (((rd_T54 l0_0 x32_2).f0) = ((rd_T54 y179 x45_3).f0) && (((rd_T54 l0_0 x32_2).f1) == ((rd_T54 y179 x45_3).f1))) := by simpa using c27))
                 clear c27
                 have H' := Aside0.mk H
                 clear H
                 have p183 : 0 ≤ (x45_3 : Int) := odt
                 have q183 : x45_3 < (y179.length : Int) := odt
                 obtain ⟨ad183, e183, hx183_0, hx183_1⟩ := at_T54 HR182.out x45_3 p183 q183
                 obtain rfl : ad176 = ad183 := (by injection e183)
                 replace hx183_0 := (HB.out.cell (World.block_lt_of_cell? w _ hx183_0)).trans hx183_0
                 replace hx183_1 := (HB.out.cell (World.block_lt_of_cell? w _ hx183_1)).trans hx183_1
                 replace p183 := eq_true p183
                 replace q183 := eq_true q183
                 go_wp2_with (first | ((with_reducible refine gate_dst (N := 6) rfl ?_); (try (refine gate_guard (by rfl) ?_; dsimp only)); refine box_event ?hg (N := 6) ?hd (cs := #[.int .i64 0, .int .i64 0]) (t := 54) ?hr ?_; (case hd => rfl); (case hg => rfl); (case hr => first | (go_simp; done) | (go_simp; rfl)); intro gb184 hg w34 hbox hb; have n0_ := Aside0.mk (blk_below (g := gb175) (o := .cells #[.slice (some ad176) l0_0.length c0_0, .slice A0_1 l0_1.length c0_1] 30 (0, 0)) bkw hb); have n1_ := Aside0.mk (blk_below (g := gb177) (o := .cells #[.int .i64 ((rd_T54 l0_0 x32_2).f0), .int .i64 ((rd_T54 l0_0 x32_2).f1)] 54 (0, 0)) bkw hb); have n2_ := Aside0.mk (below_step blw hb); have n3_ := Aside0.mk (hbox); have n4_ := Aside0.mk ((by rw [hg]; exact (below_size blw) : w.heap.size ≤ gb184)); have n5_ := Aside0.mk ((by rw [hg]; exact (below_size blw) : w.heap.size ≤ gb184)); have n6_ := Aside0.mk ((by rw [hg]; exact Nat.ne_of_lt (blk_lt (g := gb175) (o := .cells #[.slice (some ad176) l0_0.length c0_0, .slice A0_1 l0_1.length c0_1] 30 (0, 0)) bkw) : gb175 ≠ gb184)); have n7_ := Aside0.mk ((by rw [hg]; exact Nat.ne_of_gt (blk_lt (g := gb175) (o := .cells #[.slice (some ad176) l0_0.length c0_0, .slice A0_1 l0_1.length c0_1] 30 (0, 0)) bkw) : gb184 ≠ gb175)); have n8_ := Aside0.mk ((by rw [hg]; exact Nat.ne_of_lt (blk_lt (g := gb177) (o := .cells #[.int .i64 ((rd_T54 l0_0 x32_2).f0), .int .i64 ((rd_T54 l0_0 x32_2).f1)] 54 (0, 0)) bkw) : gb177 ≠ gb184)); have n9_ := Aside0.mk ((by rw [hg]; exact Nat.ne_of_gt (blk_lt (g := gb177) (o := .cells #[.int .i64 ((rd_T54 l0_0 x32_2).f0), .int .i64 ((rd_T54 l0_0 x32_2).f1)] 54 (0, 0)) bkw) : gb184 ≠ gb177)); clear BK175; clear BK177; clear HB; have BK175 := n0_; have BK177 := n1_; have HB := n2_; have BK184 := n3_; have GW184 := n4_; have GE184 := n5_; have NB175_184 := n6_; have NB184_175 := n7_; have NB177_184 := n8_; have NB184_177 := n9_; clear n0_ n1_ n2_ n3_ n4_ n5_ n6_ n7_ n8_ n9_; clear hb hbox hg; have hnb35 := NB184_175.out; have hnc35 := NB175_184.out; have hnb36 := NB184_177.out; have hnc36 := NB177_184.out; have hcz37_0 : w34.cell? ⟨gb184, 0, none⟩ = some (.int .i64 0) := (blk_cell BK184.out 0).trans rfl; have hcz37_1 : w34.cell? ⟨gb184, 1, none⟩ = some (.int .i64 0) := (blk_cell BK184.out 1).trans rfl; have hfz37_0 := blk_frozen BK184.out 0; have hfz37_1 := blk_frozen BK184.out 1; have hnb38 := NB177_175.out; have hnc38 := NB175_177.out; have hcz39_0 : w34.cell? ⟨gb177, 0, none⟩ = some (.int .i64 ((rd_T54 l0_0 x32_2).f0)) := (blk_cell BK177.out 0).trans rfl; have hcz39_1 : w34.cell? ⟨gb177, 1, none⟩ = some (.int .i64 ((rd_T54 l0_0 x32_2).f1)) := (blk_cell BK177.out 1).trans rfl; have hfz39_0 := blk_frozen BK177.out 0; have hfz39_1 := blk_frozen BK177.out 1))
                 (try subst hji63)
                 go_roundg k3
                 case measure => have := HJ1.out; have := HK2.out; have := HK3.out; omega
                 case rel => exact ⟨(wrap64 (x45_3 + 1)), (by first | rfl | (simp; done) | (simp [*]; done)), H', ⟨by have := HJ1.out; have := HK2.out; have := HK3.out; omega⟩, ⟨by (with_reducible repeat (first | refine blk_drewN ?_ _ | refine blk_drew ?_ | refine blk_alloc ?_ _)); refine blk_far ?_ NB175_184.out _; (with_reducible repeat (first | refine blk_drewN ?_ _ | refine blk_drew ?_ | refine blk_alloc ?_ _)); refine blk_far ?_ NB175_184.out _; (with_reducible repeat (first | refine blk_drewN ?_ _ | refine blk_drew ?_ | refine blk_alloc ?_ _)); exact BK175.out⟩, ⟨by (with_reducible repeat (first | refine blk_drewN ?_ _ | refine blk_drew ?_ | refine blk_alloc ?_ _)); refine blk_far ?_ NB177_184.out _; (with_reducible repeat (first | refine blk_drewN ?_ _ | refine blk_drew ?_ | refine blk_alloc ?_ _)); refine blk_far ?_ NB177_184.out _; (with_reducible repeat (first | refine blk_drewN ?_ _ | refine blk_drew ?_ | refine blk_alloc ?_ _)); exact BK177.out⟩, ⟨blw⟩⟩
               ·rw [if_neg c26] at H
                exact absurd H (by simp)
              ·rw [if_neg c25] at H
               exact absurd H (by simp)
             ·rw [if_neg c24] at H
              have c24b0 : decide (x45_3 < (y179.length : Int)) = false := decide_eq_false c24
              clear c24
              have H' := Aside0.mk H
              clear H
              go_wp2
              (try subst hji63)
              go_roundg k3
              case measure => have := HJ1.out; have := HK2.out; have := HK3.out; omega
              case rel => exact ⟨(wrap64 (x32_2 + 1)), (by first | rfl | (simp; done) | (simp [*]; done)), H', ⟨by have := HJ1.out; have := HK2.out; have := HK3.out; omega⟩, ⟨by (with_reducible repeat (first | refine blk_drewN ?_ _ | refine blk_drew ?_ | refine blk_alloc ?_ _)); exact BK175.out⟩, ⟨blw⟩⟩
          ·rw [if_neg c17] at H
           exact absurd H (by simp)
         ·replace c15 := Bool.eq_false_iff.mpr c15
          subst c15
          have H1 : (some false) = some r := by rw [if_neg (show ¬ (false = true) by decide)] at H; exact H
          clear H
          have H := H1
          clear H1
          obtain rfl := Option.some.inj H
          have p176 : 0 ≤ (x32_2 : Int) := odt
          have q176 : x32_2 < (l0_0.length : Int) := odt
          obtain ⟨ad176, e176, hx176_0, hx176_1⟩ := at_T54 HR0_0.out x32_2 p176 q176
          cases e176
          replace hx176_0 := (HB.out.cell (World.block_lt_of_cell? w _ hx176_0)).trans hx176_0
          replace hx176_1 := (HB.out.cell (World.block_lt_of_cell? w _ hx176_1)).trans hx176_1
          replace p176 := eq_true p176
          replace q176 := eq_true q176
          go_wp2_with (first | ((with_reducible refine gate_dst (N := 4) rfl ?_); (try (refine gate_guard (by rfl) ?_; dsimp only)); refine box_event ?hg (N := 4) ?hd (cs := #[.int .i64 0, .int .i64 0]) (t := 54) ?hr ?_; (case hd => rfl); (case hg => rfl); (case hr => first | (go_simp; done) | (go_simp; rfl)); intro gb177 hg w40 hbox hb; have n0_ := Aside0.mk (blk_below (g := gb175) (o := .cells #[.slice (some ad176) l0_0.length c0_0, .slice A0_1 l0_1.length c0_1] 30 (0, 0)) bkw hb); have n1_ := Aside0.mk (below_step blw hb); have n2_ := Aside0.mk (hbox); have n3_ := Aside0.mk ((by rw [hg]; exact (below_size blw) : w.heap.size ≤ gb177)); have n4_ := Aside0.mk ((by rw [hg]; exact (below_size blw) : w.heap.size ≤ gb177)); have n5_ := Aside0.mk ((by rw [hg]; exact Nat.ne_of_lt (blk_lt (g := gb175) (o := .cells #[.slice (some ad176) l0_0.length c0_0, .slice A0_1 l0_1.length c0_1] 30 (0, 0)) bkw) : gb175 ≠ gb177)); have n6_ := Aside0.mk ((by rw [hg]; exact Nat.ne_of_gt (blk_lt (g := gb175) (o := .cells #[.slice (some ad176) l0_0.length c0_0, .slice A0_1 l0_1.length c0_1] 30 (0, 0)) bkw) : gb177 ≠ gb175)); clear BK175; clear HB; have BK175 := n0_; have HB := n1_; have BK177 := n2_; have GW177 := n3_; have GE177 := n4_; have NB175_177 := n5_; have NB177_175 := n6_; clear n0_ n1_ n2_ n3_ n4_ n5_ n6_; clear hb hbox hg; have hnb41 := NB177_175.out; have hnc41 := NB175_177.out; have hcz42_0 : w40.cell? ⟨gb177, 0, none⟩ = some (.int .i64 0) := (blk_cell BK177.out 0).trans rfl; have hcz42_1 : w40.cell? ⟨gb177, 1, none⟩ = some (.int .i64 0) := (blk_cell BK177.out 1).trans rfl; have hfz42_0 := blk_frozen BK177.out 0; have hfz42_1 := blk_frozen BK177.out 1) | ((with_reducible refine gate_callee (f := 38) rfl ?_); refine goesL_ (some 38) rfl rfl Try.func38 (by kernel_rfl) rfl #[.agg #[.int .i64 ((rd_T54 l0_0 x32_2).f0), .int .i64 ((rd_T54 l0_0 x32_2).f1)]] rfl (by (try simp only [List.map_toArray, List.map_cons, List.map_nil]); first | done | rfl | (simp only [List.length_drop, List.length_take]; rfl)) ?_; (with_reducible refine (spec_l8Place.calls ((rd_T54 l0_0 x32_2).f0) ((rd_T54 l0_0 x32_2).f1) false _ A14.out).mono ?_); rintro e w43 ⟨rfl, hb⟩; refine ⟨_, rfl, ?_⟩; have n0_ := Aside0.mk (blk_below (g := gb175) (o := .cells #[.slice (some ad176) l0_0.length c0_0, .slice A0_1 l0_1.length c0_1] 30 (0, 0)) (by (with_reducible repeat (first | refine blk_drewN ?_ _ | refine blk_drew ?_ | refine blk_alloc ?_ _)); refine blk_far ?_ NB175_177.out _; (with_reducible repeat (first | refine blk_drewN ?_ _ | refine blk_drew ?_ | refine blk_alloc ?_ _)); refine blk_far ?_ NB175_177.out _; (with_reducible repeat (first | refine blk_drewN ?_ _ | refine blk_drew ?_ | refine blk_alloc ?_ _)); exact BK175.out) hb); have n1_ := Aside0.mk (blk_below (g := gb177) (o := .cells #[.int .i64 ((rd_T54 l0_0 x32_2).f0), .int .i64 ((rd_T54 l0_0 x32_2).f1)] 54 (0, 0)) (by (with_reducible repeat (first | refine blk_drewN ?_ _ | refine blk_drew ?_ | refine blk_alloc ?_ _)); refine blk_put (cs := #[.int .i64 ((rd_T54 l0_0 x32_2).f0), .int .i64 0]) ?_ 1 _ rfl; (with_reducible repeat (first | refine blk_drewN ?_ _ | refine blk_drew ?_ | refine blk_alloc ?_ _)); refine blk_put (cs := #[.int .i64 0, .int .i64 0]) ?_ 0 _ rfl; (with_reducible repeat (first | refine blk_drewN ?_ _ | refine blk_drew ?_ | refine blk_alloc ?_ _)); exact BK177.out) hb); have n2_ := Aside0.mk (below_step blw hb); clear BK175; clear BK177; clear HB; have BK175 := n0_; have BK177 := n1_; have HB := n2_; clear n0_ n1_ n2_; (try clear hb); (try clear hb2); (try clear hk); (try clear hi)))
          go_ret
          exact ⟨by first | rfl | (simp [errW_none, errW_some] <;> rfl) | (simp [*, errW_none, errW_some] <;> rfl), blw⟩
        ·rw [if_neg c13] at H
         exact absurd H (by simp)
       ·rw [if_neg c12] at H
        exact absurd H (by simp)
      ·rw [if_neg c11] at H
       have c11b0 : decide (x32_2 < (l0_0.length : Int)) = false := decide_eq_false c11
       clear c11
       have H' := Aside0.mk H
       clear H
       have hcz44_0 : wr.cell? ⟨gb175, 0, none⟩ = some (.slice A0_0 l0_0.length c0_0) := (blk_cell BK175.out 0).trans rfl
       have hcz44_1 : wr.cell? ⟨gb175, 1, none⟩ = some (.slice A0_1 l0_1.length c0_1) := (blk_cell BK175.out 1).trans rfl
       have hfz44_0 := blk_frozen BK175.out 0
       have hfz44_1 := blk_frozen BK175.out 1
       go_wp2
       go_loopg [57] k2 (fun kq v57 w' => ∃ (x57_3 : Int), v57 = .int .i64 x57_3 ∧ Aside0 (spec_GoodGround.l2 kq l0_1 (l0_1.length : Int) x57_3 l0_0 l0_1 = some r) ∧ Aside0 (kq ≤ k2) ∧ Aside0 (w'.heap[gb175]? = some (.cells #[(.slice A0_0 l0_0.length c0_0), (.slice A0_1 l0_1.length c0_1)] 30 (0, 0))) ∧ Aside0 (Below w.heap.size w w'))
       case atStart => exact ⟨(0), (by first | rfl | (simp; done) | (simp [*]; done)), H', ⟨Nat.le_refl _⟩, ⟨by (with_reducible repeat (first | refine blk_drewN ?_ _ | refine blk_drew ?_ | refine blk_alloc ?_ _)); exact BK175.out⟩, ⟨blw⟩⟩
       case round =>
        clear H'
        try clear c1
        try clear p1
        try clear q1
        try clear hx1
        try clear c2
        try clear p2
        try clear q2
        try clear c3
        try clear c4
        try clear c4b0
        try clear c4b1
        try clear c6
        try clear c6b0
        try clear c6b1
        try clear p6
        try clear c9
        try clear c10
        try clear c11
        try clear c11b0
        try clear c12
        try clear c12b0
        try clear c13
        try clear c13b0
        try clear c15
        try clear c16
        try clear c16b0
        try clear c17
        try clear c17b0
        try clear c17b1
        try clear p17
        try clear q17
        try clear hx17
        try clear p18
        try clear q18
        try clear hx18
        try clear c19
        try clear q23
        try clear c24
        try clear c24b0
        try clear c25
        try clear c25b0
        try clear c26
        try clear c26b0
        try clear c27
        try clear c27b0
        try clear c27b1
        try clear c27b2
        try clear c29
        try clear c30
        try clear c32
        try clear c35
        try clear c36
        try clear c38
        try clear c41
        try clear hcz10_0
        try clear hcz10_1
        try clear hcz20_0
        try clear hcz20_1
        try clear hcz22_0
        try clear hcz22_1
        try clear hcz31_0
        try clear hcz31_1
        try clear hcz33_0
        try clear hcz33_1
        try clear hcz37_0
        try clear hcz37_1
        try clear hcz39_0
        try clear hcz39_1
        try clear hcz42_0
        try clear hcz42_1
        try clear hcz44_0
        try clear hcz44_1
        try clear hcz5_0
        try clear hcz5_1
        try clear hcz7_0
        try clear hcz7_1
        try clear hcz8_0
        try clear hcz8_1
        try clear hfz10_0
        try clear hfz10_1
        try clear hfz20_0
        try clear hfz20_1
        try clear hfz22_0
        try clear hfz22_1
        try clear hfz31_0
        try clear hfz31_1
        try clear hfz33_0
        try clear hfz33_1
        try clear hfz37_0
        try clear hfz37_1
        try clear hfz39_0
        try clear hfz39_1
        try clear hfz42_0
        try clear hfz42_1
        try clear hfz44_0
        try clear hfz44_1
        try clear hfz5_0
        try clear hfz5_1
        try clear hfz7_0
        try clear hfz7_1
        try clear hfz8_0
        try clear hfz8_1
        try clear hx176_0
        try clear hx176_1
        try clear hx183_0
        try clear hx183_1
        try clear p1
        try clear p17
        try clear p176
        try clear p183
        try clear p2
        try clear q1
        try clear q17
        try clear q176
        try clear q183
        try clear q2
        try clear q23
        obtain ⟨x57_3, rfl, HA, HK3, BK175, HB⟩ := hrel
        cases gk with
        | zero => exact absurd HA.out (by simp [spec_GoodGround.l2])
        | succ k3 =>
         have H := HA.out
         clear HA
         simp only [spec_GoodGround.l2] at H
         by_cases c45 : x57_3 < (l0_1.length : Int)
         ·rw [if_pos c45] at H
          have c45b0 : decide (x57_3 < (l0_1.length : Int)) = true := decide_eq_true c45
          clear c45
          by_cases c46 : 0 ≤ x57_3
          ·rw [if_pos c46] at H
           have c46b0 : decide (0 ≤ x57_3) = true := decide_eq_true c46
           clear c46
           by_cases c47 : x57_3 < (l0_1.length : Int)
           ·rw [if_pos c47] at H
            have c47b0 : decide (x57_3 < (l0_1.length : Int)) = true := decide_eq_true c47
            clear c47
            replace H := Option.bind_eq_some_iff.mp H
            obtain ⟨t186, A480, H⟩ := H
            replace H : (if t186 = true then (if x57_3 ≤ (l0_1.length : Int) then ((some (l0_1.take (x57_3 : Int).toNat : List (List Int))).bind fun y187 => (spec_GoodGround.l3 k3 (rd_L2 l0_1 x57_3) l0_1 (l0_1.length : Int) x57_3 y187 (y187.length : Int) 0 l0_0 l0_1)) else (none)) else (some false)) = some r := H
            have A48 := Aside0.mk A480
            clear A480
            by_cases c49 : t186 = true
            ·subst c49
             have H1 : (if x57_3 ≤ (l0_1.length : Int) then ((some (l0_1.take (x57_3 : Int).toNat : List (List Int))).bind fun y187 => (spec_GoodGround.l3 k3 (rd_L2 l0_1 x57_3) l0_1 (l0_1.length : Int) x57_3 y187 (y187.length : Int) 0 l0_0 l0_1)) else (none)) = some r := by rw [if_pos rfl] at H; exact H
             clear H
             have H := H1
             clear H1
             have c50b0 := eq_true (odt : 0 ≤ x57_3)
             by_cases c51 : x57_3 ≤ (l0_1.length : Int)
             ·rw [if_pos c51] at H
              have c51b0 := eq_true c51
              have c51b1 : decide (x57_3 ≤ (l0_1.length : Int)) = true := decide_eq_true c51
              clear c51
              obtain ⟨y187, hy187⟩ : ∃ y_ : List (List Int), y_ = (l0_1.take (x57_3 : Int).toNat) := ⟨_, rfl⟩
              replace H : (spec_GoodGround.l3 k3 (rd_L2 l0_1 x57_3) l0_1 (l0_1.length : Int) x57_3 y187 (y187.length : Int) 0 l0_0 l0_1) = some r := by first | (rw [hy187]; with_reducible exact H) | (have H2_ := (Option.bind_some _ _).symm.trans H; rw [hy187]; with_reducible exact H2_) | (have H2_ := (Option.bind_some _ _).symm.trans H; with_reducible exact H2_) | with_reducible exact H | (rw [hy187]; exact H) | exact H
              have Ny187 := Aside0.mk hy187
              clear hy187
              have H' := Aside0.mk H
              clear H
              have p185 : 0 ≤ (x57_3 : Int) := odt
              have q185 : x57_3 < (l0_1.length : Int) := odt
              obtain ⟨ad185, A185_0, c185_0, e185, hx185_0, hl185_0, hi185_0⟩ := at_L2 HR0_1.out x57_3 p185 q185
              cases e185
              replace hx185_0 := (HB.out.cell (World.block_lt_of_cell? w _ hx185_0)).trans hx185_0
              have HR185_0 := Aside0.mk hi185_0
              have HC185_0 := Aside0.mk hl185_0
              clear hi185_0 hl185_0
              replace p185 := eq_true p185
              replace q185 := eq_true q185
              have hcz52_0 : wr.cell? ⟨gb175, 0, none⟩ = some (.slice A0_0 l0_0.length c0_0) := (blk_cell BK175.out 0).trans rfl
              have hcz52_1 : wr.cell? ⟨gb175, 1, none⟩ = some (.slice (some ad185) l0_1.length c0_1) := (blk_cell BK175.out 1).trans rfl
              have hfz52_0 := blk_frozen BK175.out 0
              have hfz52_1 := blk_frozen BK175.out 1
              go_wp2_with (first | ((with_reducible refine gate_callee (f := 39) rfl ?_); refine goesL_ (some 64) rfl rfl Try.func39 (by kernel_rfl) rfl #[.agg #[.slice A0_0 l0_0.length c0_0, .slice (some ad185) l0_1.length c0_1], .slice A185_0 (rd_L2 l0_1 x57_3).length c185_0] rfl (by (try simp only [List.map_toArray, List.map_cons, List.map_nil]); first | done | rfl | (simp only [List.length_drop, List.length_take]; rfl)) ?_; (with_reducible refine (spec_l8Face.calls k3 _ _ l0_0 _ _ l0_1 _ _ (rd_L2 l0_1 x57_3) true _ ?side1 ?side2 ?side3 ?side4 ?side5 ?side6 A48.out).mono ?_); (case side1 => repeat (first | exact (Kd.C_below HR0_0.out HB.out) | (with_reducible refine Kd.C_alloc ?_ _) | (with_reducible refine Kd.C_drewN ?_ _) | (with_reducible refine Kd.C_drew ?_))); (case side2 => exact HC0_0.out); (case side3 => repeat (first | exact (Kd.C_below HR0_1.out HB.out) | (with_reducible refine Kd.C_alloc ?_ _) | (with_reducible refine Kd.C_drewN ?_ _) | (with_reducible refine Kd.C_drew ?_))); (case side4 => exact HC0_1.out); (case side5 => repeat (first | exact (Kd.C_below HR185_0.out HB.out) | (with_reducible refine Kd.C_alloc ?_ _) | (with_reducible refine Kd.C_drewN ?_ _) | (with_reducible refine Kd.C_drew ?_))); (case side6 => exact HC185_0.out); rintro e w53 ⟨rfl, hb⟩; refine ⟨_, rfl, ?_⟩; have n0_ := Aside0.mk (blk_below (g := gb175) (o := .cells #[.slice A0_0 l0_0.length c0_0, .slice (some ad185) l0_1.length c0_1] 30 (0, 0)) bkw hb); have n1_ := Aside0.mk (below_step blw hb); clear BK175; clear HB; have BK175 := n0_; have HB := n1_; clear n0_ n1_; (try clear hb); (try clear hb2); (try clear hk); (try clear hi); have hcz54_0 : w53.cell? ⟨gb175, 0, none⟩ = some (.slice A0_0 l0_0.length c0_0) := (blk_cell BK175.out 0).trans rfl; have hcz54_1 : w53.cell? ⟨gb175, 1, none⟩ = some (.slice (some ad185) l0_1.length c0_1) := (blk_cell BK175.out 1).trans rfl; have hfz54_0 := blk_frozen BK175.out 0; have hfz54_1 := blk_frozen BK175.out 1; have q55 : (x57_3 : Int) ≤ ((l0_1.length : Int) : Int) := odt; obtain ⟨i055, hi055, _, hsz55, _⟩ := info_parts info36; have hroom55 : l0_1.length ≤ c0_1 := HC0_1.out; have hC55 : Kd.C (Kd.slice 3 (Kd.int .i64)) _ (some ad185) l0_1.length l0_1 := HR0_1.out; have hcut55 := cut_to (P := Try.prog) 23 36 .i64 Try.underlying23 hi055 (some ad185) l0_1.length c0_1 x57_3 odt q55 hroom55; have hr55 := Kd.C_take (m := (x57_3 : Int).toNat) hC55 (by omega); have hy55 : y187.length = (x57_3 : Int).toNat := (by rw [Ny187.out, List.length_take]; omega); rw [← Ny187.out] at hr55; rw [← hy55] at hcut55; have HR190 := Aside0.mk hr55; have HC190 := Aside0.mk (show y187.length ≤ c0_1 from by omega); clear hr55 hC55 hroom55 hi055 hsz55; have KY55 := Aside0.mk hy55; clear hy55; replace q55 := eq_true q55))
              go_loopg [71] k3 (fun kq v71 w' => ∃ (x71_4 : Int), v71 = .int .i64 x71_4 ∧ Aside0 (spec_GoodGround.l3 kq (rd_L2 l0_1 x57_3) l0_1 (l0_1.length : Int) x57_3 y187 (y187.length : Int) x71_4 l0_0 l0_1 = some r) ∧ Aside0 (kq ≤ k3) ∧ Aside0 (w'.heap[gb175]? = some (.cells #[(.slice A0_0 l0_0.length c0_0), (.slice (some ad185) l0_1.length c0_1)] 30 (0, 0))) ∧ Aside0 (Below w.heap.size w w'))
              case atStart => exact ⟨(0), (by first | rfl | (simp; done) | (simp [*]; done)), H', ⟨Nat.le_refl _⟩, ⟨by (with_reducible repeat (first | refine blk_drewN ?_ _ | refine blk_drew ?_ | refine blk_alloc ?_ _)); exact BK175.out⟩, ⟨blw⟩⟩
              case round =>
               clear H'
               try clear c1
               try clear p1
               try clear q1
               try clear hx1
               try clear c2
               try clear p2
               try clear q2
               try clear c3
               try clear c4
               try clear c4b0
               try clear c4b1
               try clear c5
               try clear q5
               try clear c6
               try clear c6b0
               try clear c6b1
               try clear p6
               try clear c9
               try clear c10
               try clear c11
               try clear c11b0
               try clear c12
               try clear c12b0
               try clear c13
               try clear c13b0
               try clear c15
               try clear c16
               try clear c16b0
               try clear c17
               try clear c17b0
               try clear c17b1
               try clear p17
               try clear q17
               try clear hx17
               try clear c18
               try clear p18
               try clear q18
               try clear hx18
               try clear c19
               try clear q23
               try clear c24
               try clear c24b0
               try clear c25
               try clear c25b0
               try clear c26
               try clear c26b0
               try clear c27
               try clear c27b0
               try clear c27b1
               try clear c27b2
               try clear c29
               try clear c30
               try clear c32
               try clear c35
               try clear c36
               try clear c38
               try clear c39
               try clear c41
               try clear c45
               try clear c45b0
               try clear c46
               try clear c46b0
               try clear c47
               try clear c47b0
               try clear c49
               try clear c50
               try clear c50b0
               try clear c51
               try clear c51b0
               try clear c51b1
               try clear q55
               try clear hcz10_0
               try clear hcz10_1
               try clear hcz20_0
               try clear hcz20_1
               try clear hcz22_0
               try clear hcz22_1
               try clear hcz31_0
               try clear hcz31_1
               try clear hcz33_0
               try clear hcz33_1
               try clear hcz37_0
               try clear hcz37_1
               try clear hcz39_0
               try clear hcz39_1
               try clear hcz42_0
               try clear hcz42_1
               try clear hcz44_0
               try clear hcz44_1
               try clear hcz52_0
               try clear hcz52_1
               try clear hcz54_0
               try clear hcz54_1
               try clear hcz5_0
               try clear hcz5_1
               try clear hcz7_0
               try clear hcz7_1
               try clear hcz8_0
               try clear hcz8_1
               try clear hfz10_0
               try clear hfz10_1
               try clear hfz20_0
               try clear hfz20_1
               try clear hfz22_0
               try clear hfz22_1
               try clear hfz31_0
               try clear hfz31_1
               try clear hfz33_0
               try clear hfz33_1
               try clear hfz37_0
               try clear hfz37_1
               try clear hfz39_0
               try clear hfz39_1
               try clear hfz42_0
               try clear hfz42_1
               try clear hfz44_0
               try clear hfz44_1
               try clear hfz52_0
               try clear hfz52_1
               try clear hfz54_0
               try clear hfz54_1
               try clear hfz5_0
               try clear hfz5_1
               try clear hfz7_0
               try clear hfz7_1
               try clear hfz8_0
               try clear hfz8_1
               try clear hx176_0
               try clear hx176_1
               try clear hx183_0
               try clear hx183_1
               try clear hx185_0
               try clear p1
               try clear p17
               try clear p176
               try clear p18
               try clear p183
               try clear p185
               try clear p2
               try clear p6
               try clear q1
               try clear q17
               try clear q176
               try clear q18
               try clear q183
               try clear q185
               try clear q2
               try clear q23
               try clear q55
               obtain ⟨x71_4, rfl, HA, HK4, BK175, HB⟩ := hrel
               cases gk with
               | zero => exact absurd HA.out (by simp [spec_GoodGround.l3])
               | succ k4 =>
                have H := HA.out
                clear HA
                simp only [spec_GoodGround.l3] at H
                by_cases c56 : x71_4 < (y187.length : Int)
                ·rw [if_pos c56] at H
                 have c56b0 : decide (x71_4 < (y187.length : Int)) = true := decide_eq_true c56
                 clear c56
                 by_cases c57 : 0 ≤ x71_4
                 ·rw [if_pos c57] at H
                  have c57b0 : decide (0 ≤ x71_4) = true := decide_eq_true c57
                  clear c57
                  by_cases c58 : x71_4 < (y187.length : Int)
                  ·rw [if_pos c58] at H
                   have c58b0 : decide (x71_4 < (y187.length : Int)) = true := decide_eq_true c58
                   clear c58
                   have H' := Aside0.mk H
                   clear H
                   have p191 : 0 ≤ (x71_4 : Int) := odt
                   have q191 : x71_4 < (y187.length : Int) := odt
                   obtain ⟨ad191, A191_0, c191_0, e191, hx191_0, hl191_0, hi191_0⟩ := at_L2 HR190.out x71_4 p191 q191
                   obtain rfl : ad185 = ad191 := (by injection e191)
                   replace hx191_0 := (HB.out.cell (World.block_lt_of_cell? w _ hx191_0)).trans hx191_0
                   have HR191_0 := Aside0.mk hi191_0
                   have HC191_0 := Aside0.mk hl191_0
                   clear hi191_0 hl191_0
                   replace p191 := eq_true p191
                   replace q191 := eq_true q191
                   go_wp2
                   go_loopg [77] k4 (fun kq v77 w' => ∃ (x77_5 : Int), v77 = .int .i64 x77_5 ∧ Aside0 (spec_GoodGround.l4 kq (rd_L2 l0_1 x57_3) (rd_L2 y187 x71_4) l0_1 (l0_1.length : Int) x57_3 y187 (y187.length : Int) x71_4 (rd_L2 l0_1 x57_3) ((rd_L2 l0_1 x57_3).length : Int) x77_5 l0_0 l0_1 = some r) ∧ Aside0 (kq ≤ k4) ∧ Aside0 (w'.heap[gb175]? = some (.cells #[(.slice A0_0 l0_0.length c0_0), (.slice (some ad185) l0_1.length c0_1)] 30 (0, 0))) ∧ Aside0 (Below w.heap.size w w'))
                   case atStart => exact ⟨(0), (by first | rfl | (simp; done) | (simp [*]; done)), H', ⟨Nat.le_refl _⟩, ⟨by (with_reducible repeat (first | refine blk_drewN ?_ _ | refine blk_drew ?_ | refine blk_alloc ?_ _)); exact BK175.out⟩, ⟨blw⟩⟩
                   case round =>
                    clear H'
                    try clear c1
                    try clear p1
                    try clear q1
                    try clear hx1
                    try clear c2
                    try clear p2
                    try clear q2
                    try clear c3
                    try clear c4
                    try clear c4b0
                    try clear c4b1
                    try clear c5
                    try clear q5
                    try clear c6
                    try clear c6b0
                    try clear c6b1
                    try clear p6
                    try clear c9
                    try clear c10
                    try clear c11
                    try clear c11b0
                    try clear c12
                    try clear c12b0
                    try clear c13
                    try clear c13b0
                    try clear c15
                    try clear c16
                    try clear c16b0
                    try clear c17
                    try clear c17b0
                    try clear c17b1
                    try clear p17
                    try clear q17
                    try clear hx17
                    try clear c18
                    try clear p18
                    try clear q18
                    try clear hx18
                    try clear c19
                    try clear p19
                    try clear q19
                    try clear hx19
                    try clear q23
                    try clear c24
                    try clear c24b0
                    try clear c25
                    try clear c25b0
                    try clear c26
                    try clear c26b0
                    try clear c27
                    try clear c27b0
                    try clear c27b1
                    try clear c27b2
                    try clear c29
                    try clear c30
                    try clear c32
                    try clear c35
                    try clear c36
                    try clear c38
                    try clear c39
                    try clear c41
                    try clear c45
                    try clear c45b0
                    try clear c46
                    try clear c46b0
                    try clear c47
                    try clear c47b0
                    try clear c49
                    try clear c50
                    try clear c50b0
                    try clear c51
                    try clear c51b0
                    try clear c51b1
                    try clear q55
                    try clear c56
                    try clear c56b0
                    try clear c57
                    try clear c57b0
                    try clear c58
                    try clear c58b0
                    try clear hcz10_0
                    try clear hcz10_1
                    try clear hcz20_0
                    try clear hcz20_1
                    try clear hcz22_0
                    try clear hcz22_1
                    try clear hcz31_0
                    try clear hcz31_1
                    try clear hcz33_0
                    try clear hcz33_1
                    try clear hcz37_0
                    try clear hcz37_1
                    try clear hcz39_0
                    try clear hcz39_1
                    try clear hcz42_0
                    try clear hcz42_1
                    try clear hcz44_0
                    try clear hcz44_1
                    try clear hcz52_0
                    try clear hcz52_1
                    try clear hcz54_0
                    try clear hcz54_1
                    try clear hcz5_0
                    try clear hcz5_1
                    try clear hcz7_0
                    try clear hcz7_1
                    try clear hcz8_0
                    try clear hcz8_1
                    try clear hfz10_0
                    try clear hfz10_1
                    try clear hfz20_0
                    try clear hfz20_1
                    try clear hfz22_0
                    try clear hfz22_1
                    try clear hfz31_0
                    try clear hfz31_1
                    try clear hfz33_0
                    try clear hfz33_1
                    try clear hfz37_0
                    try clear hfz37_1
                    try clear hfz39_0
                    try clear hfz39_1
                    try clear hfz42_0
                    try clear hfz42_1
                    try clear hfz44_0
                    try clear hfz44_1
                    try clear hfz52_0
                    try clear hfz52_1
                    try clear hfz54_0
                    try clear hfz54_1
                    try clear hfz5_0
                    try clear hfz5_1
                    try clear hfz7_0
                    try clear hfz7_1
                    try clear hfz8_0
                    try clear hfz8_1
                    try clear hx176_0
                    try clear hx176_1
                    try clear hx183_0
                    try clear hx183_1
                    try clear hx185_0
                    try clear hx191_0
                    try clear p1
                    try clear p17
                    try clear p176
                    try clear p18
                    try clear p183
                    try clear p185
                    try clear p191
                    try clear p2
                    try clear p6
                    try clear q1
                    try clear q17
                    try clear q176
                    try clear q18
                    try clear q183
                    try clear q185
                    try clear q191
                    try clear q2
                    try clear q23
                    try clear q5
                    try clear q55
                    obtain ⟨x77_5, rfl, HA, HK5, BK175, HB⟩ := hrel
                    cases gk with
                    | zero => exact absurd HA.out (by simp [spec_GoodGround.l4])
                    | succ k5 =>
                     have H := HA.out
                     clear HA
                     simp only [spec_GoodGround.l4] at H
                     by_cases c59 : x77_5 < ((rd_L2 l0_1 x57_3).length : Int)
                     ·rw [if_pos c59] at H
                      have c59b0 : decide (x77_5 < ((rd_L2 l0_1 x57_3).length : Int)) = true := decide_eq_true c59
                      clear c59
                      by_cases c60 : 0 ≤ x77_5
                      ·rw [if_pos c60] at H
                       have c60b0 : decide (0 ≤ x77_5) = true := decide_eq_true c60
                       clear c60
                       by_cases c61 : x77_5 < ((rd_L2 l0_1 x57_3).length : Int)
                       ·rw [if_pos c61] at H
                        have c61b0 : decide (x77_5 < ((rd_L2 l0_1 x57_3).length : Int)) = true := decide_eq_true c61
                        clear c61
                        by_cases c62 : ((rd_L2 l0_1 x57_3).length : Int) = 0
                        ·rw [if_pos c62] at H
                         exact absurd H (by simp)
                        ·rw [if_neg c62] at H
                         have c62b0 : (((rd_L2 l0_1 x57_3).length : Int) == 0) = false := beq_eq_false_iff_ne.mpr c62
                         have c62b1 : (((rd_L2 l0_1 x57_3).length : Int) != 0) = true := bne_iff_ne.mpr c62
                         have c62b2 : ¬ ((rd_L2 l0_1 x57_3) = []) := fun h_ => c62 (by rw [h_]; rfl)
                         obtain ⟨ji63, hji63⟩ : ∃ j_ : Int, (Int.tmod (wrap64 (x77_5 + 1)) ((rd_L2 l0_1 x57_3).length : Int)) = j_ := ⟨_, rfl⟩
                         replace H : (if 0 ≤ (ji63) then (if (ji63) < ((rd_L2 l0_1 x57_3).length : Int) then ((spec_l8Edge.f k5 (rd_L2 y187 x71_4) (rd (rd_L2 l0_1 x57_3) x77_5) (rd (rd_L2 l0_1 x57_3) (ji63))).bind fun t194 => (if t194 ≥ 0 then (some false) else (spec_GoodGround.l4 k5 (rd_L2 l0_1 x57_3) (rd_L2 y187 x71_4) l0_1 (l0_1.length : Int) x57_3 y187 (y187.length : Int) x71_4 (rd_L2 l0_1 x57_3) ((rd_L2 l0_1 x57_3).length : Int) (wrap64 (x77_5 + 1)) l0_0 l0_1))) else (none)) else (none)) = some r := by first | (rw [hji63] at H; exact H) | (simp only [hji63] at H ⊢; exact H)
                         by_cases c64 : 0 ≤ (ji63)
                         ·rw [if_pos c64] at H
                          have c64b0 : decide (0 ≤ (ji63)) = true := decide_eq_true c64
                          clear c64
                          by_cases c65 : (ji63) < ((rd_L2 l0_1 x57_3).length : Int)
                          ·rw [if_pos c65] at H
                           have c65b0 : decide ((ji63) < ((rd_L2 l0_1 x57_3).length : Int)) = true := decide_eq_true c65
                           clear c65
                           replace H := Option.bind_eq_some_iff.mp H
                           obtain ⟨t194, A660, H⟩ := H
                           replace H : (if t194 ≥ 0 then (some false) else (spec_GoodGround.l4 k5 (rd_L2 l0_1 x57_3) (rd_L2 y187 x71_4) l0_1 (l0_1.length : Int) x57_3 y187 (y187.length : Int) x71_4 (rd_L2 l0_1 x57_3) ((rd_L2 l0_1 x57_3).length : Int) (wrap64 (x77_5 + 1)) l0_0 l0_1)) = some r := H
                           have A66 := Aside0.mk A660
                           clear A660
                           by_cases c67 : t194 ≥ 0
                           ·rw [if_pos c67] at H
                            have c67b0 : decide (0 ≤ t194) = true := decide_eq_true c67
                            clear c67
                            obtain rfl := Option.some.inj H
                            have p192 : 0 ≤ (x77_5 : Int) := odt
                            have q192 : x77_5 < ((rd_L2 l0_1 x57_3).length : Int) := odt
                            obtain ⟨ad192, e192, hx192_0⟩ := Kd.at_int HR185_0.out x77_5 p192 q192
                            cases e192
                            replace hx192_0 := (HB.out.cell (World.block_lt_of_cell? w _ hx192_0)).trans hx192_0
                            replace p192 := eq_true p192
                            replace q192 := eq_true q192
                            have p193 : 0 ≤ ((ji63) : Int) := odt
                            have q193 : (ji63) < ((rd_L2 l0_1 x57_3).length : Int) := odt
                            obtain ⟨ad193, e193, hx193_0⟩ := Kd.at_int HR185_0.out (ji63) p193 q193
                            obtain rfl : ad192 = ad193 := (by injection e193)
                            replace hx193_0 := (HB.out.cell (World.block_lt_of_cell? w _ hx193_0)).trans hx193_0
                            replace p193 := eq_true p193
                            replace q193 := eq_true q193
                            go_wp2_with (first | ((with_reducible refine gate_callee (f := 40) rfl ?_); refine goesL_ (some 92) rfl rfl Try.func40 (by kernel_rfl) rfl #[.slice A191_0 (rd_L2 y187 x71_4).length c191_0, .int .i64 (rd (rd_L2 l0_1 x57_3) x77_5), .int .i64 (rd (rd_L2 l0_1 x57_3) (ji63))] rfl (by (try simp only [List.map_toArray, List.map_cons, List.map_nil]); first | done | (simp only [hji63]; rfl) | rfl | (simp only [List.length_drop, List.length_take]; rfl)) ?_; (with_reducible refine (spec_l8Edge.calls k5 _ _ (rd_L2 y187 x71_4) (rd (rd_L2 l0_1 x57_3) x77_5) (rd (rd_L2 l0_1 x57_3) (ji63)) t194 _ ?side1 ?side2 A66.out).mono ?_); (case side1 => repeat (first | exact (Kd.C_below HR191_0.out HB.out) | (with_reducible refine Kd.C_alloc ?_ _) | (with_reducible refine Kd.C_drewN ?_ _) | (with_reducible refine Kd.C_drew ?_))); (case side2 => exact HC191_0.out); rintro e w' ⟨rfl, ⟨nd, rfl⟩⟩; refine ⟨_, rfl, ?_⟩))
                            go_ret
                            exact ⟨by first | rfl | (simp [errW_none, errW_some] <;> rfl) | (simp only [← hji63]; first | rfl | (simp [errW_none, errW_some] <;> rfl)) | (simp [*, errW_none, errW_some] <;> rfl), blw⟩
                           ·rw [if_neg c67] at H
                            have c67b0 : decide (0 ≤ t194) = false := decide_eq_false c67
                            clear c67
                            have H' := Aside0.mk H
                            clear H
                            have p192 : 0 ≤ (x77_5 : Int) := odt
                            have q192 : x77_5 < ((rd_L2 l0_1 x57_3).length : Int) := odt
                            obtain ⟨ad192, e192, hx192_0⟩ := Kd.at_int HR185_0.out x77_5 p192 q192
                            cases e192
                            replace hx192_0 := (HB.out.cell (World.block_lt_of_cell? w _ hx192_0)).trans hx192_0
                            replace p192 := eq_true p192
                            replace q192 := eq_true q192
                            have p193 : 0 ≤ ((ji63) : Int) := odt
                            have q193 : (ji63) < ((rd_L2 l0_1 x57_3).length : Int) := odt
                            obtain ⟨ad193, e193, hx193_0⟩ := Kd.at_int HR185_0.out (ji63) p193 q193
                            obtain rfl : ad192 = ad193 := (by injection e193)
                            replace hx193_0 := (HB.out.cell (World.block_lt_of_cell? w _ hx193_0)).trans hx193_0
                            replace p193 := eq_true p193
                            replace q193 := eq_true q193
                            go_wp2_with (first | ((with_reducible refine gate_callee (f := 40) rfl ?_); refine goesL_ (some 92) rfl rfl Try.func40 (by kernel_rfl) rfl #[.slice A191_0 (rd_L2 y187 x71_4).length c191_0, .int .i64 (rd (rd_L2 l0_1 x57_3) x77_5), .int .i64 (rd (rd_L2 l0_1 x57_3) (ji63))] rfl (by (try simp only [List.map_toArray, List.map_cons, List.map_nil]); first | done | (simp only [hji63]; rfl) | rfl | (simp only [List.length_drop, List.length_take]; rfl)) ?_; (with_reducible refine (spec_l8Edge.calls k5 _ _ (rd_L2 y187 x71_4) (rd (rd_L2 l0_1 x57_3) x77_5) (rd (rd_L2 l0_1 x57_3) (ji63)) t194 _ ?side1 ?side2 A66.out).mono ?_); (case side1 => repeat (first | exact (Kd.C_below HR191_0.out HB.out) | (with_reducible refine Kd.C_alloc ?_ _) | (with_reducible refine Kd.C_drewN ?_ _) | (with_reducible refine Kd.C_drew ?_))); (case side2 => exact HC191_0.out); rintro e w' ⟨rfl, ⟨nd, rfl⟩⟩; refine ⟨_, rfl, ?_⟩))
                            (try subst hji63)
                            go_roundg k5
                            case measure => have := HJ1.out; have := HK2.out; have := HK3.out; have := HK4.out; have := HK5.out; omega
                            case rel => exact ⟨(wrap64 (x77_5 + 1)), (by first | rfl | (simp; done) | (simp [*]; done)), H', ⟨by have := HJ1.out; have := HK2.out; have := HK3.out; have := HK4.out; have := HK5.out; omega⟩, ⟨by (with_reducible repeat (first | refine blk_drewN ?_ _ | refine blk_drew ?_ | refine blk_alloc ?_ _)); exact BK175.out⟩, ⟨blw⟩⟩
                          ·rw [if_neg c65] at H
                           exact absurd H (by simp)
                         ·rw [if_neg c64] at H
                          exact absurd H (by simp)
                       ·rw [if_neg c61] at H
                        exact absurd H (by simp)
                      ·rw [if_neg c60] at H
                       exact absurd H (by simp)
                     ·rw [if_neg c59] at H
                      have c59b0 : decide (x77_5 < ((rd_L2 l0_1 x57_3).length : Int)) = false := decide_eq_false c59
                      clear c59
                      have H' := Aside0.mk H
                      clear H
                      go_wp2
                      (try subst hji63)
                      go_roundg k5
                      case measure => have := HJ1.out; have := HK2.out; have := HK3.out; have := HK4.out; have := HK5.out; omega
                      case rel => exact ⟨(wrap64 (x71_4 + 1)), (by first | rfl | (simp; done) | (simp [*]; done)), H', ⟨by have := HJ1.out; have := HK2.out; have := HK3.out; have := HK4.out; have := HK5.out; omega⟩, ⟨by (with_reducible repeat (first | refine blk_drewN ?_ _ | refine blk_drew ?_ | refine blk_alloc ?_ _)); exact BK175.out⟩, ⟨blw⟩⟩
                  ·rw [if_neg c58] at H
                   exact absurd H (by simp)
                 ·rw [if_neg c57] at H
                  exact absurd H (by simp)
                ·rw [if_neg c56] at H
                 have c56b0 : decide (x71_4 < (y187.length : Int)) = false := decide_eq_false c56
                 clear c56
                 have H' := Aside0.mk H
                 clear H
                 go_wp2
                 (try subst hji63)
                 go_roundg k4
                 case measure => have := HJ1.out; have := HK2.out; have := HK3.out; have := HK4.out; omega
                 case rel => exact ⟨(wrap64 (x57_3 + 1)), (by first | rfl | (simp; done) | (simp [*]; done)), H', ⟨by have := HJ1.out; have := HK2.out; have := HK3.out; have := HK4.out; omega⟩, ⟨by (with_reducible repeat (first | refine blk_drewN ?_ _ | refine blk_drew ?_ | refine blk_alloc ?_ _)); exact BK175.out⟩, ⟨blw⟩⟩
             ·rw [if_neg c51] at H
              exact absurd H (by simp)
            ·replace c49 := Bool.eq_false_iff.mpr c49
             subst c49
             have H1 : (some false) = some r := by rw [if_neg (show ¬ (false = true) by decide)] at H; exact H
             clear H
             have H := H1
             clear H1
             obtain rfl := Option.some.inj H
             have p185 : 0 ≤ (x57_3 : Int) := odt
             have q185 : x57_3 < (l0_1.length : Int) := odt
             obtain ⟨ad185, A185_0, c185_0, e185, hx185_0, hl185_0, hi185_0⟩ := at_L2 HR0_1.out x57_3 p185 q185
             cases e185
             replace hx185_0 := (HB.out.cell (World.block_lt_of_cell? w _ hx185_0)).trans hx185_0
             have HR185_0 := Aside0.mk hi185_0
             have HC185_0 := Aside0.mk hl185_0
             clear hi185_0 hl185_0
             replace p185 := eq_true p185
             replace q185 := eq_true q185
             have hcz68_0 : wr.cell? ⟨gb175, 0, none⟩ = some (.slice A0_0 l0_0.length c0_0) := (blk_cell BK175.out 0).trans rfl
             have hcz68_1 : wr.cell? ⟨gb175, 1, none⟩ = some (.slice (some ad185) l0_1.length c0_1) := (blk_cell BK175.out 1).trans rfl
             have hfz68_0 := blk_frozen BK175.out 0
             have hfz68_1 := blk_frozen BK175.out 1
             go_wp2_with (first | ((with_reducible refine gate_callee (f := 39) rfl ?_); refine goesL_ (some 64) rfl rfl Try.func39 (by kernel_rfl) rfl #[.agg #[.slice A0_0 l0_0.length c0_0, .slice (some ad185) l0_1.length c0_1], .slice A185_0 (rd_L2 l0_1 x57_3).length c185_0] rfl (by (try simp only [List.map_toArray, List.map_cons, List.map_nil]); first | done | rfl | (simp only [List.length_drop, List.length_take]; rfl)) ?_; (with_reducible refine (spec_l8Face.calls k3 _ _ l0_0 _ _ l0_1 _ _ (rd_L2 l0_1 x57_3) false _ ?side1 ?side2 ?side3 ?side4 ?side5 ?side6 A48.out).mono ?_); (case side1 => repeat (first | exact (Kd.C_below HR0_0.out HB.out) | (with_reducible refine Kd.C_alloc ?_ _) | (with_reducible refine Kd.C_drewN ?_ _) | (with_reducible refine Kd.C_drew ?_))); (case side2 => exact HC0_0.out); (case side3 => repeat (first | exact (Kd.C_below HR0_1.out HB.out) | (with_reducible refine Kd.C_alloc ?_ _) | (with_reducible refine Kd.C_drewN ?_ _) | (with_reducible refine Kd.C_drew ?_))); (case side4 => exact HC0_1.out); (case side5 => repeat (first | exact (Kd.C_below HR185_0.out HB.out) | (with_reducible refine Kd.C_alloc ?_ _) | (with_reducible refine Kd.C_drewN ?_ _) | (with_reducible refine Kd.C_drew ?_))); (case side6 => exact HC185_0.out); rintro e w69 ⟨rfl, hb⟩; refine ⟨_, rfl, ?_⟩; have n0_ := Aside0.mk (blk_below (g := gb175) (o := .cells #[.slice A0_0 l0_0.length c0_0, .slice (some ad185) l0_1.length c0_1] 30 (0, 0)) bkw hb); have n1_ := Aside0.mk (below_step blw hb); clear BK175; clear HB; have BK175 := n0_; have HB := n1_; clear n0_ n1_; (try clear hb); (try clear hb2); (try clear hk); (try clear hi)))
             go_ret
             exact ⟨by first | rfl | (simp [errW_none, errW_some] <;> rfl) | (simp [*, errW_none, errW_some] <;> rfl), blw⟩
           ·rw [if_neg c47] at H
            exact absurd H (by simp)
          ·rw [if_neg c46] at H
           exact absurd H (by simp)
         ·rw [if_neg c45] at H
          have c45b0 : decide (x57_3 < (l0_1.length : Int)) = false := decide_eq_false c45
          clear c45
          obtain rfl := Option.some.inj H
          go_wp2
          go_ret
          exact ⟨by first | rfl | (simp [errW_none, errW_some] <;> rfl) | (simp [*, errW_none, errW_some] <;> rfl), blw⟩

end Go.Proofs.Ytnfcpbajngccoaa.PFnExactDoorsOf
