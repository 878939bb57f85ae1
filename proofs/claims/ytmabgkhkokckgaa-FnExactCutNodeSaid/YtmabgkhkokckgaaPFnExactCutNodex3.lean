/- The machine's side of a law, function by function: a Lean function with the Go function's answers and the proof that the Go code comes to them. No condition. Written by this session's program over the kit's print, this session's own contracts set in. -/
import Derived.Test.YtmabgkhkokckgaaPFnExactCutNodex0
import Derived.Test.YtmabgkhkokckgaaPFnExactCutNodex1
import Derived.Test.YtmabgkhkokckgaaPFnExactCutNodex2
namespace Go.Proofs.Ytmabgkhkokckgaa.PFnExactCutNode
open Go.RowKit Go.Proofs.YtmabgkhkokckgaaW.PrintWords Go.Proofs.YtmabgkhkokckgaaW.PrintLast Go.Proofs.YtmabgkhkokckgaaW.PrintMore
attribute [local go_sem] max2_int min2_int max_two min_two max_three min_three max_four min_four   -- for this text's walks alone
set_option linter.unusedVariables false
set_option linter.unusedSimpArgs false

/-! ### spec_GoodScene: function 18 -/
mutual
def spec_GoodScene.l0 : Nat → List (S73) → List (S73) → Int → Int → Option (Bool)
  | 0, _, _, _, _ => none
  | k + 1, x0, x10, x11, x12 => if x12 < x11 then (if 0 ≤ x12 then (if x12 < (x10.length : Int) then ((spec_GoodName.f k ((rd_T73 x10 x12).f0)).bind fun t134 => (if t134 = true then ((spec_l1In.f ((rd_T73 x10 x12).f1) (-1) (wrap64 (x12 - 1))).bind fun t135 => (if t135 = true then ((spec_l4Spot.f ((rd_T73 x10 x12).f0) ((rd_T73 x10 x12).f1) ((rd_T73 x10 x12).f2) ((rd_T73 x10 x12).f3) ((rd_T73 x10 x12).f4) ((rd_T73 x10 x12).f5)).bind fun bt136 => ((spec_l4Good.f bt136.1 bt136.2.1 bt136.2.2.1 bt136.2.2.2).bind fun t140 => (spec_GoodScene.j1 k x0 x12 x10 x11 x12 (!t140) ((rd_T73 x10 x12).f0) ((rd_T73 x10 x12).f1) ((rd_T73 x10 x12).f2) ((rd_T73 x10 x12).f3) ((rd_T73 x10 x12).f4) ((rd_T73 x10 x12).f5)))) else (spec_GoodScene.j1 k x0 x12 x10 x11 x12 true ((rd_T73 x10 x12).f0) ((rd_T73 x10 x12).f1) ((rd_T73 x10 x12).f2) ((rd_T73 x10 x12).f3) ((rd_T73 x10 x12).f4) ((rd_T73 x10 x12).f5)))) else (spec_GoodScene.j1 k x0 x12 x10 x11 x12 true ((rd_T73 x10 x12).f0) ((rd_T73 x10 x12).f1) ((rd_T73 x10 x12).f2) ((rd_T73 x10 x12).f3) ((rd_T73 x10 x12).f4) ((rd_T73 x10 x12).f5)))) else (none)) else (none)) else (some true)
def spec_GoodScene.j1 : Nat → List (S73) → Int → List (S73) → Int → Int → Bool → ByteArray → Int → Int → Int → Int → Bool → Option (Bool)
  | 0, _, _, _, _, _, _, _, _, _, _, _, _ => none
  | k + 1, x0, x3, x10, x11, x12, x34, x134000, x134001, x134002, x134003, x134004, x134005 => if x34 = true then (some false) else (if 0 ≤ x3 then (if x3 ≤ (x0.length : Int) then ((some (x0.take (x3 : Int).toNat : List (S73))).bind fun y141 => (spec_GoodScene.l1 k x0 x10 x11 x12 y141 (y141.length : Int) 0 x134000 x134001 x134002 x134003 x134004 x134005)) else (none)) else (none))
def spec_GoodScene.l1 : Nat → List (S73) → List (S73) → Int → Int → List (S73) → Int → Int → ByteArray → Int → Int → Int → Int → Bool → Option (Bool)
  | 0, _, _, _, _, _, _, _, _, _, _, _, _, _ => none
  | k + 1, x0, x10, x11, x12, x37, x38, x39, x134000, x134001, x134002, x134003, x134004, x134005 => if x39 < x38 then (if 0 ≤ x39 then (if x39 < (x37.length : Int) then (if ((rd_T73 x37 x39).f1) = x134001 then (if ((rd_T73 x37 x39).f0).toList = x134000.toList then (some false) else (spec_GoodScene.l1 k x0 x10 x11 x12 x37 x38 (wrap64 (x39 + 1)) x134000 x134001 x134002 x134003 x134004 x134005)) else (spec_GoodScene.l1 k x0 x10 x11 x12 x37 x38 (wrap64 (x39 + 1)) x134000 x134001 x134002 x134003 x134004 x134005)) else (none)) else (none)) else (spec_GoodScene.l0 k x0 x10 x11 (wrap64 (x12 + 1)))
end
def spec_GoodScene.f (k : Nat) (l0 : List (S73)) : Option (Bool) := if (l0.length : Int) > 40 then (some false) else (spec_GoodScene.l0 k l0 l0 (l0.length : Int) 0)
theorem spec_GoodScene.mono_l : ∀ k, (∀ y0 y1 y2 y3, LeO (spec_GoodScene.l0 k y0 y1 y2 y3) (spec_GoodScene.l0 (k + 1) y0 y1 y2 y3)) ∧ (∀ y0 y1 y2 y3 y4 y5 y6 y7 y8 y9 y10 y11, LeO (spec_GoodScene.j1 k y0 y1 y2 y3 y4 y5 y6 y7 y8 y9 y10 y11) (spec_GoodScene.j1 (k + 1) y0 y1 y2 y3 y4 y5 y6 y7 y8 y9 y10 y11)) ∧ (∀ y0 y1 y2 y3 y4 y5 y6 y7 y8 y9 y10 y11 y12, LeO (spec_GoodScene.l1 k y0 y1 y2 y3 y4 y5 y6 y7 y8 y9 y10 y11 y12) (spec_GoodScene.l1 (k + 1) y0 y1 y2 y3 y4 y5 y6 y7 y8 y9 y10 y11 y12))
  | 0 => ⟨fun _ _ _ _ r h => by simp [spec_GoodScene.l0] at h, fun _ _ _ _ _ _ _ _ _ _ _ _ r h => by simp [spec_GoodScene.j1] at h, fun _ _ _ _ _ _ _ _ _ _ _ _ _ r h => by simp [spec_GoodScene.l1] at h⟩
  | k + 1 => by
    obtain ⟨ih0, ih1, ih2⟩ := spec_GoodScene.mono_l k
    refine ⟨?_, ?_, ?_⟩
    · intro y0 y1 y2 y3
      unfold spec_GoodScene.l0
      repeat' first
      | (with_reducible exact ih0 _ _ _ _)
      | (with_reducible exact ih1 _ _ _ _ _ _ _ _ _ _ _ _)
      | (with_reducible exact ih2 _ _ _ _ _ _ _ _ _ _ _ _ _)
      | (with_reducible exact spec_GoodName.mono _ _)
      | (with_reducible exact LeO.refl _)
      | (with_reducible exact LeO.none _)
      | (with_reducible refine LeO.ite ?_ ?_)
      | (with_reducible refine LeO.bind ?_ (fun _ => ?_))
      | exact ih0 _ _ _ _
      | exact ih1 _ _ _ _ _ _ _ _ _ _ _ _
      | exact ih2 _ _ _ _ _ _ _ _ _ _ _ _ _
      | exact spec_GoodName.mono _ _
      | exact LeO.none _
      | refine LeO.ite ?_ ?_
      | refine LeO.bind ?_ (fun _ => ?_)
    · intro y0 y1 y2 y3 y4 y5 y6 y7 y8 y9 y10 y11
      unfold spec_GoodScene.j1
      repeat' first
      | (with_reducible exact ih0 _ _ _ _)
      | (with_reducible exact ih1 _ _ _ _ _ _ _ _ _ _ _ _)
      | (with_reducible exact ih2 _ _ _ _ _ _ _ _ _ _ _ _ _)
      | (with_reducible exact spec_GoodName.mono _ _)
      | (with_reducible exact LeO.refl _)
      | (with_reducible exact LeO.none _)
      | (with_reducible refine LeO.ite ?_ ?_)
      | (with_reducible refine LeO.bind ?_ (fun _ => ?_))
      | exact ih0 _ _ _ _
      | exact ih1 _ _ _ _ _ _ _ _ _ _ _ _
      | exact ih2 _ _ _ _ _ _ _ _ _ _ _ _ _
      | exact spec_GoodName.mono _ _
      | exact LeO.none _
      | refine LeO.ite ?_ ?_
      | refine LeO.bind ?_ (fun _ => ?_)
    · intro y0 y1 y2 y3 y4 y5 y6 y7 y8 y9 y10 y11 y12
      unfold spec_GoodScene.l1
      repeat' first
      | (with_reducible exact ih0 _ _ _ _)
      | (with_reducible exact ih1 _ _ _ _ _ _ _ _ _ _ _ _)
      | (with_reducible exact ih2 _ _ _ _ _ _ _ _ _ _ _ _ _)
      | (with_reducible exact spec_GoodName.mono _ _)
      | (with_reducible exact LeO.refl _)
      | (with_reducible exact LeO.none _)
      | (with_reducible refine LeO.ite ?_ ?_)
      | (with_reducible refine LeO.bind ?_ (fun _ => ?_))
      | exact ih0 _ _ _ _
      | exact ih1 _ _ _ _ _ _ _ _ _ _ _ _
      | exact ih2 _ _ _ _ _ _ _ _ _ _ _ _ _
      | exact spec_GoodName.mono _ _
      | exact LeO.none _
      | refine LeO.ite ?_ ?_
      | refine LeO.bind ?_ (fun _ => ?_)
theorem spec_GoodScene.mono : ∀ a0 k, LeO (spec_GoodScene.f k a0) (spec_GoodScene.f (k + 1) a0) := by
  intro a0 k
  obtain ⟨ih0, ih1, ih2⟩ := spec_GoodScene.mono_l k
  unfold spec_GoodScene.f
  repeat' first
      | (with_reducible exact ih0 _ _ _ _)
      | (with_reducible exact ih1 _ _ _ _ _ _ _ _ _ _ _ _)
      | (with_reducible exact ih2 _ _ _ _ _ _ _ _ _ _ _ _ _)
      | (with_reducible exact spec_GoodName.mono _ _)
      | (with_reducible exact LeO.refl _)
      | (with_reducible exact LeO.none _)
      | (with_reducible refine LeO.ite ?_ ?_)
      | (with_reducible refine LeO.bind ?_ (fun _ => ?_))
      | exact ih0 _ _ _ _
      | exact ih1 _ _ _ _ _ _ _ _ _ _ _ _
      | exact ih2 _ _ _ _ _ _ _ _ _ _ _ _ _
      | exact spec_GoodName.mono _ _
      | exact LeO.none _
      | refine LeO.ite ?_ ?_
      | refine LeO.bind ?_ (fun _ => ?_)
set_option maxHeartbeats 8000000 in
set_option maxRecDepth 100000 in
theorem spec_GoodScene.calls (k : Nat) (A0 : Option Addr) (c0 : Nat) (l0 : List (S73)) (r : Bool) (w : World) (hr0 : Kd.C k73 w A0 l0.length l0) (hc0 : l0.length ≤ c0) (h : spec_GoodScene.f k l0 = some r) :
    Calls Try.prog 18 #[.slice A0 l0.length c0] w fun e w' => e = .returned (.bool r) ∧ Below w.heap.size w w' := by
  have hu73 := Try.underlying73
  have HR0 := Aside0.mk hr0
  have HC0 := Aside0.mk hc0
  clear hr0 hc0
  have HB := Aside0.mk (Below.refl w.heap.size w)
  have H : (if (l0.length : Int) > 40 then (some false) else (spec_GoodScene.l0 k l0 l0 (l0.length : Int) 0)) = some r := h
  clear h
  by_cases c2 : (l0.length : Int) > 40
  · rw [if_pos c2] at H
    have c2b0 : decide (40 < (l0.length : Int)) = true := decide_eq_true c2
    have c2b1 : decide (40 < l0.length) = true := decide_eq_true (by omega)
    clear c2
    obtain rfl := Option.some.inj H
    go_enter Try.func18, Try.ntmps18
    go_wp2
    go_ret
    exact ⟨by first | rfl | (simp [errW_none, errW_some] <;> rfl) | (simp [*, errW_none, errW_some] <;> rfl), by repeat (first | (with_reducible first | exact HB.out | apply below_alloc | apply pw_below_drewN | apply below_drew1) | exact HB.out)⟩
  · rw [if_neg c2] at H
    have c2b0 : decide (40 < (l0.length : Int)) = false := decide_eq_false c2
    have c2b1 : decide (40 < l0.length) = false := decide_eq_false (by omega)
    clear c2
    have H' := Aside0.mk H
    clear H
    go_enter Try.func18, Try.ntmps18
    go_wp2
    go_loopg [12] k (fun kq v12 w' => ∃ (x12_1 : Int), v12 = .int .i64 x12_1 ∧ Aside0 (spec_GoodScene.l0 kq l0 l0 (l0.length : Int) x12_1 = some r) ∧ Aside0 (kq ≤ k) ∧ Aside0 (Below w.heap.size w w'))
    case atStart => exact ⟨(0), (by first | rfl | (simp; done) | (simp [*]; done)), H', ⟨Nat.le_refl _⟩, ⟨by repeat (first | (with_reducible first | exact HB.out | apply below_alloc | apply pw_below_drewN | apply below_drew1) | exact HB.out)⟩⟩
    case round =>
      clear H'
      try clear c1
      try clear c2
      try clear c2b0
      try clear c2b1
      try clear p2
      obtain ⟨x12_1, rfl, HA, HK1, HB⟩ := hrel
      cases gk with
      | zero => exact absurd HA.out (by simp [spec_GoodScene.l0])
      | succ k1 =>
        have H := HA.out
        clear HA
        simp only [spec_GoodScene.l0] at H
        by_cases c3 : x12_1 < (l0.length : Int)
        · rw [if_pos c3] at H
          have c3b0 : decide (x12_1 < (l0.length : Int)) = true := decide_eq_true c3
          clear c3
          by_cases c4 : 0 ≤ x12_1
          · rw [if_pos c4] at H
            have c4b0 : decide (0 ≤ x12_1) = true := decide_eq_true c4
            clear c4
            by_cases c5 : x12_1 < (l0.length : Int)
            · rw [if_pos c5] at H
              have c5b0 : decide (x12_1 < (l0.length : Int)) = true := decide_eq_true c5
              clear c5
              have HC6 := Aside0.mk H
              clear H
              have p132 : 0 ≤ (x12_1 : Int) := of_decide_eq_true (by first | (with_reducible assumption) | assumption)
              have q132 : x12_1 < (l0.length : Int) := of_decide_eq_true (by first | (with_reducible assumption) | assumption)
              obtain ⟨ad132, e132, hx132_0, hx132_1, hx132_2, hx132_3, hx132_4, hx132_5⟩ := at_T73 HR0.out x12_1 p132 q132
              cases e132
              replace hx132_0 := (HB.out.cell (World.block_lt_of_cell? w _ hx132_0)).trans hx132_0
              replace hx132_1 := (HB.out.cell (World.block_lt_of_cell? w _ hx132_1)).trans hx132_1
              replace hx132_2 := (HB.out.cell (World.block_lt_of_cell? w _ hx132_2)).trans hx132_2
              replace hx132_3 := (HB.out.cell (World.block_lt_of_cell? w _ hx132_3)).trans hx132_3
              replace hx132_4 := (HB.out.cell (World.block_lt_of_cell? w _ hx132_4)).trans hx132_4
              replace hx132_5 := (HB.out.cell (World.block_lt_of_cell? w _ hx132_5)).trans hx132_5
              replace p132 := eq_true p132
              replace q132 := eq_true q132
              go_upto_region 6 with (first | ((with_reducible refine gate_dst (N := 4) rfl ?_); refine box_event ?hg (N := 4) ?hd (cs := #[.string (⟨#[]⟩ : ByteArray), .int .i64 0, .int .i64 0, .int .i64 0, .int .i64 0, .bool false]) (t := 73) ?hr ?_; (case hd => rfl); (case hg => rfl); (case hr => first | (go_simp; done) | (go_simp; rfl)); intro gb133 hg w7 hbox hb; have n0_ := Aside0.mk (below_step (by repeat (first | (with_reducible first | exact HB.out | apply below_alloc | apply pw_below_drewN | apply below_drew1) | exact HB.out)) hb); have n1_ := Aside0.mk (hbox); have n2_ := Aside0.mk ((by rw [hg]; exact (below_size (by repeat (first | (with_reducible first | exact HB.out | apply below_alloc | apply pw_below_drewN | apply below_drew1) | exact HB.out))) : w.heap.size ≤ gb133)); have n3_ := Aside0.mk ((by rw [hg]; exact (below_size (by repeat (first | (with_reducible first | exact HB.out | apply below_alloc | apply pw_below_drewN | apply below_drew1) | exact HB.out))) : w.heap.size ≤ gb133)); clear HB; have HB := n0_; have BK133 := n1_; have GW133 := n2_; have GE133 := n3_; clear n0_ n1_ n2_ n3_; clear hb hbox hg; have hcz8_0 : w7.cell? ⟨gb133, 0, none⟩ = some (.string (⟨#[]⟩ : ByteArray)) := (blk_cell BK133.out 0).trans rfl; have hcz8_1 : w7.cell? ⟨gb133, 1, none⟩ = some (.int .i64 0) := (blk_cell BK133.out 1).trans rfl; have hcz8_2 : w7.cell? ⟨gb133, 2, none⟩ = some (.int .i64 0) := (blk_cell BK133.out 2).trans rfl; have hcz8_3 : w7.cell? ⟨gb133, 3, none⟩ = some (.int .i64 0) := (blk_cell BK133.out 3).trans rfl; have hcz8_4 : w7.cell? ⟨gb133, 4, none⟩ = some (.int .i64 0) := (blk_cell BK133.out 4).trans rfl; have hcz8_5 : w7.cell? ⟨gb133, 5, none⟩ = some (.bool false) := (blk_cell BK133.out 5).trans rfl; have hfz8_0 := blk_frozen BK133.out 0; have hfz8_1 := blk_frozen BK133.out 1; have hfz8_2 := blk_frozen BK133.out 2; have hfz8_3 := blk_frozen BK133.out 3; have hfz8_4 := blk_frozen BK133.out 4; have hfz8_5 := blk_frozen BK133.out 5))
              (try simp only [Act.put, List.setIfInBounds_toArray, List.set_cons_zero, List.set_cons_succ])
              go_cut [34] (fun v34 wc => ∃ (kq : Nat) (x34_5 : Bool), v34 = .bool x34_5 ∧ Aside0 (spec_GoodScene.j1 kq l0 x12_1 l0 (l0.length : Int) x12_1 x34_5 ((rd_T73 l0 x12_1).f0) ((rd_T73 l0 x12_1).f1) ((rd_T73 l0 x12_1).f2) ((rd_T73 l0 x12_1).f3) ((rd_T73 l0 x12_1).f4) ((rd_T73 l0 x12_1).f5) = some r) ∧ Aside0 (kq ≤ k1) ∧ Aside0 (wc.heap[gb133]? = some (.cells #[.string ((rd_T73 l0 x12_1).f0), .int .i64 ((rd_T73 l0 x12_1).f1), .int .i64 ((rd_T73 l0 x12_1).f2), .int .i64 ((rd_T73 l0 x12_1).f3), .int .i64 ((rd_T73 l0 x12_1).f4), .bool ((rd_T73 l0 x12_1).f5)] 73 (0, 0))) ∧ Aside0 (Below w.heap.size w wc))
              case first =>
                have H := HC6.out
                clear HC6
                replace H := Option.bind_eq_some_iff.mp H
                obtain ⟨t134, A90, H⟩ := H
                replace H : (if t134 = true then ((spec_l1In.f ((rd_T73 l0 x12_1).f1) (-1) (wrap64 (x12_1 - 1))).bind fun t135 => (if t135 = true then ((spec_l4Spot.f ((rd_T73 l0 x12_1).f0) ((rd_T73 l0 x12_1).f1) ((rd_T73 l0 x12_1).f2) ((rd_T73 l0 x12_1).f3) ((rd_T73 l0 x12_1).f4) ((rd_T73 l0 x12_1).f5)).bind fun bt136 => ((spec_l4Good.f bt136.1 bt136.2.1 bt136.2.2.1 bt136.2.2.2).bind fun t140 => (spec_GoodScene.j1 k1 l0 x12_1 l0 (l0.length : Int) x12_1 (!t140) ((rd_T73 l0 x12_1).f0) ((rd_T73 l0 x12_1).f1) ((rd_T73 l0 x12_1).f2) ((rd_T73 l0 x12_1).f3) ((rd_T73 l0 x12_1).f4) ((rd_T73 l0 x12_1).f5)))) else (spec_GoodScene.j1 k1 l0 x12_1 l0 (l0.length : Int) x12_1 true ((rd_T73 l0 x12_1).f0) ((rd_T73 l0 x12_1).f1) ((rd_T73 l0 x12_1).f2) ((rd_T73 l0 x12_1).f3) ((rd_T73 l0 x12_1).f4) ((rd_T73 l0 x12_1).f5)))) else (spec_GoodScene.j1 k1 l0 x12_1 l0 (l0.length : Int) x12_1 true ((rd_T73 l0 x12_1).f0) ((rd_T73 l0 x12_1).f1) ((rd_T73 l0 x12_1).f2) ((rd_T73 l0 x12_1).f3) ((rd_T73 l0 x12_1).f4) ((rd_T73 l0 x12_1).f5))) = some r := H
                have A9 := Aside0.mk A90
                clear A90
                by_cases c10 : t134 = true
                · subst c10
                  have H1 : ((spec_l1In.f ((rd_T73 l0 x12_1).f1) (-1) (wrap64 (x12_1 - 1))).bind fun t135 => (if t135 = true then ((spec_l4Spot.f ((rd_T73 l0 x12_1).f0) ((rd_T73 l0 x12_1).f1) ((rd_T73 l0 x12_1).f2) ((rd_T73 l0 x12_1).f3) ((rd_T73 l0 x12_1).f4) ((rd_T73 l0 x12_1).f5)).bind fun bt136 => ((spec_l4Good.f bt136.1 bt136.2.1 bt136.2.2.1 bt136.2.2.2).bind fun t140 => (spec_GoodScene.j1 k1 l0 x12_1 l0 (l0.length : Int) x12_1 (!t140) ((rd_T73 l0 x12_1).f0) ((rd_T73 l0 x12_1).f1) ((rd_T73 l0 x12_1).f2) ((rd_T73 l0 x12_1).f3) ((rd_T73 l0 x12_1).f4) ((rd_T73 l0 x12_1).f5)))) else (spec_GoodScene.j1 k1 l0 x12_1 l0 (l0.length : Int) x12_1 true ((rd_T73 l0 x12_1).f0) ((rd_T73 l0 x12_1).f1) ((rd_T73 l0 x12_1).f2) ((rd_T73 l0 x12_1).f3) ((rd_T73 l0 x12_1).f4) ((rd_T73 l0 x12_1).f5)))) = some r := by rw [if_pos rfl] at H; exact H
                  clear H
                  have H := H1
                  clear H1
                  replace H := Option.bind_eq_some_iff.mp H
                  obtain ⟨t135, A110, H⟩ := H
                  replace H : (if t135 = true then ((spec_l4Spot.f ((rd_T73 l0 x12_1).f0) ((rd_T73 l0 x12_1).f1) ((rd_T73 l0 x12_1).f2) ((rd_T73 l0 x12_1).f3) ((rd_T73 l0 x12_1).f4) ((rd_T73 l0 x12_1).f5)).bind fun bt136 => ((spec_l4Good.f bt136.1 bt136.2.1 bt136.2.2.1 bt136.2.2.2).bind fun t140 => (spec_GoodScene.j1 k1 l0 x12_1 l0 (l0.length : Int) x12_1 (!t140) ((rd_T73 l0 x12_1).f0) ((rd_T73 l0 x12_1).f1) ((rd_T73 l0 x12_1).f2) ((rd_T73 l0 x12_1).f3) ((rd_T73 l0 x12_1).f4) ((rd_T73 l0 x12_1).f5)))) else (spec_GoodScene.j1 k1 l0 x12_1 l0 (l0.length : Int) x12_1 true ((rd_T73 l0 x12_1).f0) ((rd_T73 l0 x12_1).f1) ((rd_T73 l0 x12_1).f2) ((rd_T73 l0 x12_1).f3) ((rd_T73 l0 x12_1).f4) ((rd_T73 l0 x12_1).f5))) = some r := H
                  have A11 := Aside0.mk A110
                  clear A110
                  by_cases c12 : t135 = true
                  · subst c12
                    have H1 : ((spec_l4Spot.f ((rd_T73 l0 x12_1).f0) ((rd_T73 l0 x12_1).f1) ((rd_T73 l0 x12_1).f2) ((rd_T73 l0 x12_1).f3) ((rd_T73 l0 x12_1).f4) ((rd_T73 l0 x12_1).f5)).bind fun bt136 => ((spec_l4Good.f bt136.1 bt136.2.1 bt136.2.2.1 bt136.2.2.2).bind fun t140 => (spec_GoodScene.j1 k1 l0 x12_1 l0 (l0.length : Int) x12_1 (!t140) ((rd_T73 l0 x12_1).f0) ((rd_T73 l0 x12_1).f1) ((rd_T73 l0 x12_1).f2) ((rd_T73 l0 x12_1).f3) ((rd_T73 l0 x12_1).f4) ((rd_T73 l0 x12_1).f5)))) = some r := by rw [if_pos rfl] at H; exact H
                    clear H
                    have H := H1
                    clear H1
                    replace H := Option.bind_eq_some_iff.mp H
                    obtain ⟨⟨t136, t137, t138, t139⟩, A130, H⟩ := H
                    replace H : ((spec_l4Good.f t136 t137 t138 t139).bind fun t140 => (spec_GoodScene.j1 k1 l0 x12_1 l0 (l0.length : Int) x12_1 (!t140) ((rd_T73 l0 x12_1).f0) ((rd_T73 l0 x12_1).f1) ((rd_T73 l0 x12_1).f2) ((rd_T73 l0 x12_1).f3) ((rd_T73 l0 x12_1).f4) ((rd_T73 l0 x12_1).f5))) = some r := H
                    have A13 := Aside0.mk A130
                    clear A130
                    replace H := Option.bind_eq_some_iff.mp H
                    obtain ⟨t140, A140, H⟩ := H
                    replace H : (spec_GoodScene.j1 k1 l0 x12_1 l0 (l0.length : Int) x12_1 (!t140) ((rd_T73 l0 x12_1).f0) ((rd_T73 l0 x12_1).f1) ((rd_T73 l0 x12_1).f2) ((rd_T73 l0 x12_1).f3) ((rd_T73 l0 x12_1).f4) ((rd_T73 l0 x12_1).f5)) = some r := H
                    have A14 := Aside0.mk A140
                    clear A140
                    have H' := Aside0.mk H
                    clear H
                    have hcz15_0 : w7.cell? ⟨gb133, 0, none⟩ = some (.string (⟨#[]⟩ : ByteArray)) := (blk_cell BK133.out 0).trans rfl
                    have hcz15_1 : w7.cell? ⟨gb133, 1, none⟩ = some (.int .i64 0) := (blk_cell BK133.out 1).trans rfl
                    have hcz15_2 : w7.cell? ⟨gb133, 2, none⟩ = some (.int .i64 0) := (blk_cell BK133.out 2).trans rfl
                    have hcz15_3 : w7.cell? ⟨gb133, 3, none⟩ = some (.int .i64 0) := (blk_cell BK133.out 3).trans rfl
                    have hcz15_4 : w7.cell? ⟨gb133, 4, none⟩ = some (.int .i64 0) := (blk_cell BK133.out 4).trans rfl
                    have hcz15_5 : w7.cell? ⟨gb133, 5, none⟩ = some (.bool false) := (blk_cell BK133.out 5).trans rfl
                    have hfz15_0 := blk_frozen BK133.out 0
                    have hfz15_1 := blk_frozen BK133.out 1
                    have hfz15_2 := blk_frozen BK133.out 2
                    have hfz15_3 := blk_frozen BK133.out 3
                    have hfz15_4 := blk_frozen BK133.out 4
                    have hfz15_5 := blk_frozen BK133.out 5
                    go_wp2_with (first | ((with_reducible refine gate_callee (f := 53) rfl ?_); refine goesL_ (some 19) rfl rfl Try.func53 (by kernel_rfl) rfl #[.string ((rd_T73 l0 x12_1).f0)] rfl (by (try simp only [List.map_toArray, List.map_cons, List.map_nil]); first | done | rfl | (simp only [List.length_drop, List.length_take]; rfl)) ?_; (with_reducible refine (spec_GoodName.calls k1 ((rd_T73 l0 x12_1).f0) true _ A9.out).mono ?_); rintro e w' ⟨rfl, ⟨nd, rfl⟩⟩; refine ⟨_, rfl, ?_⟩) | (go_at_call 54; (with_reducible refine (spec_l1In.calls ((rd_T73 l0 x12_1).f1) (-1) (wrap64 (x12_1 - 1)) true _ A11.out).mono ?_); rintro e w' ⟨rfl, ⟨nd, rfl⟩⟩) | (go_at_call 55; (with_reducible refine (spec_l4Spot.calls ((rd_T73 l0 x12_1).f0) ((rd_T73 l0 x12_1).f1) ((rd_T73 l0 x12_1).f2) ((rd_T73 l0 x12_1).f3) ((rd_T73 l0 x12_1).f4) ((rd_T73 l0 x12_1).f5) t136 t137 t138 t139 _ A13.out).mono ?_); rintro e w16 ⟨rfl, hb⟩; have n0_ := Aside0.mk (blk_below (g := gb133) (o := .cells #[.string ((rd_T73 l0 x12_1).f0), .int .i64 ((rd_T73 l0 x12_1).f1), .int .i64 ((rd_T73 l0 x12_1).f2), .int .i64 ((rd_T73 l0 x12_1).f3), .int .i64 ((rd_T73 l0 x12_1).f4), .bool ((rd_T73 l0 x12_1).f5)] 73 (0, 0)) (by (with_reducible repeat (first | refine blk_drewN ?_ _ | refine blk_drew ?_ | refine blk_alloc ?_ _)); refine blk_put (cs := #[.string ((rd_T73 l0 x12_1).f0), .int .i64 ((rd_T73 l0 x12_1).f1), .int .i64 ((rd_T73 l0 x12_1).f2), .int .i64 ((rd_T73 l0 x12_1).f3), .int .i64 ((rd_T73 l0 x12_1).f4), .bool false]) ?_ 5 _ rfl; (with_reducible repeat (first | refine blk_drewN ?_ _ | refine blk_drew ?_ | refine blk_alloc ?_ _)); refine blk_put (cs := #[.string ((rd_T73 l0 x12_1).f0), .int .i64 ((rd_T73 l0 x12_1).f1), .int .i64 ((rd_T73 l0 x12_1).f2), .int .i64 ((rd_T73 l0 x12_1).f3), .int .i64 0, .bool false]) ?_ 4 _ rfl; (with_reducible repeat (first | refine blk_drewN ?_ _ | refine blk_drew ?_ | refine blk_alloc ?_ _)); refine blk_put (cs := #[.string ((rd_T73 l0 x12_1).f0), .int .i64 ((rd_T73 l0 x12_1).f1), .int .i64 ((rd_T73 l0 x12_1).f2), .int .i64 0, .int .i64 0, .bool false]) ?_ 3 _ rfl; (with_reducible repeat (first | refine blk_drewN ?_ _ | refine blk_drew ?_ | refine blk_alloc ?_ _)); refine blk_put (cs := #[.string ((rd_T73 l0 x12_1).f0), .int .i64 ((rd_T73 l0 x12_1).f1), .int .i64 0, .int .i64 0, .int .i64 0, .bool false]) ?_ 2 _ rfl; (with_reducible repeat (first | refine blk_drewN ?_ _ | refine blk_drew ?_ | refine blk_alloc ?_ _)); refine blk_put (cs := #[.string ((rd_T73 l0 x12_1).f0), .int .i64 0, .int .i64 0, .int .i64 0, .int .i64 0, .bool false]) ?_ 1 _ rfl; (with_reducible repeat (first | refine blk_drewN ?_ _ | refine blk_drew ?_ | refine blk_alloc ?_ _)); refine blk_put (cs := #[.string (⟨#[]⟩ : ByteArray), .int .i64 0, .int .i64 0, .int .i64 0, .int .i64 0, .bool false]) ?_ 0 _ rfl; (with_reducible repeat (first | refine blk_drewN ?_ _ | refine blk_drew ?_ | refine blk_alloc ?_ _)); exact BK133.out) hb); have n1_ := Aside0.mk (below_step (by repeat (first | (with_reducible first | exact HB.out | apply below_alloc | apply pw_below_drewN | apply below_drew1 | refine below_set ?_ GE133.out) | exact HB.out)) hb); clear BK133; clear HB; have BK133 := n0_; have HB := n1_; clear n0_ n1_; (try clear hb); (try clear hb2); (try clear hk); (try clear hi)) | (go_at_call 48; (with_reducible refine (spec_l4Good.calls t136 t137 t138 t139 t140 _ A14.out).mono ?_); rintro e w17 ⟨rfl, hb⟩; have n0_ := Aside0.mk (blk_below (g := gb133) (o := .cells #[.string ((rd_T73 l0 x12_1).f0), .int .i64 ((rd_T73 l0 x12_1).f1), .int .i64 ((rd_T73 l0 x12_1).f2), .int .i64 ((rd_T73 l0 x12_1).f3), .int .i64 ((rd_T73 l0 x12_1).f4), .bool ((rd_T73 l0 x12_1).f5)] 73 (0, 0)) (by (with_reducible repeat (first | refine blk_drewN ?_ _ | refine blk_drew ?_ | refine blk_alloc ?_ _)); exact BK133.out) hb); have n1_ := Aside0.mk (below_step (by repeat (first | (with_reducible first | exact HB.out | apply below_alloc | apply pw_below_drewN | apply below_drew1 | refine below_set ?_ GE133.out) | exact HB.out)) hb); clear BK133; clear HB; have BK133 := n0_; have HB := n1_; clear n0_ n1_; (try clear hb); (try clear hb2); (try clear hk); (try clear hi)))
                    go_meet
                    case rel => exact ⟨_, (!t140), (by first | rfl | (simp; done) | (simp [*]; done)), H', ⟨by have := HK1.out; first | omega | exact Nat.le_refl _⟩, ⟨by (with_reducible repeat (first | refine blk_drewN ?_ _ | refine blk_drew ?_ | refine blk_alloc ?_ _)); exact BK133.out⟩, ⟨by repeat (first | (with_reducible first | exact HB.out | apply below_alloc | apply pw_below_drewN | apply below_drew1 | refine below_set ?_ GE133.out) | exact HB.out)⟩⟩
                  · replace c12 := Bool.eq_false_iff.mpr c12
                    subst c12
                    have H1 : (spec_GoodScene.j1 k1 l0 x12_1 l0 (l0.length : Int) x12_1 true ((rd_T73 l0 x12_1).f0) ((rd_T73 l0 x12_1).f1) ((rd_T73 l0 x12_1).f2) ((rd_T73 l0 x12_1).f3) ((rd_T73 l0 x12_1).f4) ((rd_T73 l0 x12_1).f5)) = some r := by rw [if_neg (show ¬ (false = true) by decide)] at H; exact H
                    clear H
                    have H := H1
                    clear H1
                    have H' := Aside0.mk H
                    clear H
                    have hcz18_0 : w7.cell? ⟨gb133, 0, none⟩ = some (.string (⟨#[]⟩ : ByteArray)) := (blk_cell BK133.out 0).trans rfl
                    have hcz18_1 : w7.cell? ⟨gb133, 1, none⟩ = some (.int .i64 0) := (blk_cell BK133.out 1).trans rfl
                    have hcz18_2 : w7.cell? ⟨gb133, 2, none⟩ = some (.int .i64 0) := (blk_cell BK133.out 2).trans rfl
                    have hcz18_3 : w7.cell? ⟨gb133, 3, none⟩ = some (.int .i64 0) := (blk_cell BK133.out 3).trans rfl
                    have hcz18_4 : w7.cell? ⟨gb133, 4, none⟩ = some (.int .i64 0) := (blk_cell BK133.out 4).trans rfl
                    have hcz18_5 : w7.cell? ⟨gb133, 5, none⟩ = some (.bool false) := (blk_cell BK133.out 5).trans rfl
                    have hfz18_0 := blk_frozen BK133.out 0
                    have hfz18_1 := blk_frozen BK133.out 1
                    have hfz18_2 := blk_frozen BK133.out 2
                    have hfz18_3 := blk_frozen BK133.out 3
                    have hfz18_4 := blk_frozen BK133.out 4
                    have hfz18_5 := blk_frozen BK133.out 5
                    go_wp2_with (first | ((with_reducible refine gate_callee (f := 53) rfl ?_); refine goesL_ (some 19) rfl rfl Try.func53 (by kernel_rfl) rfl #[.string ((rd_T73 l0 x12_1).f0)] rfl (by (try simp only [List.map_toArray, List.map_cons, List.map_nil]); first | done | rfl | (simp only [List.length_drop, List.length_take]; rfl)) ?_; (with_reducible refine (spec_GoodName.calls k1 ((rd_T73 l0 x12_1).f0) true _ A9.out).mono ?_); rintro e w' ⟨rfl, ⟨nd, rfl⟩⟩; refine ⟨_, rfl, ?_⟩) | (go_at_call 54; (with_reducible refine (spec_l1In.calls ((rd_T73 l0 x12_1).f1) (-1) (wrap64 (x12_1 - 1)) false _ A11.out).mono ?_); rintro e w' ⟨rfl, ⟨nd, rfl⟩⟩))
                    go_meet
                    case rel => exact ⟨_, (true), (by first | rfl | (simp; done) | (simp [*]; done)), H', ⟨by have := HK1.out; first | omega | exact Nat.le_refl _⟩, ⟨by (with_reducible repeat (first | refine blk_drewN ?_ _ | refine blk_drew ?_ | refine blk_alloc ?_ _)); refine blk_put (cs := #[.string ((rd_T73 l0 x12_1).f0), .int .i64 ((rd_T73 l0 x12_1).f1), .int .i64 ((rd_T73 l0 x12_1).f2), .int .i64 ((rd_T73 l0 x12_1).f3), .int .i64 ((rd_T73 l0 x12_1).f4), .bool false]) ?_ 5 _ rfl; (with_reducible repeat (first | refine blk_drewN ?_ _ | refine blk_drew ?_ | refine blk_alloc ?_ _)); refine blk_put (cs := #[.string ((rd_T73 l0 x12_1).f0), .int .i64 ((rd_T73 l0 x12_1).f1), .int .i64 ((rd_T73 l0 x12_1).f2), .int .i64 ((rd_T73 l0 x12_1).f3), .int .i64 0, .bool false]) ?_ 4 _ rfl; (with_reducible repeat (first | refine blk_drewN ?_ _ | refine blk_drew ?_ | refine blk_alloc ?_ _)); refine blk_put (cs := #[.string ((rd_T73 l0 x12_1).f0), .int .i64 ((rd_T73 l0 x12_1).f1), .int .i64 ((rd_T73 l0 x12_1).f2), .int .i64 0, .int .i64 0, .bool false]) ?_ 3 _ rfl; (with_reducible repeat (first | refine blk_drewN ?_ _ | refine blk_drew ?_ | refine blk_alloc ?_ _)); refine blk_put (cs := #[.string ((rd_T73 l0 x12_1).f0), .int .i64 ((rd_T73 l0 x12_1).f1), .int .i64 0, .int .i64 0, .int .i64 0, .bool false]) ?_ 2 _ rfl; (with_reducible repeat (first | refine blk_drewN ?_ _ | refine blk_drew ?_ | refine blk_alloc ?_ _)); refine blk_put (cs := #[.string ((rd_T73 l0 x12_1).f0), .int .i64 0, .int .i64 0, .int .i64 0, .int .i64 0, .bool false]) ?_ 1 _ rfl; (with_reducible repeat (first | refine blk_drewN ?_ _ | refine blk_drew ?_ | refine blk_alloc ?_ _)); refine blk_put (cs := #[.string (⟨#[]⟩ : ByteArray), .int .i64 0, .int .i64 0, .int .i64 0, .int .i64 0, .bool false]) ?_ 0 _ rfl; (with_reducible repeat (first | refine blk_drewN ?_ _ | refine blk_drew ?_ | refine blk_alloc ?_ _)); exact BK133.out⟩, ⟨by repeat (first | (with_reducible first | exact HB.out | apply below_alloc | apply pw_below_drewN | apply below_drew1 | refine below_set ?_ GE133.out) | exact HB.out)⟩⟩
                · replace c10 := Bool.eq_false_iff.mpr c10
                  subst c10
                  have H1 : (spec_GoodScene.j1 k1 l0 x12_1 l0 (l0.length : Int) x12_1 true ((rd_T73 l0 x12_1).f0) ((rd_T73 l0 x12_1).f1) ((rd_T73 l0 x12_1).f2) ((rd_T73 l0 x12_1).f3) ((rd_T73 l0 x12_1).f4) ((rd_T73 l0 x12_1).f5)) = some r := by rw [if_neg (show ¬ (false = true) by decide)] at H; exact H
                  clear H
                  have H := H1
                  clear H1
                  have H' := Aside0.mk H
                  clear H
                  have hcz19_0 : w7.cell? ⟨gb133, 0, none⟩ = some (.string (⟨#[]⟩ : ByteArray)) := (blk_cell BK133.out 0).trans rfl
                  have hcz19_1 : w7.cell? ⟨gb133, 1, none⟩ = some (.int .i64 0) := (blk_cell BK133.out 1).trans rfl
                  have hcz19_2 : w7.cell? ⟨gb133, 2, none⟩ = some (.int .i64 0) := (blk_cell BK133.out 2).trans rfl
                  have hcz19_3 : w7.cell? ⟨gb133, 3, none⟩ = some (.int .i64 0) := (blk_cell BK133.out 3).trans rfl
                  have hcz19_4 : w7.cell? ⟨gb133, 4, none⟩ = some (.int .i64 0) := (blk_cell BK133.out 4).trans rfl
                  have hcz19_5 : w7.cell? ⟨gb133, 5, none⟩ = some (.bool false) := (blk_cell BK133.out 5).trans rfl
                  have hfz19_0 := blk_frozen BK133.out 0
                  have hfz19_1 := blk_frozen BK133.out 1
                  have hfz19_2 := blk_frozen BK133.out 2
                  have hfz19_3 := blk_frozen BK133.out 3
                  have hfz19_4 := blk_frozen BK133.out 4
                  have hfz19_5 := blk_frozen BK133.out 5
                  go_wp2_with (first | ((with_reducible refine gate_callee (f := 53) rfl ?_); refine goesL_ (some 19) rfl rfl Try.func53 (by kernel_rfl) rfl #[.string ((rd_T73 l0 x12_1).f0)] rfl (by (try simp only [List.map_toArray, List.map_cons, List.map_nil]); first | done | rfl | (simp only [List.length_drop, List.length_take]; rfl)) ?_; (with_reducible refine (spec_GoodName.calls k1 ((rd_T73 l0 x12_1).f0) false _ A9.out).mono ?_); rintro e w' ⟨rfl, ⟨nd, rfl⟩⟩; refine ⟨_, rfl, ?_⟩))
                  go_meet
                  case rel => exact ⟨_, (true), (by first | rfl | (simp; done) | (simp [*]; done)), H', ⟨by have := HK1.out; first | omega | exact Nat.le_refl _⟩, ⟨by (with_reducible repeat (first | refine blk_drewN ?_ _ | refine blk_drew ?_ | refine blk_alloc ?_ _)); refine blk_put (cs := #[.string ((rd_T73 l0 x12_1).f0), .int .i64 ((rd_T73 l0 x12_1).f1), .int .i64 ((rd_T73 l0 x12_1).f2), .int .i64 ((rd_T73 l0 x12_1).f3), .int .i64 ((rd_T73 l0 x12_1).f4), .bool false]) ?_ 5 _ rfl; (with_reducible repeat (first | refine blk_drewN ?_ _ | refine blk_drew ?_ | refine blk_alloc ?_ _)); refine blk_put (cs := #[.string ((rd_T73 l0 x12_1).f0), .int .i64 ((rd_T73 l0 x12_1).f1), .int .i64 ((rd_T73 l0 x12_1).f2), .int .i64 ((rd_T73 l0 x12_1).f3), .int .i64 0, .bool false]) ?_ 4 _ rfl; (with_reducible repeat (first | refine blk_drewN ?_ _ | refine blk_drew ?_ | refine blk_alloc ?_ _)); refine blk_put (cs := #[.string ((rd_T73 l0 x12_1).f0), .int .i64 ((rd_T73 l0 x12_1).f1), .int .i64 ((rd_T73 l0 x12_1).f2), .int .i64 0, .int .i64 0, .bool false]) ?_ 3 _ rfl; (with_reducible repeat (first | refine blk_drewN ?_ _ | refine blk_drew ?_ | refine blk_alloc ?_ _)); refine blk_put (cs := #[.string ((rd_T73 l0 x12_1).f0), .int .i64 ((rd_T73 l0 x12_1).f1), .int .i64 0, .int .i64 0, .int .i64 0, .bool false]) ?_ 2 _ rfl; (with_reducible repeat (first | refine blk_drewN ?_ _ | refine blk_drew ?_ | refine blk_alloc ?_ _)); refine blk_put (cs := #[.string ((rd_T73 l0 x12_1).f0), .int .i64 0, .int .i64 0, .int .i64 0, .int .i64 0, .bool false]) ?_ 1 _ rfl; (with_reducible repeat (first | refine blk_drewN ?_ _ | refine blk_drew ?_ | refine blk_alloc ?_ _)); refine blk_put (cs := #[.string (⟨#[]⟩ : ByteArray), .int .i64 0, .int .i64 0, .int .i64 0, .int .i64 0, .bool false]) ?_ 0 _ rfl; (with_reducible repeat (first | refine blk_drewN ?_ _ | refine blk_drew ?_ | refine blk_alloc ?_ _)); exact BK133.out⟩, ⟨by repeat (first | (with_reducible first | exact HB.out | apply below_alloc | apply pw_below_drewN | apply below_drew1 | refine below_set ?_ GE133.out) | exact HB.out)⟩⟩
              case rest =>
                clear HC6
                try clear c1
                try clear p1
                try clear q1
                try clear hx1
                try clear c2
                try clear c2b0
                try clear c2b1
                try clear p2
                try clear c3
                try clear c3b0
                try clear c4
                try clear c4b0
                try clear c5
                try clear c5b0
                try clear p6
                try clear c10
                try clear c12
                try clear p13
                try clear q13
                try clear hx13
                try clear c18
                try clear hcz15_0
                try clear hcz15_1
                try clear hcz15_2
                try clear hcz15_3
                try clear hcz15_4
                try clear hcz15_5
                try clear hcz18_0
                try clear hcz18_1
                try clear hcz18_2
                try clear hcz18_3
                try clear hcz18_4
                try clear hcz18_5
                try clear hcz19_0
                try clear hcz19_1
                try clear hcz19_2
                try clear hcz19_3
                try clear hcz19_4
                try clear hcz19_5
                try clear hcz8_0
                try clear hcz8_1
                try clear hcz8_2
                try clear hcz8_3
                try clear hcz8_4
                try clear hcz8_5
                try clear hfz15_0
                try clear hfz15_1
                try clear hfz15_2
                try clear hfz15_3
                try clear hfz15_4
                try clear hfz15_5
                try clear hfz18_0
                try clear hfz18_1
                try clear hfz18_2
                try clear hfz18_3
                try clear hfz18_4
                try clear hfz18_5
                try clear hfz19_0
                try clear hfz19_1
                try clear hfz19_2
                try clear hfz19_3
                try clear hfz19_4
                try clear hfz19_5
                try clear hfz8_0
                try clear hfz8_1
                try clear hfz8_2
                try clear hfz8_3
                try clear hfz8_4
                try clear hfz8_5
                try clear hx132_0
                try clear hx132_1
                try clear hx132_2
                try clear hx132_3
                try clear hx132_4
                try clear hx132_5
                try clear p132
                try clear p2
                try clear q132
                obtain ⟨kq, x34_5, rfl, HA, HJ5, BK133, HB⟩ := hcut
                cases kq with
                | zero => exact absurd HA.out (by simp [spec_GoodScene.j1])
                | succ kj5 =>
                  have H := HA.out
                  clear HA
                  simp only [spec_GoodScene.j1] at H
                  by_cases c20 : x34_5 = true
                  · subst c20
                    have H1 : (some false) = some r := by rw [if_pos rfl] at H; exact H
                    clear H
                    have H := H1
                    clear H1
                    obtain rfl := Option.some.inj H
                    go_wp2
                    go_ret
                    exact ⟨by first | rfl | (simp [errW_none, errW_some] <;> rfl) | (simp [*, errW_none, errW_some] <;> rfl), by repeat (first | (with_reducible first | exact HB.out | apply below_alloc | apply pw_below_drewN | apply below_drew1 | refine below_set ?_ GE133.out) | exact HB.out)⟩
                  · replace c20 := Bool.eq_false_iff.mpr c20
                    subst c20
                    have H1 : (if 0 ≤ x12_1 then (if x12_1 ≤ (l0.length : Int) then ((some (l0.take (x12_1 : Int).toNat : List (S73))).bind fun y141 => (spec_GoodScene.l1 kj5 l0 l0 (l0.length : Int) x12_1 y141 (y141.length : Int) 0 ((rd_T73 l0 x12_1).f0) ((rd_T73 l0 x12_1).f1) ((rd_T73 l0 x12_1).f2) ((rd_T73 l0 x12_1).f3) ((rd_T73 l0 x12_1).f4) ((rd_T73 l0 x12_1).f5))) else (none)) else (none)) = some r := by rw [if_neg (show ¬ (false = true) by decide)] at H; exact H
                    clear H
                    have H := H1
                    clear H1
                    by_cases c21 : 0 ≤ x12_1
                    · rw [if_pos c21] at H
                      have c21b0 := eq_true c21
                      have c21b1 : decide (0 ≤ x12_1) = true := decide_eq_true c21
                      clear c21
                      by_cases c22 : x12_1 ≤ (l0.length : Int)
                      · rw [if_pos c22] at H
                        have c22b0 := eq_true c22
                        have c22b1 : decide (x12_1 ≤ (l0.length : Int)) = true := decide_eq_true c22
                        clear c22
                        obtain ⟨y141, hy141⟩ : ∃ y_ : List (S73), y_ = (l0.take (x12_1 : Int).toNat) := ⟨_, rfl⟩
                        replace H : (spec_GoodScene.l1 kj5 l0 l0 (l0.length : Int) x12_1 y141 (y141.length : Int) 0 ((rd_T73 l0 x12_1).f0) ((rd_T73 l0 x12_1).f1) ((rd_T73 l0 x12_1).f2) ((rd_T73 l0 x12_1).f3) ((rd_T73 l0 x12_1).f4) ((rd_T73 l0 x12_1).f5)) = some r := by first | (rw [hy141]; with_reducible exact H) | (have H2_ := (Option.bind_some _ _).symm.trans H; rw [hy141]; with_reducible exact H2_) | (have H2_ := (Option.bind_some _ _).symm.trans H; with_reducible exact H2_) | with_reducible exact H | (rw [hy141]; exact H) | exact H
                        have Ny141 := Aside0.mk hy141
                        clear hy141
                        have H' := Aside0.mk H
                        clear H
                        have q23 : (x12_1 : Int) ≤ ((l0.length : Int) : Int) := of_decide_eq_true (by first | (with_reducible assumption) | assumption)
                        obtain ⟨i023, hi023, _, hsz23, _⟩ := info_parts info73
                        have hroom23 : l0.length ≤ c0 := HC0.out
                        have hC23 : Kd.C k73 _ (some ad132) l0.length l0 := HR0.out
                        have hcut23 := cut_to (P := Try.prog) 33 73 .i64 Try.underlying33 hi023 (some ad132) l0.length c0 x12_1 (of_decide_eq_true (by first | (with_reducible assumption) | assumption)) q23 hroom23
                        have hr23 := Kd.C_take (m := (x12_1 : Int).toNat) hC23 (by omega)
                        have hy23 : y141.length = (x12_1 : Int).toNat := (by rw [Ny141.out, List.length_take]; omega)
                        rw [← Ny141.out] at hr23
                        rw [← hy23] at hcut23
                        have HR144 := Aside0.mk hr23
                        have HC144 := Aside0.mk (show y141.length ≤ c0 from by omega)
                        clear hr23 hC23 hroom23 hi023 hsz23
                        have KY23 := Aside0.mk hy23
                        clear hy23
                        replace q23 := eq_true q23
                        go_wp2
                        go_loopg [39] kj5 (fun kq v39 w' => ∃ (x39_3 : Int), v39 = .int .i64 x39_3 ∧ Aside0 (spec_GoodScene.l1 kq l0 l0 (l0.length : Int) x12_1 y141 (y141.length : Int) x39_3 ((rd_T73 l0 x12_1).f0) ((rd_T73 l0 x12_1).f1) ((rd_T73 l0 x12_1).f2) ((rd_T73 l0 x12_1).f3) ((rd_T73 l0 x12_1).f4) ((rd_T73 l0 x12_1).f5) = some r) ∧ Aside0 (kq ≤ kj5) ∧ Aside0 (w'.heap[gb133]? = some (.cells #[.string ((rd_T73 l0 x12_1).f0), .int .i64 ((rd_T73 l0 x12_1).f1), .int .i64 ((rd_T73 l0 x12_1).f2), .int .i64 ((rd_T73 l0 x12_1).f3), .int .i64 ((rd_T73 l0 x12_1).f4), .bool ((rd_T73 l0 x12_1).f5)] 73 (0, 0))) ∧ Aside0 (Below w.heap.size w w'))
                        case atStart => exact ⟨(0), (by first | rfl | (simp; done) | (simp [*]; done)), H', ⟨Nat.le_refl _⟩, ⟨by (with_reducible repeat (first | refine blk_drewN ?_ _ | refine blk_drew ?_ | refine blk_alloc ?_ _)); exact BK133.out⟩, ⟨by repeat (first | (with_reducible first | exact HB.out | apply below_alloc | apply pw_below_drewN | apply below_drew1 | refine below_set ?_ GE133.out) | exact HB.out)⟩⟩
                        case round =>
                          clear H'
                          try clear c1
                          try clear p1
                          try clear q1
                          try clear hx1
                          try clear c2
                          try clear c2b0
                          try clear c2b1
                          try clear p2
                          try clear q2
                          try clear c3
                          try clear c3b0
                          try clear c4
                          try clear c4b0
                          try clear c5
                          try clear c5b0
                          try clear p6
                          try clear c10
                          try clear c12
                          try clear p13
                          try clear q13
                          try clear hx13
                          try clear c18
                          try clear c20
                          try clear c21
                          try clear c21b0
                          try clear c21b1
                          try clear c22
                          try clear c22b0
                          try clear c22b1
                          try clear q23
                          try clear hcz15_0
                          try clear hcz15_1
                          try clear hcz15_2
                          try clear hcz15_3
                          try clear hcz15_4
                          try clear hcz15_5
                          try clear hcz18_0
                          try clear hcz18_1
                          try clear hcz18_2
                          try clear hcz18_3
                          try clear hcz18_4
                          try clear hcz18_5
                          try clear hcz19_0
                          try clear hcz19_1
                          try clear hcz19_2
                          try clear hcz19_3
                          try clear hcz19_4
                          try clear hcz19_5
                          try clear hcz8_0
                          try clear hcz8_1
                          try clear hcz8_2
                          try clear hcz8_3
                          try clear hcz8_4
                          try clear hcz8_5
                          try clear hfz15_0
                          try clear hfz15_1
                          try clear hfz15_2
                          try clear hfz15_3
                          try clear hfz15_4
                          try clear hfz15_5
                          try clear hfz18_0
                          try clear hfz18_1
                          try clear hfz18_2
                          try clear hfz18_3
                          try clear hfz18_4
                          try clear hfz18_5
                          try clear hfz19_0
                          try clear hfz19_1
                          try clear hfz19_2
                          try clear hfz19_3
                          try clear hfz19_4
                          try clear hfz19_5
                          try clear hfz8_0
                          try clear hfz8_1
                          try clear hfz8_2
                          try clear hfz8_3
                          try clear hfz8_4
                          try clear hfz8_5
                          try clear hx132_0
                          try clear hx132_1
                          try clear hx132_2
                          try clear hx132_3
                          try clear hx132_4
                          try clear hx132_5
                          try clear p1
                          try clear p13
                          try clear p132
                          try clear p2
                          try clear p6
                          try clear q1
                          try clear q13
                          try clear q132
                          try clear q23
                          obtain ⟨x39_3, rfl, HA, HK3, BK133, HB⟩ := hrel
                          cases gk with
                          | zero => exact absurd HA.out (by simp [spec_GoodScene.l1])
                          | succ k3 =>
                            have H := HA.out
                            clear HA
                            simp only [spec_GoodScene.l1] at H
                            by_cases c24 : x39_3 < (y141.length : Int)
                            · rw [if_pos c24] at H
                              have c24b0 : decide (x39_3 < (y141.length : Int)) = true := decide_eq_true c24
                              clear c24
                              by_cases c25 : 0 ≤ x39_3
                              · rw [if_pos c25] at H
                                have c25b0 : decide (0 ≤ x39_3) = true := decide_eq_true c25
                                clear c25
                                by_cases c26 : x39_3 < (y141.length : Int)
                                · rw [if_pos c26] at H
                                  have c26b0 : decide (x39_3 < (y141.length : Int)) = true := decide_eq_true c26
                                  clear c26
                                  by_cases c27 : ((rd_T73 y141 x39_3).f1) = ((rd_T73 l0 x12_1).f1)
                                  · rw [if_pos c27] at H
                                    have c27b0 : (((rd_T73 y141 x39_3).f1) == ((rd_T73 l0 x12_1).f1)) = true := beq_iff_eq.mpr c27
                                    have c27b1 : (((rd_T73 y141 x39_3).f1) != ((rd_T73 l0 x12_1).f1)) = false := bne_eq_false_iff_eq.mpr c27
                                    clear c27
                                    by_cases c28 : ((rd_T73 y141 x39_3).f0).toList = ((rd_T73 l0 x12_1).f0).toList
                                    · rw [if_pos c28] at H
                                      have c28b0 : (((rd_T73 y141 x39_3).f0).toList == ((rd_T73 l0 x12_1).f0).toList) = true := beq_iff_eq.mpr c28
                                      have c28b1 : (((rd_T73 y141 x39_3).f0).toList != ((rd_T73 l0 x12_1).f0).toList) = false := bne_eq_false_iff_eq.mpr c28
                                      clear c28
                                      obtain rfl := Option.some.inj H
                                      have p145 : 0 ≤ (x39_3 : Int) := of_decide_eq_true (by first | (with_reducible assumption) | assumption)
                                      have q145 : x39_3 < (y141.length : Int) := of_decide_eq_true (by first | (with_reducible assumption) | assumption)
                                      obtain ⟨ad145, e145, hx145_0, hx145_1, hx145_2, hx145_3, hx145_4, hx145_5⟩ := at_T73 HR144.out x39_3 p145 q145
                                      obtain rfl : ad132 = ad145 := (by injection e145)
                                      replace hx145_0 := (HB.out.cell (World.block_lt_of_cell? w _ hx145_0)).trans hx145_0
                                      replace hx145_1 := (HB.out.cell (World.block_lt_of_cell? w _ hx145_1)).trans hx145_1
                                      replace hx145_2 := (HB.out.cell (World.block_lt_of_cell? w _ hx145_2)).trans hx145_2
                                      replace hx145_3 := (HB.out.cell (World.block_lt_of_cell? w _ hx145_3)).trans hx145_3
                                      replace hx145_4 := (HB.out.cell (World.block_lt_of_cell? w _ hx145_4)).trans hx145_4
                                      replace hx145_5 := (HB.out.cell (World.block_lt_of_cell? w _ hx145_5)).trans hx145_5
                                      replace p145 := eq_true p145
                                      replace q145 := eq_true q145
                                      go_wp2_with (first | ((with_reducible refine gate_dst (N := 6) rfl ?_); refine box_event ?hg (N := 6) ?hd (cs := #[.string (⟨#[]⟩ : ByteArray), .int .i64 0, .int .i64 0, .int .i64 0, .int .i64 0, .bool false]) (t := 73) ?hr ?_; (case hd => rfl); (case hg => rfl); (case hr => first | (go_simp; done) | (go_simp; rfl)); intro gb146 hg w29 hbox hb; have n0_ := Aside0.mk (blk_below (g := gb133) (o := .cells #[.string ((rd_T73 l0 x12_1).f0), .int .i64 ((rd_T73 l0 x12_1).f1), .int .i64 ((rd_T73 l0 x12_1).f2), .int .i64 ((rd_T73 l0 x12_1).f3), .int .i64 ((rd_T73 l0 x12_1).f4), .bool ((rd_T73 l0 x12_1).f5)] 73 (0, 0)) (by (with_reducible repeat (first | refine blk_drewN ?_ _ | refine blk_drew ?_ | refine blk_alloc ?_ _)); exact BK133.out) hb); have n1_ := Aside0.mk (below_step (by repeat (first | (with_reducible first | exact HB.out | apply below_alloc | apply pw_below_drewN | apply below_drew1 | refine below_set ?_ GE133.out) | exact HB.out)) hb); have n2_ := Aside0.mk (hbox); have n3_ := Aside0.mk ((by rw [hg]; exact (below_size (by repeat (first | (with_reducible first | exact HB.out | apply below_alloc | apply pw_below_drewN | apply below_drew1 | refine below_set ?_ GE133.out) | exact HB.out))) : w.heap.size ≤ gb146)); have n4_ := Aside0.mk ((by rw [hg]; exact (below_size (by repeat (first | (with_reducible first | exact HB.out | apply below_alloc | apply pw_below_drewN | apply below_drew1 | refine below_set ?_ GE133.out) | exact HB.out))) : w.heap.size ≤ gb146)); have n5_ := Aside0.mk ((by rw [hg]; exact Nat.ne_of_lt (blk_lt (g := gb133) (o := .cells #[.string ((rd_T73 l0 x12_1).f0), .int .i64 ((rd_T73 l0 x12_1).f1), .int .i64 ((rd_T73 l0 x12_1).f2), .int .i64 ((rd_T73 l0 x12_1).f3), .int .i64 ((rd_T73 l0 x12_1).f4), .bool ((rd_T73 l0 x12_1).f5)] 73 (0, 0)) (by (with_reducible repeat (first | refine blk_drewN ?_ _ | refine blk_drew ?_ | refine blk_alloc ?_ _)); exact BK133.out)) : gb133 ≠ gb146)); have n6_ := Aside0.mk ((by rw [hg]; exact Nat.ne_of_gt (blk_lt (g := gb133) (o := .cells #[.string ((rd_T73 l0 x12_1).f0), .int .i64 ((rd_T73 l0 x12_1).f1), .int .i64 ((rd_T73 l0 x12_1).f2), .int .i64 ((rd_T73 l0 x12_1).f3), .int .i64 ((rd_T73 l0 x12_1).f4), .bool ((rd_T73 l0 x12_1).f5)] 73 (0, 0)) (by (with_reducible repeat (first | refine blk_drewN ?_ _ | refine blk_drew ?_ | refine blk_alloc ?_ _)); exact BK133.out)) : gb146 ≠ gb133)); clear BK133; clear HB; have BK133 := n0_; have HB := n1_; have BK146 := n2_; have GW146 := n3_; have GE146 := n4_; have NB133_146 := n5_; have NB146_133 := n6_; clear n0_ n1_ n2_ n3_ n4_ n5_ n6_; clear hb hbox hg; have hnb30 := NB146_133.out; have hnc30 := NB133_146.out; have hcz31_0 : w29.cell? ⟨gb146, 0, none⟩ = some (.string (⟨#[]⟩ : ByteArray)) := (blk_cell BK146.out 0).trans rfl; have hcz31_1 : w29.cell? ⟨gb146, 1, none⟩ = some (.int .i64 0) := (blk_cell BK146.out 1).trans rfl; have hcz31_2 : w29.cell? ⟨gb146, 2, none⟩ = some (.int .i64 0) := (blk_cell BK146.out 2).trans rfl; have hcz31_3 : w29.cell? ⟨gb146, 3, none⟩ = some (.int .i64 0) := (blk_cell BK146.out 3).trans rfl; have hcz31_4 : w29.cell? ⟨gb146, 4, none⟩ = some (.int .i64 0) := (blk_cell BK146.out 4).trans rfl; have hcz31_5 : w29.cell? ⟨gb146, 5, none⟩ = some (.bool false) := (blk_cell BK146.out 5).trans rfl; have hfz31_0 := blk_frozen BK146.out 0; have hfz31_1 := blk_frozen BK146.out 1; have hfz31_2 := blk_frozen BK146.out 2; have hfz31_3 := blk_frozen BK146.out 3; have hfz31_4 := blk_frozen BK146.out 4; have hfz31_5 := blk_frozen BK146.out 5; have hcz32_0 : w29.cell? ⟨gb133, 0, none⟩ = some (.string ((rd_T73 l0 x12_1).f0)) := (blk_cell BK133.out 0).trans rfl; have hcz32_1 : w29.cell? ⟨gb133, 1, none⟩ = some (.int .i64 ((rd_T73 l0 x12_1).f1)) := (blk_cell BK133.out 1).trans rfl; have hcz32_2 : w29.cell? ⟨gb133, 2, none⟩ = some (.int .i64 ((rd_T73 l0 x12_1).f2)) := (blk_cell BK133.out 2).trans rfl; have hcz32_3 : w29.cell? ⟨gb133, 3, none⟩ = some (.int .i64 ((rd_T73 l0 x12_1).f3)) := (blk_cell BK133.out 3).trans rfl; have hcz32_4 : w29.cell? ⟨gb133, 4, none⟩ = some (.int .i64 ((rd_T73 l0 x12_1).f4)) := (blk_cell BK133.out 4).trans rfl; have hcz32_5 : w29.cell? ⟨gb133, 5, none⟩ = some (.bool ((rd_T73 l0 x12_1).f5)) := (blk_cell BK133.out 5).trans rfl; have hfz32_0 := blk_frozen BK133.out 0; have hfz32_1 := blk_frozen BK133.out 1; have hfz32_2 := blk_frozen BK133.out 2; have hfz32_3 := blk_frozen BK133.out 3; have hfz32_4 := blk_frozen BK133.out 4; have hfz32_5 := blk_frozen BK133.out 5))
                                      go_ret
                                      exact ⟨by first | rfl | (simp [errW_none, errW_some] <;> rfl) | (simp [*, errW_none, errW_some] <;> rfl), by repeat (first | (with_reducible first | exact HB.out | apply below_alloc | apply pw_below_drewN | apply below_drew1 | refine below_set ?_ GE133.out | refine below_set ?_ GE146.out) | exact HB.out)⟩
                                    · rw [if_neg c28] at H
                                      have c28b0 : (((rd_T73 y141 x39_3).f0).toList == ((rd_T73 l0 x12_1).f0).toList) = false := beq_eq_false_iff_ne.mpr c28
                                      have c28b1 : (((rd_T73 y141 x39_3).f0).toList != ((rd_T73 l0 x12_1).f0).toList) = true := bne_iff_ne.mpr c28
                                      have H' := Aside0.mk H
                                      clear H
                                      have p145 : 0 ≤ (x39_3 : Int) := of_decide_eq_true (by first | (with_reducible assumption) | assumption)
                                      have q145 : x39_3 < (y141.length : Int) := of_decide_eq_true (by first | (with_reducible assumption) | assumption)
                                      obtain ⟨ad145, e145, hx145_0, hx145_1, hx145_2, hx145_3, hx145_4, hx145_5⟩ := at_T73 HR144.out x39_3 p145 q145
                                      obtain rfl : ad132 = ad145 := (by injection e145)
                                      replace hx145_0 := (HB.out.cell (World.block_lt_of_cell? w _ hx145_0)).trans hx145_0
                                      replace hx145_1 := (HB.out.cell (World.block_lt_of_cell? w _ hx145_1)).trans hx145_1
                                      replace hx145_2 := (HB.out.cell (World.block_lt_of_cell? w _ hx145_2)).trans hx145_2
                                      replace hx145_3 := (HB.out.cell (World.block_lt_of_cell? w _ hx145_3)).trans hx145_3
                                      replace hx145_4 := (HB.out.cell (World.block_lt_of_cell? w _ hx145_4)).trans hx145_4
                                      replace hx145_5 := (HB.out.cell (World.block_lt_of_cell? w _ hx145_5)).trans hx145_5
                                      replace p145 := eq_true p145
                                      replace q145 := eq_true q145
                                      go_wp2_with (first | ((with_reducible refine gate_dst (N := 6) rfl ?_); refine box_event ?hg (N := 6) ?hd (cs := #[.string (⟨#[]⟩ : ByteArray), .int .i64 0, .int .i64 0, .int .i64 0, .int .i64 0, .bool false]) (t := 73) ?hr ?_; (case hd => rfl); (case hg => rfl); (case hr => first | (go_simp; done) | (go_simp; rfl)); intro gb146 hg w33 hbox hb; have n0_ := Aside0.mk (blk_below (g := gb133) (o := .cells #[.string ((rd_T73 l0 x12_1).f0), .int .i64 ((rd_T73 l0 x12_1).f1), .int .i64 ((rd_T73 l0 x12_1).f2), .int .i64 ((rd_T73 l0 x12_1).f3), .int .i64 ((rd_T73 l0 x12_1).f4), .bool ((rd_T73 l0 x12_1).f5)] 73 (0, 0)) (by (with_reducible repeat (first | refine blk_drewN ?_ _ | refine blk_drew ?_ | refine blk_alloc ?_ _)); exact BK133.out) hb); have n1_ := Aside0.mk (below_step (by repeat (first | (with_reducible first | exact HB.out | apply below_alloc | apply pw_below_drewN | apply below_drew1 | refine below_set ?_ GE133.out) | exact HB.out)) hb); have n2_ := Aside0.mk (hbox); have n3_ := Aside0.mk ((by rw [hg]; exact (below_size (by repeat (first | (with_reducible first | exact HB.out | apply below_alloc | apply pw_below_drewN | apply below_drew1 | refine below_set ?_ GE133.out) | exact HB.out))) : w.heap.size ≤ gb146)); have n4_ := Aside0.mk ((by rw [hg]; exact (below_size (by repeat (first | (with_reducible first | exact HB.out | apply below_alloc | apply pw_below_drewN | apply below_drew1 | refine below_set ?_ GE133.out) | exact HB.out))) : w.heap.size ≤ gb146)); have n5_ := Aside0.mk ((by rw [hg]; exact Nat.ne_of_lt (blk_lt (g := gb133) (o := .cells #[.string ((rd_T73 l0 x12_1).f0), .int .i64 ((rd_T73 l0 x12_1).f1), .int .i64 ((rd_T73 l0 x12_1).f2), .int .i64 ((rd_T73 l0 x12_1).f3), .int .i64 ((rd_T73 l0 x12_1).f4), .bool ((rd_T73 l0 x12_1).f5)] 73 (0, 0)) (by (with_reducible repeat (first | refine blk_drewN ?_ _ | refine blk_drew ?_ | refine blk_alloc ?_ _)); exact BK133.out)) : gb133 ≠ gb146)); have n6_ := Aside0.mk ((by rw [hg]; exact Nat.ne_of_gt (blk_lt (g := gb133) (o := .cells #[.string ((rd_T73 l0 x12_1).f0), .int .i64 ((rd_T73 l0 x12_1).f1), .int .i64 ((rd_T73 l0 x12_1).f2), .int .i64 ((rd_T73 l0 x12_1).f3), .int .i64 ((rd_T73 l0 x12_1).f4), .bool ((rd_T73 l0 x12_1).f5)] 73 (0, 0)) (by (with_reducible repeat (first | refine blk_drewN ?_ _ | refine blk_drew ?_ | refine blk_alloc ?_ _)); exact BK133.out)) : gb146 ≠ gb133)); clear BK133; clear HB; have BK133 := n0_; have HB := n1_; have BK146 := n2_; have GW146 := n3_; have GE146 := n4_; have NB133_146 := n5_; have NB146_133 := n6_; clear n0_ n1_ n2_ n3_ n4_ n5_ n6_; clear hb hbox hg; have hnb34 := NB146_133.out; have hnc34 := NB133_146.out; have hcz35_0 : w33.cell? ⟨gb146, 0, none⟩ = some (.string (⟨#[]⟩ : ByteArray)) := (blk_cell BK146.out 0).trans rfl; have hcz35_1 : w33.cell? ⟨gb146, 1, none⟩ = some (.int .i64 0) := (blk_cell BK146.out 1).trans rfl; have hcz35_2 : w33.cell? ⟨gb146, 2, none⟩ = some (.int .i64 0) := (blk_cell BK146.out 2).trans rfl; have hcz35_3 : w33.cell? ⟨gb146, 3, none⟩ = some (.int .i64 0) := (blk_cell BK146.out 3).trans rfl; have hcz35_4 : w33.cell? ⟨gb146, 4, none⟩ = some (.int .i64 0) := (blk_cell BK146.out 4).trans rfl; have hcz35_5 : w33.cell? ⟨gb146, 5, none⟩ = some (.bool false) := (blk_cell BK146.out 5).trans rfl; have hfz35_0 := blk_frozen BK146.out 0; have hfz35_1 := blk_frozen BK146.out 1; have hfz35_2 := blk_frozen BK146.out 2; have hfz35_3 := blk_frozen BK146.out 3; have hfz35_4 := blk_frozen BK146.out 4; have hfz35_5 := blk_frozen BK146.out 5; have hcz36_0 : w33.cell? ⟨gb133, 0, none⟩ = some (.string ((rd_T73 l0 x12_1).f0)) := (blk_cell BK133.out 0).trans rfl; have hcz36_1 : w33.cell? ⟨gb133, 1, none⟩ = some (.int .i64 ((rd_T73 l0 x12_1).f1)) := (blk_cell BK133.out 1).trans rfl; have hcz36_2 : w33.cell? ⟨gb133, 2, none⟩ = some (.int .i64 ((rd_T73 l0 x12_1).f2)) := (blk_cell BK133.out 2).trans rfl; have hcz36_3 : w33.cell? ⟨gb133, 3, none⟩ = some (.int .i64 ((rd_T73 l0 x12_1).f3)) := (blk_cell BK133.out 3).trans rfl; have hcz36_4 : w33.cell? ⟨gb133, 4, none⟩ = some (.int .i64 ((rd_T73 l0 x12_1).f4)) := (blk_cell BK133.out 4).trans rfl; have hcz36_5 : w33.cell? ⟨gb133, 5, none⟩ = some (.bool ((rd_T73 l0 x12_1).f5)) := (blk_cell BK133.out 5).trans rfl; have hfz36_0 := blk_frozen BK133.out 0; have hfz36_1 := blk_frozen BK133.out 1; have hfz36_2 := blk_frozen BK133.out 2; have hfz36_3 := blk_frozen BK133.out 3; have hfz36_4 := blk_frozen BK133.out 4; have hfz36_5 := blk_frozen BK133.out 5))
                                      go_roundg k3
                                      case measure => have := HK1.out; have := HJ5.out; have := HK3.out; omega
                                      case rel => exact ⟨(wrap64 (x39_3 + 1)), (by first | rfl | (simp; done) | (simp [*]; done)), H', ⟨by have := HK1.out; have := HJ5.out; have := HK3.out; omega⟩, ⟨by (with_reducible repeat (first | refine blk_drewN ?_ _ | refine blk_drew ?_ | refine blk_alloc ?_ _)); refine blk_far ?_ NB133_146.out _; (with_reducible repeat (first | refine blk_drewN ?_ _ | refine blk_drew ?_ | refine blk_alloc ?_ _)); refine blk_far ?_ NB133_146.out _; (with_reducible repeat (first | refine blk_drewN ?_ _ | refine blk_drew ?_ | refine blk_alloc ?_ _)); refine blk_far ?_ NB133_146.out _; (with_reducible repeat (first | refine blk_drewN ?_ _ | refine blk_drew ?_ | refine blk_alloc ?_ _)); refine blk_far ?_ NB133_146.out _; (with_reducible repeat (first | refine blk_drewN ?_ _ | refine blk_drew ?_ | refine blk_alloc ?_ _)); refine blk_far ?_ NB133_146.out _; (with_reducible repeat (first | refine blk_drewN ?_ _ | refine blk_drew ?_ | refine blk_alloc ?_ _)); refine blk_far ?_ NB133_146.out _; (with_reducible repeat (first | refine blk_drewN ?_ _ | refine blk_drew ?_ | refine blk_alloc ?_ _)); exact BK133.out⟩, ⟨by repeat (first | (with_reducible first | exact HB.out | apply below_alloc | apply pw_below_drewN | apply below_drew1 | refine below_set ?_ GE133.out | refine below_set ?_ GE146.out) | exact HB.out)⟩⟩
                                  · rw [if_neg c27] at H
                                    have c27b0 : (((rd_T73 y141 x39_3).f1) == ((rd_T73 l0 x12_1).f1)) = false := beq_eq_false_iff_ne.mpr c27
                                    have c27b1 : (((rd_T73 y141 x39_3).f1) != ((rd_T73 l0 x12_1).f1)) = true := bne_iff_ne.mpr c27
                                    have H' := Aside0.mk H
                                    clear H
                                    have p145 : 0 ≤ (x39_3 : Int) := of_decide_eq_true (by first | (with_reducible assumption) | assumption)
                                    have q145 : x39_3 < (y141.length : Int) := of_decide_eq_true (by first | (with_reducible assumption) | assumption)
                                    obtain ⟨ad145, e145, hx145_0, hx145_1, hx145_2, hx145_3, hx145_4, hx145_5⟩ := at_T73 HR144.out x39_3 p145 q145
                                    obtain rfl : ad132 = ad145 := (by injection e145)
                                    replace hx145_0 := (HB.out.cell (World.block_lt_of_cell? w _ hx145_0)).trans hx145_0
                                    replace hx145_1 := (HB.out.cell (World.block_lt_of_cell? w _ hx145_1)).trans hx145_1
                                    replace hx145_2 := (HB.out.cell (World.block_lt_of_cell? w _ hx145_2)).trans hx145_2
                                    replace hx145_3 := (HB.out.cell (World.block_lt_of_cell? w _ hx145_3)).trans hx145_3
                                    replace hx145_4 := (HB.out.cell (World.block_lt_of_cell? w _ hx145_4)).trans hx145_4
                                    replace hx145_5 := (HB.out.cell (World.block_lt_of_cell? w _ hx145_5)).trans hx145_5
                                    replace p145 := eq_true p145
                                    replace q145 := eq_true q145
                                    go_wp2_with (first | ((with_reducible refine gate_dst (N := 6) rfl ?_); refine box_event ?hg (N := 6) ?hd (cs := #[.string (⟨#[]⟩ : ByteArray), .int .i64 0, .int .i64 0, .int .i64 0, .int .i64 0, .bool false]) (t := 73) ?hr ?_; (case hd => rfl); (case hg => rfl); (case hr => first | (go_simp; done) | (go_simp; rfl)); intro gb146 hg w37 hbox hb; have n0_ := Aside0.mk (blk_below (g := gb133) (o := .cells #[.string ((rd_T73 l0 x12_1).f0), .int .i64 ((rd_T73 l0 x12_1).f1), .int .i64 ((rd_T73 l0 x12_1).f2), .int .i64 ((rd_T73 l0 x12_1).f3), .int .i64 ((rd_T73 l0 x12_1).f4), .bool ((rd_T73 l0 x12_1).f5)] 73 (0, 0)) (by (with_reducible repeat (first | refine blk_drewN ?_ _ | refine blk_drew ?_ | refine blk_alloc ?_ _)); exact BK133.out) hb); have n1_ := Aside0.mk (below_step (by repeat (first | (with_reducible first | exact HB.out | apply below_alloc | apply pw_below_drewN | apply below_drew1 | refine below_set ?_ GE133.out) | exact HB.out)) hb); have n2_ := Aside0.mk (hbox); have n3_ := Aside0.mk ((by rw [hg]; exact (below_size (by repeat (first | (with_reducible first | exact HB.out | apply below_alloc | apply pw_below_drewN | apply below_drew1 | refine below_set ?_ GE133.out) | exact HB.out))) : w.heap.size ≤ gb146)); have n4_ := Aside0.mk ((by rw [hg]; exact (below_size (by repeat (first | (with_reducible first | exact HB.out | apply below_alloc | apply pw_below_drewN | apply below_drew1 | refine below_set ?_ GE133.out) | exact HB.out))) : w.heap.size ≤ gb146)); have n5_ := Aside0.mk ((by rw [hg]; exact Nat.ne_of_lt (blk_lt (g := gb133) (o := .cells #[.string ((rd_T73 l0 x12_1).f0), .int .i64 ((rd_T73 l0 x12_1).f1), .int .i64 ((rd_T73 l0 x12_1).f2), .int .i64 ((rd_T73 l0 x12_1).f3), .int .i64 ((rd_T73 l0 x12_1).f4), .bool ((rd_T73 l0 x12_1).f5)] 73 (0, 0)) (by (with_reducible repeat (first | refine blk_drewN ?_ _ | refine blk_drew ?_ | refine blk_alloc ?_ _)); exact BK133.out)) : gb133 ≠ gb146)); have n6_ := Aside0.mk ((by rw [hg]; exact Nat.ne_of_gt (blk_lt (g := gb133) (o := .cells #[.string ((rd_T73 l0 x12_1).f0), .int .i64 ((rd_T73 l0 x12_1).f1), .int .i64 ((rd_T73 l0 x12_1).f2), .int .i64 ((rd_T73 l0 x12_1).f3), .int .i64 ((rd_T73 l0 x12_1).f4), .bool ((rd_T73 l0 x12_1).f5)] 73 (0, 0)) (by (with_reducible repeat (first | refine blk_drewN ?_ _ | refine blk_drew ?_ | refine blk_alloc ?_ _)); exact BK133.out)) : gb146 ≠ gb133)); clear BK133; clear HB; have BK133 := n0_; have HB := n1_; have BK146 := n2_; have GW146 := n3_; have GE146 := n4_; have NB133_146 := n5_; have NB146_133 := n6_; clear n0_ n1_ n2_ n3_ n4_ n5_ n6_; clear hb hbox hg; have hnb38 := NB146_133.out; have hnc38 := NB133_146.out; have hcz39_0 : w37.cell? ⟨gb146, 0, none⟩ = some (.string (⟨#[]⟩ : ByteArray)) := (blk_cell BK146.out 0).trans rfl; have hcz39_1 : w37.cell? ⟨gb146, 1, none⟩ = some (.int .i64 0) := (blk_cell BK146.out 1).trans rfl; have hcz39_2 : w37.cell? ⟨gb146, 2, none⟩ = some (.int .i64 0) := (blk_cell BK146.out 2).trans rfl; have hcz39_3 : w37.cell? ⟨gb146, 3, none⟩ = some (.int .i64 0) := (blk_cell BK146.out 3).trans rfl; have hcz39_4 : w37.cell? ⟨gb146, 4, none⟩ = some (.int .i64 0) := (blk_cell BK146.out 4).trans rfl; have hcz39_5 : w37.cell? ⟨gb146, 5, none⟩ = some (.bool false) := (blk_cell BK146.out 5).trans rfl; have hfz39_0 := blk_frozen BK146.out 0; have hfz39_1 := blk_frozen BK146.out 1; have hfz39_2 := blk_frozen BK146.out 2; have hfz39_3 := blk_frozen BK146.out 3; have hfz39_4 := blk_frozen BK146.out 4; have hfz39_5 := blk_frozen BK146.out 5; have hcz40_0 : w37.cell? ⟨gb133, 0, none⟩ = some (.string ((rd_T73 l0 x12_1).f0)) := (blk_cell BK133.out 0).trans rfl; have hcz40_1 : w37.cell? ⟨gb133, 1, none⟩ = some (.int .i64 ((rd_T73 l0 x12_1).f1)) := (blk_cell BK133.out 1).trans rfl; have hcz40_2 : w37.cell? ⟨gb133, 2, none⟩ = some (.int .i64 ((rd_T73 l0 x12_1).f2)) := (blk_cell BK133.out 2).trans rfl; have hcz40_3 : w37.cell? ⟨gb133, 3, none⟩ = some (.int .i64 ((rd_T73 l0 x12_1).f3)) := (blk_cell BK133.out 3).trans rfl; have hcz40_4 : w37.cell? ⟨gb133, 4, none⟩ = some (.int .i64 ((rd_T73 l0 x12_1).f4)) := (blk_cell BK133.out 4).trans rfl; have hcz40_5 : w37.cell? ⟨gb133, 5, none⟩ = some (.bool ((rd_T73 l0 x12_1).f5)) := (blk_cell BK133.out 5).trans rfl; have hfz40_0 := blk_frozen BK133.out 0; have hfz40_1 := blk_frozen BK133.out 1; have hfz40_2 := blk_frozen BK133.out 2; have hfz40_3 := blk_frozen BK133.out 3; have hfz40_4 := blk_frozen BK133.out 4; have hfz40_5 := blk_frozen BK133.out 5))
                                    go_roundg k3
                                    case measure => have := HK1.out; have := HJ5.out; have := HK3.out; omega
                                    case rel => exact ⟨(wrap64 (x39_3 + 1)), (by first | rfl | (simp; done) | (simp [*]; done)), H', ⟨by have := HK1.out; have := HJ5.out; have := HK3.out; omega⟩, ⟨by (with_reducible repeat (first | refine blk_drewN ?_ _ | refine blk_drew ?_ | refine blk_alloc ?_ _)); refine blk_far ?_ NB133_146.out _; (with_reducible repeat (first | refine blk_drewN ?_ _ | refine blk_drew ?_ | refine blk_alloc ?_ _)); refine blk_far ?_ NB133_146.out _; (with_reducible repeat (first | refine blk_drewN ?_ _ | refine blk_drew ?_ | refine blk_alloc ?_ _)); refine blk_far ?_ NB133_146.out _; (with_reducible repeat (first | refine blk_drewN ?_ _ | refine blk_drew ?_ | refine blk_alloc ?_ _)); refine blk_far ?_ NB133_146.out _; (with_reducible repeat (first | refine blk_drewN ?_ _ | refine blk_drew ?_ | refine blk_alloc ?_ _)); refine blk_far ?_ NB133_146.out _; (with_reducible repeat (first | refine blk_drewN ?_ _ | refine blk_drew ?_ | refine blk_alloc ?_ _)); refine blk_far ?_ NB133_146.out _; (with_reducible repeat (first | refine blk_drewN ?_ _ | refine blk_drew ?_ | refine blk_alloc ?_ _)); exact BK133.out⟩, ⟨by repeat (first | (with_reducible first | exact HB.out | apply below_alloc | apply pw_below_drewN | apply below_drew1 | refine below_set ?_ GE133.out | refine below_set ?_ GE146.out) | exact HB.out)⟩⟩
                                · rw [if_neg c26] at H
                                  exact absurd H (by simp)
                              · rw [if_neg c25] at H
                                exact absurd H (by simp)
                            · rw [if_neg c24] at H
                              have c24b0 : decide (x39_3 < (y141.length : Int)) = false := decide_eq_false c24
                              clear c24
                              have H' := Aside0.mk H
                              clear H
                              go_wp2
                              go_roundg k3
                              case measure => have := HK1.out; have := HJ5.out; have := HK3.out; omega
                              case rel => exact ⟨(wrap64 (x12_1 + 1)), (by first | rfl | (simp; done) | (simp [*]; done)), H', ⟨by have := HK1.out; have := HJ5.out; have := HK3.out; omega⟩, ⟨by repeat (first | (with_reducible first | exact HB.out | apply below_alloc | apply pw_below_drewN | apply below_drew1 | refine below_set ?_ GE133.out) | exact HB.out)⟩⟩
                      · rw [if_neg c22] at H
                        exact absurd H (by simp)
                    · rw [if_neg c21] at H
                      exact absurd H (by simp)
            · rw [if_neg c5] at H
              exact absurd H (by simp)
          · rw [if_neg c4] at H
            exact absurd H (by simp)
        · rw [if_neg c3] at H
          have c3b0 : decide (x12_1 < (l0.length : Int)) = false := decide_eq_false c3
          clear c3
          obtain rfl := Option.some.inj H
          go_wp2
          go_ret
          exact ⟨by first | rfl | (simp [errW_none, errW_some] <;> rfl) | (simp [*, errW_none, errW_some] <;> rfl), by repeat (first | (with_reducible first | exact HB.out | apply below_alloc | apply pw_below_drewN | apply below_drew1) | exact HB.out)⟩

end Go.Proofs.Ytmabgkhkokckgaa.PFnExactCutNode
