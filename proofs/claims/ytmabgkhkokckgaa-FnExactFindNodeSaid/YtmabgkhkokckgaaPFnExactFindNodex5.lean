/- The machine's side of a law, function by function: a Lean function with the Go function's answers and the proof that the Go code comes to them. No condition. Written by this session's program over the kit's print, this session's own contracts set in. -/
import Derived.Test.YtmabgkhkokckgaaPFnExactFindNodex0
import Derived.Test.YtmabgkhkokckgaaPFnExactFindNodex4
namespace Go.Proofs.Ytmabgkhkokckgaa.PFnExactFindNode
open Go.RowKit Go.Proofs.YtmabgkhkokckgaaW.PrintWords Go.Proofs.YtmabgkhkokckgaaW.PrintLast Go.Proofs.YtmabgkhkokckgaaW.PrintMore
attribute [local go_sem] max2_int min2_int max_two min_two max_three min_three max_four min_four   -- for this text's walks alone
set_option linter.unusedVariables false
set_option linter.unusedSimpArgs false

/-! ### impl_GoodScene: function 20 -/
mutual
def impl_GoodScene.l0 : Nat → List (S73) → List (S73) → Int → Int → Option (Bool)
  | 0, _, _, _, _ => none
  | k + 1, x0, x5, x6, x7 => if x7 < x6 then (if 0 ≤ x7 then (if x7 < (x5.length : Int) then ((impl_GoodName.f k ((rd_T73 x5 x7).f0)).bind fun t165 => (if t165 = true then ((impl_inRange.f ((rd_T73 x5 x7).f1) (-1) (wrap64 (x7 - 1))).bind fun t166 => (if t166 = true then ((impl_Node_spot.f ((rd_T73 x5 x7).f0) ((rd_T73 x5 x7).f1) ((rd_T73 x5 x7).f2) ((rd_T73 x5 x7).f3) ((rd_T73 x5 x7).f4) ((rd_T73 x5 x7).f5)).bind fun bt167 => ((impl_isSpot.f bt167.1 bt167.2.1 bt167.2.2.1 bt167.2.2.2).bind fun t171 => (impl_GoodScene.j1 k x0 x7 x5 x6 x7 (!t171) ((rd_T73 x5 x7).f0) ((rd_T73 x5 x7).f1) ((rd_T73 x5 x7).f2) ((rd_T73 x5 x7).f3) ((rd_T73 x5 x7).f4) ((rd_T73 x5 x7).f5)))) else (impl_GoodScene.j1 k x0 x7 x5 x6 x7 true ((rd_T73 x5 x7).f0) ((rd_T73 x5 x7).f1) ((rd_T73 x5 x7).f2) ((rd_T73 x5 x7).f3) ((rd_T73 x5 x7).f4) ((rd_T73 x5 x7).f5)))) else (impl_GoodScene.j1 k x0 x7 x5 x6 x7 true ((rd_T73 x5 x7).f0) ((rd_T73 x5 x7).f1) ((rd_T73 x5 x7).f2) ((rd_T73 x5 x7).f3) ((rd_T73 x5 x7).f4) ((rd_T73 x5 x7).f5)))) else (none)) else (none)) else (some (decide ((x0.length : Int) ≤ 40)))
def impl_GoodScene.j1 : Nat → List (S73) → Int → List (S73) → Int → Int → Bool → ByteArray → Int → Int → Int → Int → Bool → Option (Bool)
  | 0, _, _, _, _, _, _, _, _, _, _, _, _ => none
  | k + 1, x0, x3, x5, x6, x7, x29, x165000, x165001, x165002, x165003, x165004, x165005 => if x29 = true then (some false) else (if 0 ≤ x3 then (if x3 ≤ (x0.length : Int) then ((impl_Node_60.f (x0.take (x3 : Int).toNat) x165000 x165001).bind fun t176 => (if t176 = true then (some false) else (impl_GoodScene.l0 k x0 x5 x6 (wrap64 (x7 + 1))))) else (none)) else (none))
end
def impl_GoodScene.f (k : Nat) (l0 : List (S73)) : Option (Bool) := impl_GoodScene.l0 k l0 l0 (l0.length : Int) 0
theorem impl_GoodScene.mono_l : ∀ k, (∀ y0 y1 y2 y3, LeO (impl_GoodScene.l0 k y0 y1 y2 y3) (impl_GoodScene.l0 (k + 1) y0 y1 y2 y3)) ∧ (∀ y0 y1 y2 y3 y4 y5 y6 y7 y8 y9 y10 y11, LeO (impl_GoodScene.j1 k y0 y1 y2 y3 y4 y5 y6 y7 y8 y9 y10 y11) (impl_GoodScene.j1 (k + 1) y0 y1 y2 y3 y4 y5 y6 y7 y8 y9 y10 y11))
  | 0 => ⟨fun _ _ _ _ r h => by simp [impl_GoodScene.l0] at h, fun _ _ _ _ _ _ _ _ _ _ _ _ r h => by simp [impl_GoodScene.j1] at h⟩
  | k + 1 => by
    obtain ⟨ih0, ih1⟩ := impl_GoodScene.mono_l k
    refine ⟨?_, ?_⟩
    · intro y0 y1 y2 y3
      unfold impl_GoodScene.l0
      repeat' first
      | (with_reducible exact ih0 _ _ _ _)
      | (with_reducible exact ih1 _ _ _ _ _ _ _ _ _ _ _ _)
      | (with_reducible exact impl_GoodName.mono _ _)
      | (with_reducible exact LeO.refl _)
      | (with_reducible exact LeO.none _)
      | (with_reducible refine LeO.ite ?_ ?_)
      | (with_reducible refine LeO.bind ?_ (fun _ => ?_))
      | exact ih0 _ _ _ _
      | exact ih1 _ _ _ _ _ _ _ _ _ _ _ _
      | exact impl_GoodName.mono _ _
      | exact LeO.none _
      | refine LeO.ite ?_ ?_
      | refine LeO.bind ?_ (fun _ => ?_)
    · intro y0 y1 y2 y3 y4 y5 y6 y7 y8 y9 y10 y11
      unfold impl_GoodScene.j1
      repeat' first
      | (with_reducible exact ih0 _ _ _ _)
      | (with_reducible exact ih1 _ _ _ _ _ _ _ _ _ _ _ _)
      | (with_reducible exact impl_GoodName.mono _ _)
      | (with_reducible exact LeO.refl _)
      | (with_reducible exact LeO.none _)
      | (with_reducible refine LeO.ite ?_ ?_)
      | (with_reducible refine LeO.bind ?_ (fun _ => ?_))
      | exact ih0 _ _ _ _
      | exact ih1 _ _ _ _ _ _ _ _ _ _ _ _
      | exact impl_GoodName.mono _ _
      | exact LeO.none _
      | refine LeO.ite ?_ ?_
      | refine LeO.bind ?_ (fun _ => ?_)
theorem impl_GoodScene.mono : ∀ a0 k, LeO (impl_GoodScene.f k a0) (impl_GoodScene.f (k + 1) a0) := by
  intro a0 k
  obtain ⟨ih0, ih1⟩ := impl_GoodScene.mono_l k
  unfold impl_GoodScene.f
  repeat' first
      | (with_reducible exact ih0 _ _ _ _)
      | (with_reducible exact ih1 _ _ _ _ _ _ _ _ _ _ _ _)
      | (with_reducible exact impl_GoodName.mono _ _)
      | (with_reducible exact LeO.refl _)
      | (with_reducible exact LeO.none _)
      | (with_reducible refine LeO.ite ?_ ?_)
      | (with_reducible refine LeO.bind ?_ (fun _ => ?_))
      | exact ih0 _ _ _ _
      | exact ih1 _ _ _ _ _ _ _ _ _ _ _ _
      | exact impl_GoodName.mono _ _
      | exact LeO.none _
      | refine LeO.ite ?_ ?_
      | refine LeO.bind ?_ (fun _ => ?_)
set_option maxHeartbeats 8000000 in
set_option maxRecDepth 100000 in
theorem impl_GoodScene.calls (k : Nat) (A0 : Option Addr) (c0 : Nat) (l0 : List (S73)) (r : Bool) (w : World) (hr0 : Kd.C k73 w A0 l0.length l0) (hc0 : l0.length ≤ c0) (h : impl_GoodScene.f k l0 = some r) :
    Calls Try.prog 20 #[.slice A0 l0.length c0] w fun e w' => e = .returned (.bool r) ∧ Below w.heap.size w w' := by
  have hu73 := Try.underlying73
  have HR0 := Aside0.mk hr0
  have HC0 := Aside0.mk hc0
  clear hr0 hc0
  have HB := Aside0.mk (Below.refl w.heap.size w)
  have H : (impl_GoodScene.l0 k l0 l0 (l0.length : Int) 0) = some r := h
  clear h
  have H' := Aside0.mk H
  clear H
  go_enter Try.func20, Try.ntmps20
  go_wp2
  go_loopg [7] k (fun kq v7 w' => ∃ (x7_1 : Int), v7 = .int .i64 x7_1 ∧ Aside0 (impl_GoodScene.l0 kq l0 l0 (l0.length : Int) x7_1 = some r) ∧ Aside0 (kq ≤ k) ∧ Aside0 (Below w.heap.size w w'))
  case atStart => exact ⟨(0), (by first | rfl | (simp; done) | (simp [*]; done)), H', ⟨Nat.le_refl _⟩, ⟨by repeat (first | (with_reducible first | exact HB.out | apply below_alloc | apply pw_below_drewN | apply below_drew1) | exact HB.out)⟩⟩
  case round =>
    clear H'
    obtain ⟨x7_1, rfl, HA, HK1, HB⟩ := hrel
    cases gk with
    | zero => exact absurd HA.out (by simp [impl_GoodScene.l0])
    | succ k1 =>
      have H := HA.out
      clear HA
      simp only [impl_GoodScene.l0] at H
      by_cases c2 : x7_1 < (l0.length : Int)
      · rw [if_pos c2] at H
        have c2b0 : decide (x7_1 < (l0.length : Int)) = true := decide_eq_true c2
        clear c2
        by_cases c3 : 0 ≤ x7_1
        · rw [if_pos c3] at H
          have c3b0 : decide (0 ≤ x7_1) = true := decide_eq_true c3
          clear c3
          by_cases c4 : x7_1 < (l0.length : Int)
          · rw [if_pos c4] at H
            have c4b0 : decide (x7_1 < (l0.length : Int)) = true := decide_eq_true c4
            clear c4
            have HC5 := Aside0.mk H
            clear H
            have p163 : 0 ≤ (x7_1 : Int) := of_decide_eq_true (by first | (with_reducible assumption) | assumption)
            have q163 : x7_1 < (l0.length : Int) := of_decide_eq_true (by first | (with_reducible assumption) | assumption)
            obtain ⟨ad163, e163, hx163_0, hx163_1, hx163_2, hx163_3, hx163_4, hx163_5⟩ := at_T73 HR0.out x7_1 p163 q163
            cases e163
            replace hx163_0 := (HB.out.cell (World.block_lt_of_cell? w _ hx163_0)).trans hx163_0
            replace hx163_1 := (HB.out.cell (World.block_lt_of_cell? w _ hx163_1)).trans hx163_1
            replace hx163_2 := (HB.out.cell (World.block_lt_of_cell? w _ hx163_2)).trans hx163_2
            replace hx163_3 := (HB.out.cell (World.block_lt_of_cell? w _ hx163_3)).trans hx163_3
            replace hx163_4 := (HB.out.cell (World.block_lt_of_cell? w _ hx163_4)).trans hx163_4
            replace hx163_5 := (HB.out.cell (World.block_lt_of_cell? w _ hx163_5)).trans hx163_5
            replace p163 := eq_true p163
            replace q163 := eq_true q163
            go_upto_region 4 with (first | ((with_reducible refine gate_dst (N := 4) rfl ?_); refine box_event ?hg (N := 4) ?hd (cs := #[.string (⟨#[]⟩ : ByteArray), .int .i64 0, .int .i64 0, .int .i64 0, .int .i64 0, .bool false]) (t := 73) ?hr ?_; (case hd => rfl); (case hg => rfl); (case hr => first | (go_simp; done) | (go_simp; rfl)); intro gb164 hg w6 hbox hb; have n0_ := Aside0.mk (below_step (by repeat (first | (with_reducible first | exact HB.out | apply below_alloc | apply pw_below_drewN | apply below_drew1) | exact HB.out)) hb); have n1_ := Aside0.mk (hbox); have n2_ := Aside0.mk ((by rw [hg]; exact (below_size (by repeat (first | (with_reducible first | exact HB.out | apply below_alloc | apply pw_below_drewN | apply below_drew1) | exact HB.out))) : w.heap.size ≤ gb164)); have n3_ := Aside0.mk ((by rw [hg]; exact (below_size (by repeat (first | (with_reducible first | exact HB.out | apply below_alloc | apply pw_below_drewN | apply below_drew1) | exact HB.out))) : w.heap.size ≤ gb164)); clear HB; have HB := n0_; have BK164 := n1_; have GW164 := n2_; have GE164 := n3_; clear n0_ n1_ n2_ n3_; clear hb hbox hg; have hcz7_0 : w6.cell? ⟨gb164, 0, none⟩ = some (.string (⟨#[]⟩ : ByteArray)) := (blk_cell BK164.out 0).trans rfl; have hcz7_1 : w6.cell? ⟨gb164, 1, none⟩ = some (.int .i64 0) := (blk_cell BK164.out 1).trans rfl; have hcz7_2 : w6.cell? ⟨gb164, 2, none⟩ = some (.int .i64 0) := (blk_cell BK164.out 2).trans rfl; have hcz7_3 : w6.cell? ⟨gb164, 3, none⟩ = some (.int .i64 0) := (blk_cell BK164.out 3).trans rfl; have hcz7_4 : w6.cell? ⟨gb164, 4, none⟩ = some (.int .i64 0) := (blk_cell BK164.out 4).trans rfl; have hcz7_5 : w6.cell? ⟨gb164, 5, none⟩ = some (.bool false) := (blk_cell BK164.out 5).trans rfl; have hfz7_0 := blk_frozen BK164.out 0; have hfz7_1 := blk_frozen BK164.out 1; have hfz7_2 := blk_frozen BK164.out 2; have hfz7_3 := blk_frozen BK164.out 3; have hfz7_4 := blk_frozen BK164.out 4; have hfz7_5 := blk_frozen BK164.out 5))
            (try simp only [Act.put, List.setIfInBounds_toArray, List.set_cons_zero, List.set_cons_succ])
            go_cut [29] (fun v29 wc => ∃ (kq : Nat) (x29_4 : Bool), v29 = .bool x29_4 ∧ Aside0 (impl_GoodScene.j1 kq l0 x7_1 l0 (l0.length : Int) x7_1 x29_4 ((rd_T73 l0 x7_1).f0) ((rd_T73 l0 x7_1).f1) ((rd_T73 l0 x7_1).f2) ((rd_T73 l0 x7_1).f3) ((rd_T73 l0 x7_1).f4) ((rd_T73 l0 x7_1).f5) = some r) ∧ Aside0 (kq ≤ k1) ∧ Aside0 (wc.heap[gb164]? = some (.cells #[.string ((rd_T73 l0 x7_1).f0), .int .i64 ((rd_T73 l0 x7_1).f1), .int .i64 ((rd_T73 l0 x7_1).f2), .int .i64 ((rd_T73 l0 x7_1).f3), .int .i64 ((rd_T73 l0 x7_1).f4), .bool ((rd_T73 l0 x7_1).f5)] 73 (0, 0))) ∧ Aside0 (Below w.heap.size w wc))
            case first =>
              have H := HC5.out
              clear HC5
              replace H := Option.bind_eq_some_iff.mp H
              obtain ⟨t165, A80, H⟩ := H
              replace H : (if t165 = true then ((impl_inRange.f ((rd_T73 l0 x7_1).f1) (-1) (wrap64 (x7_1 - 1))).bind fun t166 => (if t166 = true then ((impl_Node_spot.f ((rd_T73 l0 x7_1).f0) ((rd_T73 l0 x7_1).f1) ((rd_T73 l0 x7_1).f2) ((rd_T73 l0 x7_1).f3) ((rd_T73 l0 x7_1).f4) ((rd_T73 l0 x7_1).f5)).bind fun bt167 => ((impl_isSpot.f bt167.1 bt167.2.1 bt167.2.2.1 bt167.2.2.2).bind fun t171 => (impl_GoodScene.j1 k1 l0 x7_1 l0 (l0.length : Int) x7_1 (!t171) ((rd_T73 l0 x7_1).f0) ((rd_T73 l0 x7_1).f1) ((rd_T73 l0 x7_1).f2) ((rd_T73 l0 x7_1).f3) ((rd_T73 l0 x7_1).f4) ((rd_T73 l0 x7_1).f5)))) else (impl_GoodScene.j1 k1 l0 x7_1 l0 (l0.length : Int) x7_1 true ((rd_T73 l0 x7_1).f0) ((rd_T73 l0 x7_1).f1) ((rd_T73 l0 x7_1).f2) ((rd_T73 l0 x7_1).f3) ((rd_T73 l0 x7_1).f4) ((rd_T73 l0 x7_1).f5)))) else (impl_GoodScene.j1 k1 l0 x7_1 l0 (l0.length : Int) x7_1 true ((rd_T73 l0 x7_1).f0) ((rd_T73 l0 x7_1).f1) ((rd_T73 l0 x7_1).f2) ((rd_T73 l0 x7_1).f3) ((rd_T73 l0 x7_1).f4) ((rd_T73 l0 x7_1).f5))) = some r := H
              have A8 := Aside0.mk A80
              clear A80
              by_cases c9 : t165 = true
              · subst c9
                have H1 : ((impl_inRange.f ((rd_T73 l0 x7_1).f1) (-1) (wrap64 (x7_1 - 1))).bind fun t166 => (if t166 = true then ((impl_Node_spot.f ((rd_T73 l0 x7_1).f0) ((rd_T73 l0 x7_1).f1) ((rd_T73 l0 x7_1).f2) ((rd_T73 l0 x7_1).f3) ((rd_T73 l0 x7_1).f4) ((rd_T73 l0 x7_1).f5)).bind fun bt167 => ((impl_isSpot.f bt167.1 bt167.2.1 bt167.2.2.1 bt167.2.2.2).bind fun t171 => (impl_GoodScene.j1 k1 l0 x7_1 l0 (l0.length : Int) x7_1 (!t171) ((rd_T73 l0 x7_1).f0) ((rd_T73 l0 x7_1).f1) ((rd_T73 l0 x7_1).f2) ((rd_T73 l0 x7_1).f3) ((rd_T73 l0 x7_1).f4) ((rd_T73 l0 x7_1).f5)))) else (impl_GoodScene.j1 k1 l0 x7_1 l0 (l0.length : Int) x7_1 true ((rd_T73 l0 x7_1).f0) ((rd_T73 l0 x7_1).f1) ((rd_T73 l0 x7_1).f2) ((rd_T73 l0 x7_1).f3) ((rd_T73 l0 x7_1).f4) ((rd_T73 l0 x7_1).f5)))) = some r := by rw [if_pos rfl] at H; exact H
                clear H
                have H := H1
                clear H1
                replace H := Option.bind_eq_some_iff.mp H
                obtain ⟨t166, A100, H⟩ := H
                replace H : (if t166 = true then ((impl_Node_spot.f ((rd_T73 l0 x7_1).f0) ((rd_T73 l0 x7_1).f1) ((rd_T73 l0 x7_1).f2) ((rd_T73 l0 x7_1).f3) ((rd_T73 l0 x7_1).f4) ((rd_T73 l0 x7_1).f5)).bind fun bt167 => ((impl_isSpot.f bt167.1 bt167.2.1 bt167.2.2.1 bt167.2.2.2).bind fun t171 => (impl_GoodScene.j1 k1 l0 x7_1 l0 (l0.length : Int) x7_1 (!t171) ((rd_T73 l0 x7_1).f0) ((rd_T73 l0 x7_1).f1) ((rd_T73 l0 x7_1).f2) ((rd_T73 l0 x7_1).f3) ((rd_T73 l0 x7_1).f4) ((rd_T73 l0 x7_1).f5)))) else (impl_GoodScene.j1 k1 l0 x7_1 l0 (l0.length : Int) x7_1 true ((rd_T73 l0 x7_1).f0) ((rd_T73 l0 x7_1).f1) ((rd_T73 l0 x7_1).f2) ((rd_T73 l0 x7_1).f3) ((rd_T73 l0 x7_1).f4) ((rd_T73 l0 x7_1).f5))) = some r := H
                have A10 := Aside0.mk A100
                clear A100
                by_cases c11 : t166 = true
                · subst c11
                  have H1 : ((impl_Node_spot.f ((rd_T73 l0 x7_1).f0) ((rd_T73 l0 x7_1).f1) ((rd_T73 l0 x7_1).f2) ((rd_T73 l0 x7_1).f3) ((rd_T73 l0 x7_1).f4) ((rd_T73 l0 x7_1).f5)).bind fun bt167 => ((impl_isSpot.f bt167.1 bt167.2.1 bt167.2.2.1 bt167.2.2.2).bind fun t171 => (impl_GoodScene.j1 k1 l0 x7_1 l0 (l0.length : Int) x7_1 (!t171) ((rd_T73 l0 x7_1).f0) ((rd_T73 l0 x7_1).f1) ((rd_T73 l0 x7_1).f2) ((rd_T73 l0 x7_1).f3) ((rd_T73 l0 x7_1).f4) ((rd_T73 l0 x7_1).f5)))) = some r := by rw [if_pos rfl] at H; exact H
                  clear H
                  have H := H1
                  clear H1
                  replace H := Option.bind_eq_some_iff.mp H
                  obtain ⟨⟨t167, t168, t169, t170⟩, A120, H⟩ := H
                  replace H : ((impl_isSpot.f t167 t168 t169 t170).bind fun t171 => (impl_GoodScene.j1 k1 l0 x7_1 l0 (l0.length : Int) x7_1 (!t171) ((rd_T73 l0 x7_1).f0) ((rd_T73 l0 x7_1).f1) ((rd_T73 l0 x7_1).f2) ((rd_T73 l0 x7_1).f3) ((rd_T73 l0 x7_1).f4) ((rd_T73 l0 x7_1).f5))) = some r := H
                  have A12 := Aside0.mk A120
                  clear A120
                  replace H := Option.bind_eq_some_iff.mp H
                  obtain ⟨t171, A130, H⟩ := H
                  replace H : (impl_GoodScene.j1 k1 l0 x7_1 l0 (l0.length : Int) x7_1 (!t171) ((rd_T73 l0 x7_1).f0) ((rd_T73 l0 x7_1).f1) ((rd_T73 l0 x7_1).f2) ((rd_T73 l0 x7_1).f3) ((rd_T73 l0 x7_1).f4) ((rd_T73 l0 x7_1).f5)) = some r := H
                  have A13 := Aside0.mk A130
                  clear A130
                  have H' := Aside0.mk H
                  clear H
                  have hcz14_0 : w6.cell? ⟨gb164, 0, none⟩ = some (.string (⟨#[]⟩ : ByteArray)) := (blk_cell BK164.out 0).trans rfl
                  have hcz14_1 : w6.cell? ⟨gb164, 1, none⟩ = some (.int .i64 0) := (blk_cell BK164.out 1).trans rfl
                  have hcz14_2 : w6.cell? ⟨gb164, 2, none⟩ = some (.int .i64 0) := (blk_cell BK164.out 2).trans rfl
                  have hcz14_3 : w6.cell? ⟨gb164, 3, none⟩ = some (.int .i64 0) := (blk_cell BK164.out 3).trans rfl
                  have hcz14_4 : w6.cell? ⟨gb164, 4, none⟩ = some (.int .i64 0) := (blk_cell BK164.out 4).trans rfl
                  have hcz14_5 : w6.cell? ⟨gb164, 5, none⟩ = some (.bool false) := (blk_cell BK164.out 5).trans rfl
                  have hfz14_0 := blk_frozen BK164.out 0
                  have hfz14_1 := blk_frozen BK164.out 1
                  have hfz14_2 := blk_frozen BK164.out 2
                  have hfz14_3 := blk_frozen BK164.out 3
                  have hfz14_4 := blk_frozen BK164.out 4
                  have hfz14_5 := blk_frozen BK164.out 5
                  go_wp2_with (first | ((with_reducible refine gate_callee (f := 57) rfl ?_); refine goesL_ (some 14) rfl rfl Try.func57 (by kernel_rfl) rfl #[.string ((rd_T73 l0 x7_1).f0)] rfl (by (try simp only [List.map_toArray, List.map_cons, List.map_nil]); first | done | rfl | (simp only [List.length_drop, List.length_take]; rfl)) ?_; (with_reducible refine (impl_GoodName.calls k1 ((rd_T73 l0 x7_1).f0) true _ A8.out).mono ?_); rintro e w' ⟨rfl, ⟨nd, rfl⟩⟩; refine ⟨_, rfl, ?_⟩) | (go_at_call 58; (with_reducible refine (impl_inRange.calls ((rd_T73 l0 x7_1).f1) (-1) (wrap64 (x7_1 - 1)) true _ A10.out).mono ?_); rintro e w' ⟨rfl, ⟨nd, rfl⟩⟩) | (go_at_call 59; (with_reducible refine (impl_Node_spot.calls ((rd_T73 l0 x7_1).f0) ((rd_T73 l0 x7_1).f1) ((rd_T73 l0 x7_1).f2) ((rd_T73 l0 x7_1).f3) ((rd_T73 l0 x7_1).f4) ((rd_T73 l0 x7_1).f5) t167 t168 t169 t170 _ A12.out).mono ?_); rintro e w15 ⟨rfl, hb⟩; have n0_ := Aside0.mk (blk_below (g := gb164) (o := .cells #[.string ((rd_T73 l0 x7_1).f0), .int .i64 ((rd_T73 l0 x7_1).f1), .int .i64 ((rd_T73 l0 x7_1).f2), .int .i64 ((rd_T73 l0 x7_1).f3), .int .i64 ((rd_T73 l0 x7_1).f4), .bool ((rd_T73 l0 x7_1).f5)] 73 (0, 0)) (by (with_reducible repeat (first | refine blk_drewN ?_ _ | refine blk_drew ?_ | refine blk_alloc ?_ _)); refine blk_put (cs := #[.string ((rd_T73 l0 x7_1).f0), .int .i64 ((rd_T73 l0 x7_1).f1), .int .i64 ((rd_T73 l0 x7_1).f2), .int .i64 ((rd_T73 l0 x7_1).f3), .int .i64 ((rd_T73 l0 x7_1).f4), .bool false]) ?_ 5 _ rfl; (with_reducible repeat (first | refine blk_drewN ?_ _ | refine blk_drew ?_ | refine blk_alloc ?_ _)); refine blk_put (cs := #[.string ((rd_T73 l0 x7_1).f0), .int .i64 ((rd_T73 l0 x7_1).f1), .int .i64 ((rd_T73 l0 x7_1).f2), .int .i64 ((rd_T73 l0 x7_1).f3), .int .i64 0, .bool false]) ?_ 4 _ rfl; (with_reducible repeat (first | refine blk_drewN ?_ _ | refine blk_drew ?_ | refine blk_alloc ?_ _)); refine blk_put (cs := #[.string ((rd_T73 l0 x7_1).f0), .int .i64 ((rd_T73 l0 x7_1).f1), .int .i64 ((rd_T73 l0 x7_1).f2), .int .i64 0, .int .i64 0, .bool false]) ?_ 3 _ rfl; (with_reducible repeat (first | refine blk_drewN ?_ _ | refine blk_drew ?_ | refine blk_alloc ?_ _)); refine blk_put (cs := #[.string ((rd_T73 l0 x7_1).f0), .int .i64 ((rd_T73 l0 x7_1).f1), .int .i64 0, .int .i64 0, .int .i64 0, .bool false]) ?_ 2 _ rfl; (with_reducible repeat (first | refine blk_drewN ?_ _ | refine blk_drew ?_ | refine blk_alloc ?_ _)); refine blk_put (cs := #[.string ((rd_T73 l0 x7_1).f0), .int .i64 0, .int .i64 0, .int .i64 0, .int .i64 0, .bool false]) ?_ 1 _ rfl; (with_reducible repeat (first | refine blk_drewN ?_ _ | refine blk_drew ?_ | refine blk_alloc ?_ _)); refine blk_put (cs := #[.string (⟨#[]⟩ : ByteArray), .int .i64 0, .int .i64 0, .int .i64 0, .int .i64 0, .bool false]) ?_ 0 _ rfl; (with_reducible repeat (first | refine blk_drewN ?_ _ | refine blk_drew ?_ | refine blk_alloc ?_ _)); exact BK164.out) hb); have n1_ := Aside0.mk (below_step (by repeat (first | (with_reducible first | exact HB.out | apply below_alloc | apply pw_below_drewN | apply below_drew1 | refine below_set ?_ GE164.out) | exact HB.out)) hb); clear BK164; clear HB; have BK164 := n0_; have HB := n1_; clear n0_ n1_; (try clear hb); (try clear hb2); (try clear hk); (try clear hi)) | (go_at_call 50; (with_reducible refine (impl_isSpot.calls t167 t168 t169 t170 t171 _ A13.out).mono ?_); rintro e w16 ⟨rfl, hb⟩; have n0_ := Aside0.mk (blk_below (g := gb164) (o := .cells #[.string ((rd_T73 l0 x7_1).f0), .int .i64 ((rd_T73 l0 x7_1).f1), .int .i64 ((rd_T73 l0 x7_1).f2), .int .i64 ((rd_T73 l0 x7_1).f3), .int .i64 ((rd_T73 l0 x7_1).f4), .bool ((rd_T73 l0 x7_1).f5)] 73 (0, 0)) (by (with_reducible repeat (first | refine blk_drewN ?_ _ | refine blk_drew ?_ | refine blk_alloc ?_ _)); exact BK164.out) hb); have n1_ := Aside0.mk (below_step (by repeat (first | (with_reducible first | exact HB.out | apply below_alloc | apply pw_below_drewN | apply below_drew1 | refine below_set ?_ GE164.out) | exact HB.out)) hb); clear BK164; clear HB; have BK164 := n0_; have HB := n1_; clear n0_ n1_; (try clear hb); (try clear hb2); (try clear hk); (try clear hi)))
                  go_meet
                  case rel => exact ⟨_, (!t171), (by first | rfl | (simp; done) | (simp [*]; done)), H', ⟨by have := HK1.out; first | omega | exact Nat.le_refl _⟩, ⟨by (with_reducible repeat (first | refine blk_drewN ?_ _ | refine blk_drew ?_ | refine blk_alloc ?_ _)); exact BK164.out⟩, ⟨by repeat (first | (with_reducible first | exact HB.out | apply below_alloc | apply pw_below_drewN | apply below_drew1 | refine below_set ?_ GE164.out) | exact HB.out)⟩⟩
                · replace c11 := Bool.eq_false_iff.mpr c11
                  subst c11
                  have H1 : (impl_GoodScene.j1 k1 l0 x7_1 l0 (l0.length : Int) x7_1 true ((rd_T73 l0 x7_1).f0) ((rd_T73 l0 x7_1).f1) ((rd_T73 l0 x7_1).f2) ((rd_T73 l0 x7_1).f3) ((rd_T73 l0 x7_1).f4) ((rd_T73 l0 x7_1).f5)) = some r := by rw [if_neg (show ¬ (false = true) by decide)] at H; exact H
                  clear H
                  have H := H1
                  clear H1
                  have H' := Aside0.mk H
                  clear H
                  have hcz17_0 : w6.cell? ⟨gb164, 0, none⟩ = some (.string (⟨#[]⟩ : ByteArray)) := (blk_cell BK164.out 0).trans rfl
                  have hcz17_1 : w6.cell? ⟨gb164, 1, none⟩ = some (.int .i64 0) := (blk_cell BK164.out 1).trans rfl
                  have hcz17_2 : w6.cell? ⟨gb164, 2, none⟩ = some (.int .i64 0) := (blk_cell BK164.out 2).trans rfl
                  have hcz17_3 : w6.cell? ⟨gb164, 3, none⟩ = some (.int .i64 0) := (blk_cell BK164.out 3).trans rfl
                  have hcz17_4 : w6.cell? ⟨gb164, 4, none⟩ = some (.int .i64 0) := (blk_cell BK164.out 4).trans rfl
                  have hcz17_5 : w6.cell? ⟨gb164, 5, none⟩ = some (.bool false) := (blk_cell BK164.out 5).trans rfl
                  have hfz17_0 := blk_frozen BK164.out 0
                  have hfz17_1 := blk_frozen BK164.out 1
                  have hfz17_2 := blk_frozen BK164.out 2
                  have hfz17_3 := blk_frozen BK164.out 3
                  have hfz17_4 := blk_frozen BK164.out 4
                  have hfz17_5 := blk_frozen BK164.out 5
                  go_wp2_with (first | ((with_reducible refine gate_callee (f := 57) rfl ?_); refine goesL_ (some 14) rfl rfl Try.func57 (by kernel_rfl) rfl #[.string ((rd_T73 l0 x7_1).f0)] rfl (by (try simp only [List.map_toArray, List.map_cons, List.map_nil]); first | done | rfl | (simp only [List.length_drop, List.length_take]; rfl)) ?_; (with_reducible refine (impl_GoodName.calls k1 ((rd_T73 l0 x7_1).f0) true _ A8.out).mono ?_); rintro e w' ⟨rfl, ⟨nd, rfl⟩⟩; refine ⟨_, rfl, ?_⟩) | (go_at_call 58; (with_reducible refine (impl_inRange.calls ((rd_T73 l0 x7_1).f1) (-1) (wrap64 (x7_1 - 1)) false _ A10.out).mono ?_); rintro e w' ⟨rfl, ⟨nd, rfl⟩⟩))
                  go_meet
                  case rel => exact ⟨_, (true), (by first | rfl | (simp; done) | (simp [*]; done)), H', ⟨by have := HK1.out; first | omega | exact Nat.le_refl _⟩, ⟨by (with_reducible repeat (first | refine blk_drewN ?_ _ | refine blk_drew ?_ | refine blk_alloc ?_ _)); refine blk_put (cs := #[.string ((rd_T73 l0 x7_1).f0), .int .i64 ((rd_T73 l0 x7_1).f1), .int .i64 ((rd_T73 l0 x7_1).f2), .int .i64 ((rd_T73 l0 x7_1).f3), .int .i64 ((rd_T73 l0 x7_1).f4), .bool false]) ?_ 5 _ rfl; (with_reducible repeat (first | refine blk_drewN ?_ _ | refine blk_drew ?_ | refine blk_alloc ?_ _)); refine blk_put (cs := #[.string ((rd_T73 l0 x7_1).f0), .int .i64 ((rd_T73 l0 x7_1).f1), .int .i64 ((rd_T73 l0 x7_1).f2), .int .i64 ((rd_T73 l0 x7_1).f3), .int .i64 0, .bool false]) ?_ 4 _ rfl; (with_reducible repeat (first | refine blk_drewN ?_ _ | refine blk_drew ?_ | refine blk_alloc ?_ _)); refine blk_put (cs := #[.string ((rd_T73 l0 x7_1).f0), .int .i64 ((rd_T73 l0 x7_1).f1), .int .i64 ((rd_T73 l0 x7_1).f2), .int .i64 0, .int .i64 0, .bool false]) ?_ 3 _ rfl; (with_reducible repeat (first | refine blk_drewN ?_ _ | refine blk_drew ?_ | refine blk_alloc ?_ _)); refine blk_put (cs := #[.string ((rd_T73 l0 x7_1).f0), .int .i64 ((rd_T73 l0 x7_1).f1), .int .i64 0, .int .i64 0, .int .i64 0, .bool false]) ?_ 2 _ rfl; (with_reducible repeat (first | refine blk_drewN ?_ _ | refine blk_drew ?_ | refine blk_alloc ?_ _)); refine blk_put (cs := #[.string ((rd_T73 l0 x7_1).f0), .int .i64 0, .int .i64 0, .int .i64 0, .int .i64 0, .bool false]) ?_ 1 _ rfl; (with_reducible repeat (first | refine blk_drewN ?_ _ | refine blk_drew ?_ | refine blk_alloc ?_ _)); refine blk_put (cs := #[.string (⟨#[]⟩ : ByteArray), .int .i64 0, .int .i64 0, .int .i64 0, .int .i64 0, .bool false]) ?_ 0 _ rfl; (with_reducible repeat (first | refine blk_drewN ?_ _ | refine blk_drew ?_ | refine blk_alloc ?_ _)); exact BK164.out⟩, ⟨by repeat (first | (with_reducible first | exact HB.out | apply below_alloc | apply pw_below_drewN | apply below_drew1 | refine below_set ?_ GE164.out) | exact HB.out)⟩⟩
              · replace c9 := Bool.eq_false_iff.mpr c9
                subst c9
                have H1 : (impl_GoodScene.j1 k1 l0 x7_1 l0 (l0.length : Int) x7_1 true ((rd_T73 l0 x7_1).f0) ((rd_T73 l0 x7_1).f1) ((rd_T73 l0 x7_1).f2) ((rd_T73 l0 x7_1).f3) ((rd_T73 l0 x7_1).f4) ((rd_T73 l0 x7_1).f5)) = some r := by rw [if_neg (show ¬ (false = true) by decide)] at H; exact H
                clear H
                have H := H1
                clear H1
                have H' := Aside0.mk H
                clear H
                have hcz18_0 : w6.cell? ⟨gb164, 0, none⟩ = some (.string (⟨#[]⟩ : ByteArray)) := (blk_cell BK164.out 0).trans rfl
                have hcz18_1 : w6.cell? ⟨gb164, 1, none⟩ = some (.int .i64 0) := (blk_cell BK164.out 1).trans rfl
                have hcz18_2 : w6.cell? ⟨gb164, 2, none⟩ = some (.int .i64 0) := (blk_cell BK164.out 2).trans rfl
                have hcz18_3 : w6.cell? ⟨gb164, 3, none⟩ = some (.int .i64 0) := (blk_cell BK164.out 3).trans rfl
                have hcz18_4 : w6.cell? ⟨gb164, 4, none⟩ = some (.int .i64 0) := (blk_cell BK164.out 4).trans rfl
                have hcz18_5 : w6.cell? ⟨gb164, 5, none⟩ = some (.bool false) := (blk_cell BK164.out 5).trans rfl
                have hfz18_0 := blk_frozen BK164.out 0
                have hfz18_1 := blk_frozen BK164.out 1
                have hfz18_2 := blk_frozen BK164.out 2
                have hfz18_3 := blk_frozen BK164.out 3
                have hfz18_4 := blk_frozen BK164.out 4
                have hfz18_5 := blk_frozen BK164.out 5
                go_wp2_with (first | ((with_reducible refine gate_callee (f := 57) rfl ?_); refine goesL_ (some 14) rfl rfl Try.func57 (by kernel_rfl) rfl #[.string ((rd_T73 l0 x7_1).f0)] rfl (by (try simp only [List.map_toArray, List.map_cons, List.map_nil]); first | done | rfl | (simp only [List.length_drop, List.length_take]; rfl)) ?_; (with_reducible refine (impl_GoodName.calls k1 ((rd_T73 l0 x7_1).f0) false _ A8.out).mono ?_); rintro e w' ⟨rfl, ⟨nd, rfl⟩⟩; refine ⟨_, rfl, ?_⟩))
                go_meet
                case rel => exact ⟨_, (true), (by first | rfl | (simp; done) | (simp [*]; done)), H', ⟨by have := HK1.out; first | omega | exact Nat.le_refl _⟩, ⟨by (with_reducible repeat (first | refine blk_drewN ?_ _ | refine blk_drew ?_ | refine blk_alloc ?_ _)); refine blk_put (cs := #[.string ((rd_T73 l0 x7_1).f0), .int .i64 ((rd_T73 l0 x7_1).f1), .int .i64 ((rd_T73 l0 x7_1).f2), .int .i64 ((rd_T73 l0 x7_1).f3), .int .i64 ((rd_T73 l0 x7_1).f4), .bool false]) ?_ 5 _ rfl; (with_reducible repeat (first | refine blk_drewN ?_ _ | refine blk_drew ?_ | refine blk_alloc ?_ _)); refine blk_put (cs := #[.string ((rd_T73 l0 x7_1).f0), .int .i64 ((rd_T73 l0 x7_1).f1), .int .i64 ((rd_T73 l0 x7_1).f2), .int .i64 ((rd_T73 l0 x7_1).f3), .int .i64 0, .bool false]) ?_ 4 _ rfl; (with_reducible repeat (first | refine blk_drewN ?_ _ | refine blk_drew ?_ | refine blk_alloc ?_ _)); refine blk_put (cs := #[.string ((rd_T73 l0 x7_1).f0), .int .i64 ((rd_T73 l0 x7_1).f1), .int .i64 ((rd_T73 l0 x7_1).f2), .int .i64 0, .int .i64 0, .bool false]) ?_ 3 _ rfl; (with_reducible repeat (first | refine blk_drewN ?_ _ | refine blk_drew ?_ | refine blk_alloc ?_ _)); refine blk_put (cs := #[.string ((rd_T73 l0 x7_1).f0), .int .i64 ((rd_T73 l0 x7_1).f1), .int .i64 0, .int .i64 0, .int .i64 0, .bool false]) ?_ 2 _ rfl; (with_reducible repeat (first | refine blk_drewN ?_ _ | refine blk_drew ?_ | refine blk_alloc ?_ _)); refine blk_put (cs := #[.string ((rd_T73 l0 x7_1).f0), .int .i64 0, .int .i64 0, .int .i64 0, .int .i64 0, .bool false]) ?_ 1 _ rfl; (with_reducible repeat (first | refine blk_drewN ?_ _ | refine blk_drew ?_ | refine blk_alloc ?_ _)); refine blk_put (cs := #[.string (⟨#[]⟩ : ByteArray), .int .i64 0, .int .i64 0, .int .i64 0, .int .i64 0, .bool false]) ?_ 0 _ rfl; (with_reducible repeat (first | refine blk_drewN ?_ _ | refine blk_drew ?_ | refine blk_alloc ?_ _)); exact BK164.out⟩, ⟨by repeat (first | (with_reducible first | exact HB.out | apply below_alloc | apply pw_below_drewN | apply below_drew1 | refine below_set ?_ GE164.out) | exact HB.out)⟩⟩
            case rest =>
              clear HC5
              try clear c1
              try clear p1
              try clear q1
              try clear hx1
              try clear c2
              try clear c2b0
              try clear p2
              try clear c3
              try clear c3b0
              try clear c4
              try clear c4b0
              try clear c5
              try clear p6
              try clear c9
              try clear c11
              try clear p16
              try clear q16
              try clear hx16
              try clear hcz14_0
              try clear hcz14_1
              try clear hcz14_2
              try clear hcz14_3
              try clear hcz14_4
              try clear hcz14_5
              try clear hcz17_0
              try clear hcz17_1
              try clear hcz17_2
              try clear hcz17_3
              try clear hcz17_4
              try clear hcz17_5
              try clear hcz18_0
              try clear hcz18_1
              try clear hcz18_2
              try clear hcz18_3
              try clear hcz18_4
              try clear hcz18_5
              try clear hcz7_0
              try clear hcz7_1
              try clear hcz7_2
              try clear hcz7_3
              try clear hcz7_4
              try clear hcz7_5
              try clear hfz14_0
              try clear hfz14_1
              try clear hfz14_2
              try clear hfz14_3
              try clear hfz14_4
              try clear hfz14_5
              try clear hfz17_0
              try clear hfz17_1
              try clear hfz17_2
              try clear hfz17_3
              try clear hfz17_4
              try clear hfz17_5
              try clear hfz18_0
              try clear hfz18_1
              try clear hfz18_2
              try clear hfz18_3
              try clear hfz18_4
              try clear hfz18_5
              try clear hfz7_0
              try clear hfz7_1
              try clear hfz7_2
              try clear hfz7_3
              try clear hfz7_4
              try clear hfz7_5
              try clear hx163_0
              try clear hx163_1
              try clear hx163_2
              try clear hx163_3
              try clear hx163_4
              try clear hx163_5
              try clear p163
              try clear q163
              obtain ⟨kq, x29_4, rfl, HA, HJ4, BK164, HB⟩ := hcut
              cases kq with
              | zero => exact absurd HA.out (by simp [impl_GoodScene.j1])
              | succ kj4 =>
                have H := HA.out
                clear HA
                simp only [impl_GoodScene.j1] at H
                by_cases c19 : x29_4 = true
                · subst c19
                  have H1 : (some false) = some r := by rw [if_pos rfl] at H; exact H
                  clear H
                  have H := H1
                  clear H1
                  obtain rfl := Option.some.inj H
                  go_wp2
                  go_ret
                  exact ⟨by first | rfl | (simp [errW_none, errW_some] <;> rfl) | (simp [*, errW_none, errW_some] <;> rfl), by repeat (first | (with_reducible first | exact HB.out | apply below_alloc | apply pw_below_drewN | apply below_drew1 | refine below_set ?_ GE164.out) | exact HB.out)⟩
                · replace c19 := Bool.eq_false_iff.mpr c19
                  subst c19
                  have H1 : (if 0 ≤ x7_1 then (if x7_1 ≤ (l0.length : Int) then ((impl_Node_60.f (l0.take (x7_1 : Int).toNat) ((rd_T73 l0 x7_1).f0) ((rd_T73 l0 x7_1).f1)).bind fun t176 => (if t176 = true then (some false) else (impl_GoodScene.l0 kj4 l0 l0 (l0.length : Int) (wrap64 (x7_1 + 1))))) else (none)) else (none)) = some r := by rw [if_neg (show ¬ (false = true) by decide)] at H; exact H
                  clear H
                  have H := H1
                  clear H1
                  by_cases c20 : 0 ≤ x7_1
                  · rw [if_pos c20] at H
                    have c20b0 := eq_true c20
                    have c20b1 : decide (0 ≤ x7_1) = true := decide_eq_true c20
                    clear c20
                    by_cases c21 : x7_1 ≤ (l0.length : Int)
                    · rw [if_pos c21] at H
                      have c21b0 := eq_true c21
                      have c21b1 : decide (x7_1 ≤ (l0.length : Int)) = true := decide_eq_true c21
                      clear c21
                      obtain ⟨y172, hy172⟩ : ∃ y_ : List (S73), y_ = (l0.take (x7_1 : Int).toNat) := ⟨_, rfl⟩
                      replace H : ((impl_Node_60.f y172 ((rd_T73 l0 x7_1).f0) ((rd_T73 l0 x7_1).f1)).bind fun t176 => (if t176 = true then (some false) else (impl_GoodScene.l0 kj4 l0 l0 (l0.length : Int) (wrap64 (x7_1 + 1))))) = some r := by first | (rw [hy172]; with_reducible exact H) | (have H2_ := (Option.bind_some _ _).symm.trans H; rw [hy172]; with_reducible exact H2_) | (have H2_ := (Option.bind_some _ _).symm.trans H; with_reducible exact H2_) | with_reducible exact H | (rw [hy172]; exact H) | exact H
                      have Ny172 := Aside0.mk hy172
                      clear hy172
                      replace H := Option.bind_eq_some_iff.mp H
                      obtain ⟨t176, A220, H⟩ := H
                      replace H : (if t176 = true then (some false) else (impl_GoodScene.l0 kj4 l0 l0 (l0.length : Int) (wrap64 (x7_1 + 1)))) = some r := H
                      have A22 := Aside0.mk A220
                      clear A220
                      by_cases c23 : t176 = true
                      · subst c23
                        have H1 : (some false) = some r := by rw [if_pos rfl] at H; exact H
                        clear H
                        have H := H1
                        clear H1
                        obtain rfl := Option.some.inj H
                        have q24 : (x7_1 : Int) ≤ ((l0.length : Int) : Int) := of_decide_eq_true (by first | (with_reducible assumption) | assumption)
                        obtain ⟨i024, hi024, _, hsz24, _⟩ := info_parts info73
                        have hroom24 : l0.length ≤ c0 := HC0.out
                        have hC24 : Kd.C k73 _ (some ad163) l0.length l0 := HR0.out
                        have hcut24 := cut_to (P := Try.prog) 33 73 .i64 Try.underlying33 hi024 (some ad163) l0.length c0 x7_1 (of_decide_eq_true (by first | (with_reducible assumption) | assumption)) q24 hroom24
                        have hr24 := Kd.C_take (m := (x7_1 : Int).toNat) hC24 (by omega)
                        have hy24 : y172.length = (x7_1 : Int).toNat := (by rw [Ny172.out, List.length_take]; omega)
                        rw [← Ny172.out] at hr24
                        rw [← hy24] at hcut24
                        have HR175 := Aside0.mk hr24
                        have HC175 := Aside0.mk (show y172.length ≤ c0 from by omega)
                        clear hr24 hC24 hroom24 hi024 hsz24
                        have KY24 := Aside0.mk hy24
                        clear hy24
                        replace q24 := eq_true q24
                        have hcz25_0 : wc.cell? ⟨gb164, 0, none⟩ = some (.string ((rd_T73 l0 x7_1).f0)) := (blk_cell BK164.out 0).trans rfl
                        have hcz25_1 : wc.cell? ⟨gb164, 1, none⟩ = some (.int .i64 ((rd_T73 l0 x7_1).f1)) := (blk_cell BK164.out 1).trans rfl
                        have hcz25_2 : wc.cell? ⟨gb164, 2, none⟩ = some (.int .i64 ((rd_T73 l0 x7_1).f2)) := (blk_cell BK164.out 2).trans rfl
                        have hcz25_3 : wc.cell? ⟨gb164, 3, none⟩ = some (.int .i64 ((rd_T73 l0 x7_1).f3)) := (blk_cell BK164.out 3).trans rfl
                        have hcz25_4 : wc.cell? ⟨gb164, 4, none⟩ = some (.int .i64 ((rd_T73 l0 x7_1).f4)) := (blk_cell BK164.out 4).trans rfl
                        have hcz25_5 : wc.cell? ⟨gb164, 5, none⟩ = some (.bool ((rd_T73 l0 x7_1).f5)) := (blk_cell BK164.out 5).trans rfl
                        have hfz25_0 := blk_frozen BK164.out 0
                        have hfz25_1 := blk_frozen BK164.out 1
                        have hfz25_2 := blk_frozen BK164.out 2
                        have hfz25_3 := blk_frozen BK164.out 3
                        have hfz25_4 := blk_frozen BK164.out 4
                        have hfz25_5 := blk_frozen BK164.out 5
                        go_wp2_with (first | ((with_reducible refine gate_callee (f := 60) rfl ?_); refine goesL_ (some 34) rfl rfl Try.func60 (by kernel_rfl) rfl #[.slice (some ad163) y172.length c0, .func (.func 61) #[] #[.pointer (some ⟨gb164, 0, none⟩)]] rfl (by (try simp only [List.map_toArray, List.map_cons, List.map_nil]); first | done | rfl | (simp only [List.length_drop, List.length_take]; rfl)) ?_; (with_reducible refine (impl_Node_60.calls _ _ y172 gb164 (rd_T73 l0 x7_1) _ ?side1 ?side2 ?side3 true A22.out).mono ?_); (case side3 => (with_reducible repeat (first | refine blk_drewN ?_ _ | refine blk_drew ?_ | refine blk_alloc ?_ _)); exact BK164.out); (case side1 => repeat (first | exact (Kd.C_below HR175.out HB.out) | (with_reducible refine Kd.C_alloc ?_ _) | (with_reducible refine Kd.C_drewN ?_ _) | (with_reducible refine Kd.C_drew ?_))); (case side2 => exact HC175.out); rintro e w26 ⟨rfl, hb⟩; refine ⟨_, rfl, ?_⟩; have n0_ := Aside0.mk (blk_below (g := gb164) (o := .cells #[.string ((rd_T73 l0 x7_1).f0), .int .i64 ((rd_T73 l0 x7_1).f1), .int .i64 ((rd_T73 l0 x7_1).f2), .int .i64 ((rd_T73 l0 x7_1).f3), .int .i64 ((rd_T73 l0 x7_1).f4), .bool ((rd_T73 l0 x7_1).f5)] 73 (0, 0)) (by (with_reducible repeat (first | refine blk_drewN ?_ _ | refine blk_drew ?_ | refine blk_alloc ?_ _)); exact BK164.out) hb); have n1_ := Aside0.mk (below_step (by repeat (first | (with_reducible first | exact HB.out | apply below_alloc | apply pw_below_drewN | apply below_drew1 | refine below_set ?_ GE164.out) | exact HB.out)) hb); clear BK164; clear HB; have BK164 := n0_; have HB := n1_; clear n0_ n1_; (try clear hb); (try clear hb2); (try clear hk); (try clear hi)))
                        go_ret
                        exact ⟨by first | rfl | (simp [errW_none, errW_some] <;> rfl) | (simp [*, errW_none, errW_some] <;> rfl), by repeat (first | (with_reducible first | exact HB.out | apply below_alloc | apply pw_below_drewN | apply below_drew1 | refine below_set ?_ GE164.out) | exact HB.out)⟩
                      · replace c23 := Bool.eq_false_iff.mpr c23
                        subst c23
                        have H1 : (impl_GoodScene.l0 kj4 l0 l0 (l0.length : Int) (wrap64 (x7_1 + 1))) = some r := by rw [if_neg (show ¬ (false = true) by decide)] at H; exact H
                        clear H
                        have H := H1
                        clear H1
                        have H' := Aside0.mk H
                        clear H
                        have q27 : (x7_1 : Int) ≤ ((l0.length : Int) : Int) := of_decide_eq_true (by first | (with_reducible assumption) | assumption)
                        obtain ⟨i027, hi027, _, hsz27, _⟩ := info_parts info73
                        have hroom27 : l0.length ≤ c0 := HC0.out
                        have hC27 : Kd.C k73 _ (some ad163) l0.length l0 := HR0.out
                        have hcut27 := cut_to (P := Try.prog) 33 73 .i64 Try.underlying33 hi027 (some ad163) l0.length c0 x7_1 (of_decide_eq_true (by first | (with_reducible assumption) | assumption)) q27 hroom27
                        have hr27 := Kd.C_take (m := (x7_1 : Int).toNat) hC27 (by omega)
                        have hy27 : y172.length = (x7_1 : Int).toNat := (by rw [Ny172.out, List.length_take]; omega)
                        rw [← Ny172.out] at hr27
                        rw [← hy27] at hcut27
                        have HR175 := Aside0.mk hr27
                        have HC175 := Aside0.mk (show y172.length ≤ c0 from by omega)
                        clear hr27 hC27 hroom27 hi027 hsz27
                        have KY27 := Aside0.mk hy27
                        clear hy27
                        replace q27 := eq_true q27
                        have hcz28_0 : wc.cell? ⟨gb164, 0, none⟩ = some (.string ((rd_T73 l0 x7_1).f0)) := (blk_cell BK164.out 0).trans rfl
                        have hcz28_1 : wc.cell? ⟨gb164, 1, none⟩ = some (.int .i64 ((rd_T73 l0 x7_1).f1)) := (blk_cell BK164.out 1).trans rfl
                        have hcz28_2 : wc.cell? ⟨gb164, 2, none⟩ = some (.int .i64 ((rd_T73 l0 x7_1).f2)) := (blk_cell BK164.out 2).trans rfl
                        have hcz28_3 : wc.cell? ⟨gb164, 3, none⟩ = some (.int .i64 ((rd_T73 l0 x7_1).f3)) := (blk_cell BK164.out 3).trans rfl
                        have hcz28_4 : wc.cell? ⟨gb164, 4, none⟩ = some (.int .i64 ((rd_T73 l0 x7_1).f4)) := (blk_cell BK164.out 4).trans rfl
                        have hcz28_5 : wc.cell? ⟨gb164, 5, none⟩ = some (.bool ((rd_T73 l0 x7_1).f5)) := (blk_cell BK164.out 5).trans rfl
                        have hfz28_0 := blk_frozen BK164.out 0
                        have hfz28_1 := blk_frozen BK164.out 1
                        have hfz28_2 := blk_frozen BK164.out 2
                        have hfz28_3 := blk_frozen BK164.out 3
                        have hfz28_4 := blk_frozen BK164.out 4
                        have hfz28_5 := blk_frozen BK164.out 5
                        go_wp2_with (first | ((with_reducible refine gate_callee (f := 60) rfl ?_); refine goesL_ (some 34) rfl rfl Try.func60 (by kernel_rfl) rfl #[.slice (some ad163) y172.length c0, .func (.func 61) #[] #[.pointer (some ⟨gb164, 0, none⟩)]] rfl (by (try simp only [List.map_toArray, List.map_cons, List.map_nil]); first | done | rfl | (simp only [List.length_drop, List.length_take]; rfl)) ?_; (with_reducible refine (impl_Node_60.calls _ _ y172 gb164 (rd_T73 l0 x7_1) _ ?side1 ?side2 ?side3 false A22.out).mono ?_); (case side3 => (with_reducible repeat (first | refine blk_drewN ?_ _ | refine blk_drew ?_ | refine blk_alloc ?_ _)); exact BK164.out); (case side1 => repeat (first | exact (Kd.C_below HR175.out HB.out) | (with_reducible refine Kd.C_alloc ?_ _) | (with_reducible refine Kd.C_drewN ?_ _) | (with_reducible refine Kd.C_drew ?_))); (case side2 => exact HC175.out); rintro e w29 ⟨rfl, hb⟩; refine ⟨_, rfl, ?_⟩; have n0_ := Aside0.mk (blk_below (g := gb164) (o := .cells #[.string ((rd_T73 l0 x7_1).f0), .int .i64 ((rd_T73 l0 x7_1).f1), .int .i64 ((rd_T73 l0 x7_1).f2), .int .i64 ((rd_T73 l0 x7_1).f3), .int .i64 ((rd_T73 l0 x7_1).f4), .bool ((rd_T73 l0 x7_1).f5)] 73 (0, 0)) (by (with_reducible repeat (first | refine blk_drewN ?_ _ | refine blk_drew ?_ | refine blk_alloc ?_ _)); exact BK164.out) hb); have n1_ := Aside0.mk (below_step (by repeat (first | (with_reducible first | exact HB.out | apply below_alloc | apply pw_below_drewN | apply below_drew1 | refine below_set ?_ GE164.out) | exact HB.out)) hb); clear BK164; clear HB; have BK164 := n0_; have HB := n1_; clear n0_ n1_; (try clear hb); (try clear hb2); (try clear hk); (try clear hi)))
                        go_roundg kj4
                        case measure => have := HK1.out; have := HJ4.out; omega
                        case rel => exact ⟨(wrap64 (x7_1 + 1)), (by first | rfl | (simp; done) | (simp [*]; done)), H', ⟨by have := HK1.out; have := HJ4.out; omega⟩, ⟨by repeat (first | (with_reducible first | exact HB.out | apply below_alloc | apply pw_below_drewN | apply below_drew1 | refine below_set ?_ GE164.out) | exact HB.out)⟩⟩
                    · rw [if_neg c21] at H
                      exact absurd H (by simp)
                  · rw [if_neg c20] at H
                    exact absurd H (by simp)
          · rw [if_neg c4] at H
            exact absurd H (by simp)
        · rw [if_neg c3] at H
          exact absurd H (by simp)
      · rw [if_neg c2] at H
        have c2b0 : decide (x7_1 < (l0.length : Int)) = false := decide_eq_false c2
        clear c2
        obtain rfl := Option.some.inj H
        go_wp2
        go_ret
        exact ⟨by first | rfl | (simp [errW_none, errW_some] <;> rfl) | (simp [*, errW_none, errW_some] <;> rfl), by repeat (first | (with_reducible first | exact HB.out | apply below_alloc | apply pw_below_drewN | apply below_drew1) | exact HB.out)⟩

/-! ### impl_pathOf: function 65 -/
def impl_pathOf.f : Nat → List (S73) → Int → Option (ByteArray)
  | 0, _, _ => none
  | k + 1, l0, a1 => if 0 ≤ a1 then (if a1 < (l0.length : Int) then (if ((rd_T73 l0 a1).f1) < 0 then (some ((rd_T73 l0 a1).f0)) else ((impl_pathOf.f k l0 ((rd_T73 l0 a1).f1)).bind fun t180 => (if t180.size + 1 ≤ 9223372036854775807 then (if (t180 ++ (⟨#[47]⟩ : ByteArray)).size + ((rd_T73 l0 a1).f0).size ≤ 9223372036854775807 then (some ((t180 ++ (⟨#[47]⟩ : ByteArray)) ++ ((rd_T73 l0 a1).f0))) else (none)) else (none)))) else (none)) else (none)
theorem impl_pathOf.mono_l : ∀ k, (∀ y0 y1, LeO (impl_pathOf.f k y0 y1) (impl_pathOf.f (k + 1) y0 y1))
  | 0 => fun _ _ r h => by simp [impl_pathOf.f] at h
  | k + 1 => by
    have ih0 := impl_pathOf.mono_l k
    · intro y0 y1
      unfold impl_pathOf.f
      repeat' first
      | (with_reducible exact ih0 _ _)
      | (with_reducible exact LeO.refl _)
      | (with_reducible exact LeO.none _)
      | (with_reducible refine LeO.ite ?_ ?_)
      | (with_reducible refine LeO.bind ?_ (fun _ => ?_))
      | exact ih0 _ _
      | exact LeO.none _
      | refine LeO.ite ?_ ?_
      | refine LeO.bind ?_ (fun _ => ?_)
theorem impl_pathOf.mono : ∀ a0 a1 k, LeO (impl_pathOf.f k a0 a1) (impl_pathOf.f (k + 1) a0 a1) := by
  intro a0 a1 k
  have ih0 := impl_pathOf.mono_l k
  exact ih0 a0 a1
def impl_pathOf.T3 : Bool × List (List Nat × List Nat) := (true, [([], []), ([], []), ([], []), ([1, 2], [1, 2]), ([3], [3]), ([4], [4]), ([0, 5], [0, 5]), ([6], [6]), ([], []), ([], []), ([8, 9], [8, 9]), ([10], [10]), ([11], [11]), ([7, 12], [7, 12]), ([13, 6, 0, 1, 2, 3, 4, 5, 6, 7, 8, 9, 10, 11, 12, 13], [13])])
def impl_pathOf.B3 : List Nat := [0, 0, 0, 6, 14, 30, 63, 127, 0, 0, 768, 1792, 3840, 8191, 16383]
theorem impl_pathOf.tab3 : rtab .any (opsOf Try.f65 3) = impl_pathOf.T3 := by kernel_rfl
theorem impl_pathOf.bits3 : waitsOk impl_pathOf.T3.2 impl_pathOf.B3 = true := by kernel_rfl
set_option maxHeartbeats 8000000 in
set_option maxRecDepth 100000 in
theorem impl_pathOf.calls (k : Nat) : ∀ (A0 : Option Addr) (c0 : Nat) (l0 : List (S73)) (a1 : Int) (r : ByteArray) (w : World) (hr0 : Kd.C k73 w A0 l0.length l0) (hc0 : l0.length ≤ c0) (h : impl_pathOf.f k l0 a1 = some r),
    Calls Try.prog 65 #[.slice A0 l0.length c0, .int .i64 a1] w fun e w' => e = .returned (.string r) ∧ Below w.heap.size w w' := by
  induction k using Nat.strongRecOn with
  | _ k ih =>
  intro A0 c0 l0 a1 r w hr0 hc0 h
  cases k with
  | zero => exact absurd h (by simp [impl_pathOf.f])
  | succ k =>
  simp only [impl_pathOf.f] at h
  have HR0 := Aside0.mk hr0
  have HC0 := Aside0.mk hc0
  clear hr0 hc0
  have HB := Aside0.mk (Below.refl w.heap.size w)
  have H : (if 0 ≤ a1 then (if a1 < (l0.length : Int) then (if ((rd_T73 l0 a1).f1) < 0 then (some ((rd_T73 l0 a1).f0)) else ((impl_pathOf.f k l0 ((rd_T73 l0 a1).f1)).bind fun t180 => (if t180.size + 1 ≤ 9223372036854775807 then (if (t180 ++ (⟨#[47]⟩ : ByteArray)).size + ((rd_T73 l0 a1).f0).size ≤ 9223372036854775807 then (some ((t180 ++ (⟨#[47]⟩ : ByteArray)) ++ ((rd_T73 l0 a1).f0))) else (none)) else (none)))) else (none)) else (none)) = some r := h
  clear h
  by_cases c3 : 0 ≤ a1
  · rw [if_pos c3] at H
    have c3b0 : decide (0 ≤ a1) = true := decide_eq_true c3
    clear c3
    by_cases c4 : a1 < (l0.length : Int)
    · rw [if_pos c4] at H
      have c4b0 : decide (a1 < (l0.length : Int)) = true := decide_eq_true c4
      clear c4
      by_cases c5 : ((rd_T73 l0 a1).f1) < 0
      · rw [if_pos c5] at H
        have c5b0 : decide (((rd_T73 l0 a1).f1) < 0) = true := decide_eq_true c5
        clear c5
        obtain rfl := Option.some.inj H
        have p177 : 0 ≤ (a1 : Int) := of_decide_eq_true (by first | (with_reducible assumption) | assumption)
        have q177 : a1 < (l0.length : Int) := of_decide_eq_true (by first | (with_reducible assumption) | assumption)
        obtain ⟨ad177, e177, hx177_0, hx177_1, hx177_2, hx177_3, hx177_4, hx177_5⟩ := at_T73 HR0.out a1 p177 q177
        cases e177
        replace p177 := eq_true p177
        replace q177 := eq_true q177
        have p178 : 0 ≤ (a1 : Int) := of_decide_eq_true (by first | (with_reducible assumption) | assumption)
        have q178 : a1 < (l0.length : Int) := of_decide_eq_true (by first | (with_reducible assumption) | assumption)
        obtain ⟨ad178, e178, hx178_0, hx178_1, hx178_2, hx178_3, hx178_4, hx178_5⟩ := at_T73 HR0.out a1 p178 q178
        obtain rfl : ad177 = ad178 := (by injection e178)
        replace p178 := eq_true p178
        replace q178 := eq_true q178
        go_enter Try.func65, Try.ntmps65
        go_wp2
        go_ret
        exact ⟨by first | rfl | (simp [errW_none, errW_some] <;> rfl) | (simp [*, errW_none, errW_some] <;> rfl), by repeat (first | (with_reducible first | exact HB.out | apply below_alloc | apply pw_below_drewN | apply below_drew1) | exact HB.out)⟩
      · rw [if_neg c5] at H
        have c5b0 : decide (((rd_T73 l0 a1).f1) < 0) = false := decide_eq_false c5
        clear c5
        replace H := Option.bind_eq_some_iff.mp H
        obtain ⟨t180, A60, H⟩ := H
        replace H : (if t180.size + 1 ≤ 9223372036854775807 then (if (t180 ++ (⟨#[47]⟩ : ByteArray)).size + ((rd_T73 l0 a1).f0).size ≤ 9223372036854775807 then (some ((t180 ++ (⟨#[47]⟩ : ByteArray)) ++ ((rd_T73 l0 a1).f0))) else (none)) else (none)) = some r := H
        have A6 := Aside0.mk A60
        clear A60
        by_cases c7 : t180.size + 1 ≤ 9223372036854775807
        · rw [if_pos c7] at H
          have c7b0 := eq_true c7
          have c7b1 : decide (t180.size + 1 ≤ 9223372036854775807) = true := decide_eq_true c7
          try have c7b2 : (9223372036854775807 < t180.size + 1) = False := eq_false (Nat.not_lt.2 c7)
          by_cases c8 : (t180 ++ (⟨#[47]⟩ : ByteArray)).size + ((rd_T73 l0 a1).f0).size ≤ 9223372036854775807
          · rw [if_pos c8] at H
            have c8b0 := eq_true c8
            have c8b1 : decide ((t180 ++ (⟨#[47]⟩ : ByteArray)).size + ((rd_T73 l0 a1).f0).size ≤ 9223372036854775807) = true := decide_eq_true c8
            have c8b3 : (9223372036854775807 < t180.size + 1 + ((rd_T73 l0 a1).f0).size) = False := eq_false (Nat.not_lt.2 (by have h_ := c8; rw [ByteArray.size_append] at h_; exact h_)); try have c8b2 : (9223372036854775807 < (t180 ++ (⟨#[47]⟩ : ByteArray)).size + ((rd_T73 l0 a1).f0).size) = False := eq_false (Nat.not_lt.2 c8)
            obtain rfl := Option.some.inj H
            have p177 : 0 ≤ (a1 : Int) := of_decide_eq_true (by first | (with_reducible assumption) | assumption)
            have q177 : a1 < (l0.length : Int) := of_decide_eq_true (by first | (with_reducible assumption) | assumption)
            obtain ⟨ad177, e177, hx177_0, hx177_1, hx177_2, hx177_3, hx177_4, hx177_5⟩ := at_T73 HR0.out a1 p177 q177
            cases e177
            replace p177 := eq_true p177
            replace q177 := eq_true q177
            go_enter Try.func65, Try.ntmps65
            try go_wp2
            have n0_ := Aside0.mk (below_drew1 HB.out)
            clear HB
            have HB := n0_
            clear n0_
            have p179 : 0 ≤ (a1 : Int) := of_decide_eq_true (by first | (with_reducible assumption) | assumption)
            have q179 : a1 < (l0.length : Int) := of_decide_eq_true (by first | (with_reducible assumption) | assumption)
            obtain ⟨ad179, e179, hx179_0, hx179_1, hx179_2, hx179_3, hx179_4, hx179_5⟩ := at_T73 HR0.out a1 p179 q179
            have hw179_5 := hx179_5
            have hw179_4 := hx179_4
            have hw179_3 := hx179_3
            have hw179_2 := hx179_2
            have hw179_1 := hx179_1
            have hw179_0 := hx179_0
            obtain rfl : ad177 = ad179 := (by injection e179)
            replace hx179_0 := (HB.out.cell (World.block_lt_of_cell? w _ hx179_0)).trans hx179_0
            replace hx179_1 := (HB.out.cell (World.block_lt_of_cell? w _ hx179_1)).trans hx179_1
            replace hx179_2 := (HB.out.cell (World.block_lt_of_cell? w _ hx179_2)).trans hx179_2
            replace hx179_3 := (HB.out.cell (World.block_lt_of_cell? w _ hx179_3)).trans hx179_3
            replace hx179_4 := (HB.out.cell (World.block_lt_of_cell? w _ hx179_4)).trans hx179_4
            replace hx179_5 := (HB.out.cell (World.block_lt_of_cell? w _ hx179_5)).trans hx179_5
            replace p179 := eq_true p179
            replace q179 := eq_true q179
            have p181 : 0 ≤ (a1 : Int) := of_decide_eq_true (by first | (with_reducible assumption) | assumption)
            have q181 : a1 < (l0.length : Int) := of_decide_eq_true (by first | (with_reducible assumption) | assumption)
            obtain ⟨ad181, e181, hx181_0, hx181_1, hx181_2, hx181_3, hx181_4, hx181_5⟩ := at_T73 HR0.out a1 p181 q181
            have hw181_5 := hx181_5
            have hw181_4 := hx181_4
            have hw181_3 := hx181_3
            have hw181_2 := hx181_2
            have hw181_1 := hx181_1
            have hw181_0 := hx181_0
            obtain rfl : ad177 = ad181 := (by injection e181)
            replace hx181_0 := (HB.out.cell (World.block_lt_of_cell? w _ hx181_0)).trans hx181_0
            replace hx181_1 := (HB.out.cell (World.block_lt_of_cell? w _ hx181_1)).trans hx181_1
            replace hx181_2 := (HB.out.cell (World.block_lt_of_cell? w _ hx181_2)).trans hx181_2
            replace hx181_3 := (HB.out.cell (World.block_lt_of_cell? w _ hx181_3)).trans hx181_3
            replace hx181_4 := (HB.out.cell (World.block_lt_of_cell? w _ hx181_4)).trans hx181_4
            replace hx181_5 := (HB.out.cell (World.block_lt_of_cell? w _ hx181_5)).trans hx181_5
            replace p181 := eq_true p181
            replace q181 := eq_true q181
            refine start_ (n := 15) (S := fun w' => w'.cell? (ad177.add ((a1).toNat * 6)) = some (.string ((rd_T73 l0 a1).f0)) ∧ w'.cell? ⟨(ad177.add ((a1).toNat * 6)).block, (ad177.add ((a1).toNat * 6)).off + 1, none⟩ = some (.int .i64 ((rd_T73 l0 a1).f1)) ∧ w'.cell? ⟨(ad177.add ((a1).toNat * 6)).block, (ad177.add ((a1).toNat * 6)).off + 2, none⟩ = some (.int .i64 ((rd_T73 l0 a1).f2)) ∧ w'.cell? ⟨(ad177.add ((a1).toNat * 6)).block, (ad177.add ((a1).toNat * 6)).off + 3, none⟩ = some (.int .i64 ((rd_T73 l0 a1).f3)) ∧ w'.cell? ⟨(ad177.add ((a1).toNat * 6)).block, (ad177.add ((a1).toNat * 6)).off + 4, none⟩ = some (.int .i64 ((rd_T73 l0 a1).f4)) ∧ w'.cell? ⟨(ad177.add ((a1).toNat * 6)).block, (ad177.add ((a1).toNat * 6)).off + 5, none⟩ = some (.bool ((rd_T73 l0 a1).f5)) ∧ w'.cell? (ad177.add ((a1).toNat * 6)) = some (.string ((rd_T73 l0 a1).f0)) ∧ w'.cell? ⟨(ad177.add ((a1).toNat * 6)).block, (ad177.add ((a1).toNat * 6)).off + 1, none⟩ = some (.int .i64 ((rd_T73 l0 a1).f1)) ∧ w'.cell? ⟨(ad177.add ((a1).toNat * 6)).block, (ad177.add ((a1).toNat * 6)).off + 2, none⟩ = some (.int .i64 ((rd_T73 l0 a1).f2)) ∧ w'.cell? ⟨(ad177.add ((a1).toNat * 6)).block, (ad177.add ((a1).toNat * 6)).off + 3, none⟩ = some (.int .i64 ((rd_T73 l0 a1).f3)) ∧ w'.cell? ⟨(ad177.add ((a1).toNat * 6)).block, (ad177.add ((a1).toNat * 6)).off + 4, none⟩ = some (.int .i64 ((rd_T73 l0 a1).f4)) ∧ w'.cell? ⟨(ad177.add ((a1).toNat * 6)).block, (ad177.add ((a1).toNat * 6)).off + 5, none⟩ = some (.bool ((rd_T73 l0 a1).f5))) (ds := []) #[false, false, false, false, false, false, false, false, false, false, false, false, false, false, false] (by kernel_rfl) rfl rfl ⟨((HB.out.cell (World.block_lt_of_cell? w _ hw179_0)).trans hw179_0), ((HB.out.cell (World.block_lt_of_cell? w _ hw179_1)).trans hw179_1), ((HB.out.cell (World.block_lt_of_cell? w _ hw179_2)).trans hw179_2), ((HB.out.cell (World.block_lt_of_cell? w _ hw179_3)).trans hw179_3), ((HB.out.cell (World.block_lt_of_cell? w _ hw179_4)).trans hw179_4), ((HB.out.cell (World.block_lt_of_cell? w _ hw179_5)).trans hw179_5), ((HB.out.cell (World.block_lt_of_cell? w _ hw181_0)).trans hw181_0), ((HB.out.cell (World.block_lt_of_cell? w _ hw181_1)).trans hw181_1), ((HB.out.cell (World.block_lt_of_cell? w _ hw181_2)).trans hw181_2), ((HB.out.cell (World.block_lt_of_cell? w _ hw181_3)).trans hw181_3), ((HB.out.cell (World.block_lt_of_cell? w _ hw181_4)).trans hw181_4), ((HB.out.cell (World.block_lt_of_cell? w _ hw181_5)).trans hw181_5)⟩ (fun hHeld => ?_); refine with_tabW impl_pathOf.tab3 impl_pathOf.bits3 (fun HT_ HW_ => ?_)
            generalize w.drew = w9 at HB hx179_0 hx179_1 hx179_2 hx179_3 hx179_4 hx179_5 hx181_0 hx181_1 hx181_2 hx181_3 hx181_4 hx181_5 hHeld ⊢
            refine pure_ (i := 0) (N := some 16) (v := ?_) (a' := ?_) #[true, false, false, false, false, false, false, false, false, false, false, false, false, false, false] rfl rfl (any_of HT_.out (by kernel_rfl)) (fun _ _ _ h => h) (Or.inl ⟨by rfl, ?_⟩) ?_ ?_
            rotate_left
            · intro w'
              go_simp
              with_reducible rfl
            rotate_left
            · simp only [Act.put, List.setIfInBounds_toArray, List.set_cons_zero, List.set_cons_succ, i64_w, i32_w]
              rfl
            refine pure_ (i := 1) (N := some 17) (v := ?_) (a' := ?_) #[true, true, false, false, false, false, false, false, false, false, false, false, false, false, false] rfl rfl (any_of HT_.out (by kernel_rfl)) (fun _ _ _ h => h) (Or.inl ⟨by rfl, ?_⟩) ?_ ?_
            rotate_left
            · intro w'
              go_simp
              with_reducible rfl
            rotate_left
            · simp only [Act.put, List.setIfInBounds_toArray, List.set_cons_zero, List.set_cons_succ, i64_w, i32_w]
              rfl
            refine pure_ (i := 2) (N := some 18) (v := ?_) (a' := ?_) #[true, true, true, false, false, false, false, false, false, false, false, false, false, false, false] rfl rfl (any_of HT_.out (by kernel_rfl)) (fun _ _ _ h => h) (Or.inl ⟨by rfl, ?_⟩) ?_ ?_
            rotate_left
            · intro w'
              go_simp
              with_reducible rfl
            rotate_left
            · simp only [Act.put, List.setIfInBounds_toArray, List.set_cons_zero, List.set_cons_succ, i64_w, i32_w]
              rfl
            refine pure_ (i := 3) (N := some 19) (v := ?_) (a' := ?_) #[true, true, true, true, false, false, false, false, false, false, false, false, false, false, false] rfl rfl (any_of HT_.out (by kernel_rfl)) (fun _ _ _ h => h) (Or.inl ⟨by rfl, ?_⟩) ?_ ?_
            rotate_left
            · intro w'
              go_simp
              with_reducible rfl
            rotate_left
            · simp only [Act.put, List.setIfInBounds_toArray, List.set_cons_zero, List.set_cons_succ, i64_w, i32_w]
              rfl
            refine pure_ (i := 4) (N := some 20) (v := ?_) (a' := ?_) #[true, true, true, true, true, false, false, false, false, false, false, false, false, false, false] rfl rfl (any_of HT_.out (by kernel_rfl)) (fun _ _ _ h => h) (Or.inl ⟨by rfl, ?_⟩) ?_ ?_
            rotate_left
            · intro w'
              go_simp
              with_reducible rfl
            rotate_left
            · simp only [Act.put, List.setIfInBounds_toArray, List.set_cons_zero, List.set_cons_succ, i64_w, i32_w]
              rfl
            refine pure_ (i := 8) (N := some 24) (v := ?_) (a' := ?_) #[true, true, true, true, true, false, false, false, true, false, false, false, false, false, false] rfl rfl (any_of HT_.out (by kernel_rfl)) (fun _ _ _ h => h) (Or.inl ⟨by rfl, ?_⟩) ?_ ?_
            rotate_left
            · intro w'
              go_simp
              with_reducible rfl
            rotate_left
            · simp only [Act.put, List.setIfInBounds_toArray, List.set_cons_zero, List.set_cons_succ, i64_w, i32_w]
              rfl
            refine pure_ (i := 9) (N := some 25) (v := ?_) (a' := ?_) #[true, true, true, true, true, false, false, false, true, true, false, false, false, false, false] rfl rfl (any_of HT_.out (by kernel_rfl)) (fun _ _ _ h => h) (Or.inl ⟨by rfl, ?_⟩) ?_ ?_
            rotate_left
            · intro w'
              go_simp
              with_reducible rfl
            rotate_left
            · simp only [Act.put, List.setIfInBounds_toArray, List.set_cons_zero, List.set_cons_succ, i64_w, i32_w]
              rfl
            refine pure_ (i := 10) (N := some 26) (v := ?_) (a' := ?_) #[true, true, true, true, true, false, false, false, true, true, true, false, false, false, false] rfl rfl (any_of HT_.out (by kernel_rfl)) (fun _ _ _ h => h) (Or.inl ⟨by rfl, ?_⟩) ?_ ?_
            rotate_left
            · intro w'
              go_simp
              with_reducible rfl
            rotate_left
            · simp only [Act.put, List.setIfInBounds_toArray, List.set_cons_zero, List.set_cons_succ, i64_w, i32_w]
              rfl
            refine pure_ (i := 11) (N := some 27) (v := ?_) (a' := ?_) #[true, true, true, true, true, false, false, false, true, true, true, true, false, false, false] rfl rfl (any_of HT_.out (by kernel_rfl)) (fun _ _ _ h => h) (Or.inl ⟨by rfl, ?_⟩) ?_ ?_
            rotate_left
            · intro w'
              go_simp
              with_reducible rfl
            rotate_left
            · simp only [Act.put, List.setIfInBounds_toArray, List.set_cons_zero, List.set_cons_succ, i64_w, i32_w]
              rfl
            refine take_ (i := 5) (N := some 21) (v := ?_) (a' := ?_) #[true, true, true, true, true, true, false, false, true, true, true, true, false, false, false] rfl rfl (take_ofW HT_.out HW_.out (by kernel_rfl)) (fun _ _ _ h => h) (Or.inl ⟨by rfl, ?_⟩) hHeld ?_ ?_
            rotate_left
            · rintro w' ⟨s0, s1, s2, s3, s4, s5, s6, s7, s8, s9, s10, s11⟩
              go_simp
              with_reducible rfl
            rotate_left
            · simp only [Act.put, List.setIfInBounds_toArray, List.set_cons_zero, List.set_cons_succ, i64_w, i32_w]
              rfl
            refine take_ (i := 12) (N := some 28) (v := ?_) (a' := ?_) #[true, true, true, true, true, true, false, false, true, true, true, true, true, false, false] rfl rfl (take_ofW HT_.out HW_.out (by kernel_rfl)) (fun _ _ _ h => h) (Or.inl ⟨by rfl, ?_⟩) hHeld ?_ ?_
            rotate_left
            · rintro w' ⟨s0, s1, s2, s3, s4, s5, s6, s7, s8, s9, s10, s11⟩
              go_simp
              with_reducible rfl
            rotate_left
            · simp only [Act.put, List.setIfInBounds_toArray, List.set_cons_zero, List.set_cons_succ, i64_w, i32_w]
              rfl
            refine one_ (i := 6) (N := some 22) #[true, true, true, true, true, true, true, false, true, true, true, true, true, false, false] rfl rfl (one_of HT_.out (by kernel_rfl)) (by decide) (fun K hK => ?_)
            refine goes_ Try.func65 (by kernel_rfl) rfl #[.slice (some ad177) l0.length c0, .int .i64 ((rd_T73 l0 a1).f1)] (by rfl) rfl rfl (by (try simp only [List.map_toArray, List.map_cons, List.map_nil]); first | done | rfl | (simp only [List.length_drop, List.length_take]; rfl)) ?_
            with_reducible refine (ih k (by omega) _ _ l0 ((rd_T73 l0 a1).f1) t180 _ ?side1 ?side2 A6.out).mono ?_
            (case side1 => repeat (first | exact (Kd.C_below HR0.out HB.out) | (with_reducible refine Kd.C_alloc ?_ _) | (with_reducible refine Kd.C_drewN ?_ _) | (with_reducible refine Kd.C_drew ?_)))
            (case side2 => exact HC0.out)
            rintro e w10 ⟨rfl, hb⟩
            refine ⟨_, rfl, ?_⟩
            have n0_ := Aside0.mk (below_step (by repeat (first | (with_reducible first | exact HB.out | apply below_alloc | apply pw_below_drewN | apply below_drew1) | exact HB.out)) hb)
            clear HB
            have HB := n0_
            clear n0_
            (try clear hb)
            (try clear hb2)
            (try clear hk)
            (try clear hi)
            refine hK.out _ _ ⟨((HB.out.cell (World.block_lt_of_cell? w _ hw179_0)).trans hw179_0), ((HB.out.cell (World.block_lt_of_cell? w _ hw179_1)).trans hw179_1), ((HB.out.cell (World.block_lt_of_cell? w _ hw179_2)).trans hw179_2), ((HB.out.cell (World.block_lt_of_cell? w _ hw179_3)).trans hw179_3), ((HB.out.cell (World.block_lt_of_cell? w _ hw179_4)).trans hw179_4), ((HB.out.cell (World.block_lt_of_cell? w _ hw179_5)).trans hw179_5), ((HB.out.cell (World.block_lt_of_cell? w _ hw181_0)).trans hw181_0), ((HB.out.cell (World.block_lt_of_cell? w _ hw181_1)).trans hw181_1), ((HB.out.cell (World.block_lt_of_cell? w _ hw181_2)).trans hw181_2), ((HB.out.cell (World.block_lt_of_cell? w _ hw181_3)).trans hw181_3), ((HB.out.cell (World.block_lt_of_cell? w _ hw181_4)).trans hw181_4), ((HB.out.cell (World.block_lt_of_cell? w _ hw181_5)).trans hw181_5)⟩ (fun hHeld => ?_)
            clear hK K
            refine norm_ (a' := ?_) ?_ ?_
            rotate_left
            · show Act.put _ (some 22) _ = _
              simp only [Act.put, List.setIfInBounds_toArray, List.set_cons_zero, List.set_cons_succ, i64_w, i32_w]
              rfl
            refine pure_ (i := 7) (N := some 23) (v := ?_) (a' := ?_) #[true, true, true, true, true, true, true, true, true, true, true, true, true, false, false] rfl rfl (any_of HT_.out (by kernel_rfl)) (fun _ _ _ h => h) (Or.inl ⟨by rfl, ?_⟩) ?_ ?_
            rotate_left
            · intro w'
              go_simp
              with_reducible rfl
            rotate_left
            · simp only [Act.put, List.setIfInBounds_toArray, List.set_cons_zero, List.set_cons_succ, i64_w, i32_w]
              rfl
            refine pure_ (i := 13) (N := some 29) (v := ?_) (a' := ?_) #[true, true, true, true, true, true, true, true, true, true, true, true, true, true, false] rfl rfl (any_of HT_.out (by kernel_rfl)) (fun _ _ _ h => h) (Or.inl ⟨by rfl, ?_⟩) ?_ ?_
            rotate_left
            · intro w'
              go_simp
              with_reducible rfl
            rotate_left
            · simp only [Act.put, List.setIfInBounds_toArray, List.set_cons_zero, List.set_cons_succ, i64_w, i32_w]
              rfl
            refine pure_ (i := 14) (N := some 4) (v := ?_) (a' := ?_) #[true, true, true, true, true, true, true, true, true, true, true, true, true, true, true] rfl rfl (any_of HT_.out (by kernel_rfl)) (fun _ _ _ h => h) (Or.inl ⟨by rfl, ?_⟩) ?_ ?_
            rotate_left
            · intro w'
              go_simp
              with_reducible rfl
            rotate_left
            · simp only [Act.put, List.setIfInBounds_toArray, List.set_cons_zero, List.set_cons_succ, i64_w, i32_w]
              rfl
            refine done_ (done_of HT_.out (by kernel_rfl)) ?_
            try go_wp2
            go_ret
            exact ⟨by first | rfl | (simp [errW_none, errW_some] <;> rfl) | (simp [*, errW_none, errW_some] <;> rfl), by repeat (first | (with_reducible first | exact HB.out | apply below_alloc | apply pw_below_drewN | apply below_drew1) | exact HB.out)⟩
          · rw [if_neg c8] at H
            exact absurd H (by simp)
        · rw [if_neg c7] at H
          exact absurd H (by simp)
    · rw [if_neg c4] at H
      exact absurd H (by simp)
  · rw [if_neg c3] at H
    exact absurd H (by simp)

/-! ### impl_FindNode: function 25 -/
def impl_FindNode.l0 : Nat → List (S73) → ByteArray → Int → Int → Option (Int)
  | 0, _, _, _, _ => none
  | k + 1, x0, x1, x10, x11 => if x11 < x10 then ((impl_pathOf.f k x0 x11).bind fun t183 => (if t183.toList = x1.toList then (some x11) else (impl_FindNode.l0 k x0 x1 x10 (wrap64 (x11 + 1))))) else (some (-1))
def impl_FindNode.f (k : Nat) (l0 : List (S73)) (a1 : ByteArray) : Option (Int) := (impl_GoodScene.f k l0).bind fun t182 => (if t182 = true then (impl_FindNode.l0 k l0 a1 (l0.length : Int) 0) else (some (-1)))
theorem impl_FindNode.mono_l : ∀ k, (∀ y0 y1 y2 y3, LeO (impl_FindNode.l0 k y0 y1 y2 y3) (impl_FindNode.l0 (k + 1) y0 y1 y2 y3))
  | 0 => fun _ _ _ _ r h => by simp [impl_FindNode.l0] at h
  | k + 1 => by
    have ih0 := impl_FindNode.mono_l k
    · intro y0 y1 y2 y3
      unfold impl_FindNode.l0
      repeat' first
      | (with_reducible exact ih0 _ _ _ _)
      | (with_reducible exact impl_GoodScene.mono _ _)
      | (with_reducible exact impl_pathOf.mono _ _ _)
      | (with_reducible exact LeO.refl _)
      | (with_reducible exact LeO.none _)
      | (with_reducible refine LeO.ite ?_ ?_)
      | (with_reducible refine LeO.bind ?_ (fun _ => ?_))
      | exact ih0 _ _ _ _
      | exact impl_GoodScene.mono _ _
      | exact impl_pathOf.mono _ _ _
      | exact LeO.none _
      | refine LeO.ite ?_ ?_
      | refine LeO.bind ?_ (fun _ => ?_)
theorem impl_FindNode.mono : ∀ a0 a1 k, LeO (impl_FindNode.f k a0 a1) (impl_FindNode.f (k + 1) a0 a1) := by
  intro a0 a1 k
  have ih0 := impl_FindNode.mono_l k
  unfold impl_FindNode.f
  repeat' first
      | (with_reducible exact ih0 _ _ _ _)
      | (with_reducible exact impl_GoodScene.mono _ _)
      | (with_reducible exact impl_pathOf.mono _ _ _)
      | (with_reducible exact LeO.refl _)
      | (with_reducible exact LeO.none _)
      | (with_reducible refine LeO.ite ?_ ?_)
      | (with_reducible refine LeO.bind ?_ (fun _ => ?_))
      | exact ih0 _ _ _ _
      | exact impl_GoodScene.mono _ _
      | exact impl_pathOf.mono _ _ _
      | exact LeO.none _
      | refine LeO.ite ?_ ?_
      | refine LeO.bind ?_ (fun _ => ?_)
set_option maxHeartbeats 8000000 in
set_option maxRecDepth 100000 in
theorem impl_FindNode.calls (k : Nat) (A0 : Option Addr) (c0 : Nat) (l0 : List (S73)) (a1 : ByteArray) (r : Int) (w : World) (hr0 : Kd.C k73 w A0 l0.length l0) (hc0 : l0.length ≤ c0) (h : impl_FindNode.f k l0 a1 = some r) :
    Calls Try.prog 25 #[.slice A0 l0.length c0, .string a1] w fun e w' => e = .returned (.int .i64 r) ∧ Below w.heap.size w w' := by
  have HR0 := Aside0.mk hr0
  have HC0 := Aside0.mk hc0
  clear hr0 hc0
  have HB := Aside0.mk (Below.refl w.heap.size w)
  have H : ((impl_GoodScene.f k l0).bind fun t182 => (if t182 = true then (impl_FindNode.l0 k l0 a1 (l0.length : Int) 0) else (some (-1)))) = some r := h
  clear h
  replace H := Option.bind_eq_some_iff.mp H
  obtain ⟨t182, A30, H⟩ := H
  replace H : (if t182 = true then (impl_FindNode.l0 k l0 a1 (l0.length : Int) 0) else (some (-1))) = some r := H
  have A3 := Aside0.mk A30
  clear A30
  by_cases c4 : t182 = true
  · subst c4
    have H1 : (impl_FindNode.l0 k l0 a1 (l0.length : Int) 0) = some r := by rw [if_pos rfl] at H; exact H
    clear H
    have H := H1
    clear H1
    have H' := Aside0.mk H
    clear H
    go_enter Try.func25, Try.ntmps25
    go_wp2_with (first | ((with_reducible refine gate_callee (f := 20) rfl ?_); refine goesL_ (some 7) rfl rfl Try.func20 (by kernel_rfl) rfl #[.slice A0 l0.length c0] rfl (by (try simp only [List.map_toArray, List.map_cons, List.map_nil]); first | done | rfl | (simp only [List.length_drop, List.length_take]; rfl)) ?_; (with_reducible refine (impl_GoodScene.calls k _ _ l0 true _ ?side1 ?side2 A3.out).mono ?_); (case side1 => repeat (first | exact HR0.out | (with_reducible refine Kd.C_alloc ?_ _) | (with_reducible refine Kd.C_drewN ?_ _) | (with_reducible refine Kd.C_drew ?_))); (case side2 => exact HC0.out); rintro e w5 ⟨rfl, hb⟩; refine ⟨_, rfl, ?_⟩; have n0_ := Aside0.mk (below_step (by repeat (first | (with_reducible first | exact HB.out | apply below_alloc | apply pw_below_drewN | apply below_drew1) | exact HB.out)) hb); clear HB; have HB := n0_; clear n0_; (try clear hb); (try clear hb2); (try clear hk); (try clear hi)))
    go_loopg [11] k (fun kq v11 w' => ∃ (x11_1 : Int), v11 = .int .i64 x11_1 ∧ Aside0 (impl_FindNode.l0 kq l0 a1 (l0.length : Int) x11_1 = some r) ∧ Aside0 (kq ≤ k) ∧ Aside0 (Below w.heap.size w w'))
    case atStart => exact ⟨(0), (by first | rfl | (simp; done) | (simp [*]; done)), H', ⟨Nat.le_refl _⟩, ⟨by repeat (first | (with_reducible first | exact HB.out | apply below_alloc | apply pw_below_drewN | apply below_drew1) | exact HB.out)⟩⟩
    case round =>
      clear H'
      try clear c2
      try clear p2
      try clear c4
      obtain ⟨x11_1, rfl, HA, HK1, HB⟩ := hrel
      cases gk with
      | zero => exact absurd HA.out (by simp [impl_FindNode.l0])
      | succ k1 =>
        have H := HA.out
        clear HA
        simp only [impl_FindNode.l0] at H
        by_cases c6 : x11_1 < (l0.length : Int)
        · rw [if_pos c6] at H
          have c6b0 : decide (x11_1 < (l0.length : Int)) = true := decide_eq_true c6
          clear c6
          replace H := Option.bind_eq_some_iff.mp H
          obtain ⟨t183, A70, H⟩ := H
          replace H : (if t183.toList = a1.toList then (some x11_1) else (impl_FindNode.l0 k1 l0 a1 (l0.length : Int) (wrap64 (x11_1 + 1)))) = some r := H
          have A7 := Aside0.mk A70
          clear A70
          by_cases c8 : t183.toList = a1.toList
          · rw [if_pos c8] at H
            have c8b0 : (t183.toList == a1.toList) = true := beq_iff_eq.mpr c8
            have c8b1 : (t183.toList != a1.toList) = false := bne_eq_false_iff_eq.mpr c8
            clear c8
            obtain rfl := Option.some.inj H
            go_wp2_with (first | ((with_reducible refine gate_callee (f := 65) rfl ?_); refine goesL_ (some 16) rfl rfl Try.func65 (by kernel_rfl) rfl #[.slice A0 l0.length c0, .int .i64 x11_1] rfl (by (try simp only [List.map_toArray, List.map_cons, List.map_nil]); first | done | rfl | (simp only [List.length_drop, List.length_take]; rfl)) ?_; (with_reducible refine (impl_pathOf.calls k1 _ _ l0 x11_1 t183 _ ?side1 ?side2 A7.out).mono ?_); (case side1 => repeat (first | exact (Kd.C_below HR0.out HB.out) | (with_reducible refine Kd.C_alloc ?_ _) | (with_reducible refine Kd.C_drewN ?_ _) | (with_reducible refine Kd.C_drew ?_))); (case side2 => exact HC0.out); rintro e w9 ⟨rfl, hb⟩; refine ⟨_, rfl, ?_⟩; have n0_ := Aside0.mk (below_step (by repeat (first | (with_reducible first | exact HB.out | apply below_alloc | apply pw_below_drewN | apply below_drew1) | exact HB.out)) hb); clear HB; have HB := n0_; clear n0_; (try clear hb); (try clear hb2); (try clear hk); (try clear hi)))
            go_ret
            exact ⟨by first | rfl | (simp [errW_none, errW_some] <;> rfl) | (simp [*, errW_none, errW_some] <;> rfl), by repeat (first | (with_reducible first | exact HB.out | apply below_alloc | apply pw_below_drewN | apply below_drew1) | exact HB.out)⟩
          · rw [if_neg c8] at H
            have c8b0 : (t183.toList == a1.toList) = false := beq_eq_false_iff_ne.mpr c8
            have c8b1 : (t183.toList != a1.toList) = true := bne_iff_ne.mpr c8
            have H' := Aside0.mk H
            clear H
            go_wp2_with (first | ((with_reducible refine gate_callee (f := 65) rfl ?_); refine goesL_ (some 16) rfl rfl Try.func65 (by kernel_rfl) rfl #[.slice A0 l0.length c0, .int .i64 x11_1] rfl (by (try simp only [List.map_toArray, List.map_cons, List.map_nil]); first | done | rfl | (simp only [List.length_drop, List.length_take]; rfl)) ?_; (with_reducible refine (impl_pathOf.calls k1 _ _ l0 x11_1 t183 _ ?side1 ?side2 A7.out).mono ?_); (case side1 => repeat (first | exact (Kd.C_below HR0.out HB.out) | (with_reducible refine Kd.C_alloc ?_ _) | (with_reducible refine Kd.C_drewN ?_ _) | (with_reducible refine Kd.C_drew ?_))); (case side2 => exact HC0.out); rintro e w10 ⟨rfl, hb⟩; refine ⟨_, rfl, ?_⟩; have n0_ := Aside0.mk (below_step (by repeat (first | (with_reducible first | exact HB.out | apply below_alloc | apply pw_below_drewN | apply below_drew1) | exact HB.out)) hb); clear HB; have HB := n0_; clear n0_; (try clear hb); (try clear hb2); (try clear hk); (try clear hi)))
            go_roundg k1
            case measure => have := HK1.out; omega
            case rel => exact ⟨(wrap64 (x11_1 + 1)), (by first | rfl | (simp; done) | (simp [*]; done)), H', ⟨by have := HK1.out; omega⟩, ⟨by repeat (first | (with_reducible first | exact HB.out | apply below_alloc | apply pw_below_drewN | apply below_drew1) | exact HB.out)⟩⟩
        · rw [if_neg c6] at H
          have c6b0 : decide (x11_1 < (l0.length : Int)) = false := decide_eq_false c6
          clear c6
          obtain rfl := Option.some.inj H
          go_wp2
          go_ret
          exact ⟨by first | rfl | (simp [errW_none, errW_some] <;> rfl) | (simp [*, errW_none, errW_some] <;> rfl), by repeat (first | (with_reducible first | exact HB.out | apply below_alloc | apply pw_below_drewN | apply below_drew1) | exact HB.out)⟩
  · replace c4 := Bool.eq_false_iff.mpr c4
    subst c4
    have H1 : (some (-1)) = some r := by rw [if_neg (show ¬ (false = true) by decide)] at H; exact H
    clear H
    have H := H1
    clear H1
    obtain rfl := Option.some.inj H
    go_enter Try.func25, Try.ntmps25
    go_wp2_with (first | ((with_reducible refine gate_callee (f := 20) rfl ?_); refine goesL_ (some 7) rfl rfl Try.func20 (by kernel_rfl) rfl #[.slice A0 l0.length c0] rfl (by (try simp only [List.map_toArray, List.map_cons, List.map_nil]); first | done | rfl | (simp only [List.length_drop, List.length_take]; rfl)) ?_; (with_reducible refine (impl_GoodScene.calls k _ _ l0 false _ ?side1 ?side2 A3.out).mono ?_); (case side1 => repeat (first | exact HR0.out | (with_reducible refine Kd.C_alloc ?_ _) | (with_reducible refine Kd.C_drewN ?_ _) | (with_reducible refine Kd.C_drew ?_))); (case side2 => exact HC0.out); rintro e w11 ⟨rfl, hb⟩; refine ⟨_, rfl, ?_⟩; have n0_ := Aside0.mk (below_step (by repeat (first | (with_reducible first | exact HB.out | apply below_alloc | apply pw_below_drewN | apply below_drew1) | exact HB.out)) hb); clear HB; have HB := n0_; clear n0_; (try clear hb); (try clear hb2); (try clear hk); (try clear hi)))
    go_ret
    exact ⟨by first | rfl | (simp [errW_none, errW_some] <;> rfl) | (simp [*, errW_none, errW_some] <;> rfl), by repeat (first | (with_reducible first | exact HB.out | apply below_alloc | apply pw_below_drewN | apply below_drew1) | exact HB.out)⟩

end Go.Proofs.Ytmabgkhkokckgaa.PFnExactFindNode
