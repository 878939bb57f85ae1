/- The machine's side of a law, function by function: a Lean function with the Go function's answers and the proof that the Go code comes to them. No condition. Written by this session's program over the kit's print, this session's own contracts set in. -/
import Derived.Test.YtiaajmnmbjheoaaPFnExactKindsOfx0
import Derived.Test.YtiaajmnmbjheoaaPFnExactKindsOfx1
namespace Go.Proofs.Ytiaajmnmbjheoaa.PFnExactKindsOf
open Go.RowKit Go.Proofs.YtiaajmnmbjheoaaW.PrintWords Go.Proofs.YtiaajmnmbjheoaaW.PrintLast Go.Proofs.YtiaajmnmbjheoaaW.PrintMore
attribute [local go_sem] max2_int min2_int max_two min_two max_three min_three max_four min_four   -- for this text's walks alone
set_option linter.unusedVariables false
set_option linter.unusedSimpArgs false

/-! ### spec_GoodWorld: function 38 -/
mutual
def spec_GoodWorld.j0 : Nat → Bool → Int → Int → List (S69) → Option (Bool)
 | 0, _, _, _, _ => none
 | k + 1, x22, x114000, x114001, x114002 => if x22 = true then (some false) else (spec_GoodWorld.l0 k x114002 (x114002.length : Int) 0 x114000 x114001 x114002)
def spec_GoodWorld.l0 : Nat → List (S69) → Int → Int → Int → Int → List (S69) → Option (Bool)
 | 0, _, _, _, _, _, _ => none
 | k + 1, x24, x25, x26, x114000, x114001, x114002 => if x26 < x25 then (if 0 ≤ x26 then (if x26 < (x24.length : Int) then ((spec_l1In.f ((rd_T69 x24 x26).f0) 1 (wrap64 (x114000 - 1))).bind fun t118 => (if t118 = true then (if x26 > 0 then (if 0 ≤ (wrap64 (x26 - 1)) then (if (wrap64 (x26 - 1)) < (x114002.length : Int) then (if ((rd_T69 x114002 (wrap64 (x26 - 1))).f0) ≥ ((rd_T69 x24 x26).f0) then (spec_GoodWorld.j2 k x24 x25 x26 true x114000 x114001 x114002 ((rd_T69 x24 x26).f0) ((rd_T69 x24 x26).f1)) else (spec_GoodWorld.j2 k x24 x25 x26 (decide ((((rd_T69 x24 x26).f1).length : Int) > 12)) x114000 x114001 x114002 ((rd_T69 x24 x26).f0) ((rd_T69 x24 x26).f1))) else (none)) else (none)) else (spec_GoodWorld.j2 k x24 x25 x26 (decide ((((rd_T69 x24 x26).f1).length : Int) > 12)) x114000 x114001 x114002 ((rd_T69 x24 x26).f0) ((rd_T69 x24 x26).f1))) else (spec_GoodWorld.j2 k x24 x25 x26 true x114000 x114001 x114002 ((rd_T69 x24 x26).f0) ((rd_T69 x24 x26).f1)))) else (none)) else (none)) else (some true)
def spec_GoodWorld.j2 : Nat → List (S69) → Int → Int → Bool → Int → Int → List (S69) → Int → List (S72) → Option (Bool)
 | 0, _, _, _, _, _, _, _, _, _ => none
 | k + 1, x24, x25, x26, x59, x114000, x114001, x114002, x118000, x118001 => if x59 = true then (some false) else (spec_GoodWorld.l1 k x24 x25 x26 x118001 (x118001.length : Int) 0 x114000 x114001 x114002 x118000 x118001)
def spec_GoodWorld.l1 : Nat → List (S69) → Int → Int → List (S72) → Int → Int → Int → Int → List (S69) → Int → List (S72) → Option (Bool)
 | 0, _, _, _, _, _, _, _, _, _, _, _ => none
 | k + 1, x24, x25, x26, x61, x62, x63, x114000, x114001, x114002, x118000, x118001 => if x63 < x62 then (if 0 ≤ x63 then (if x63 < (x61.length : Int) then ((spec_GoodName.f k ((rd_T72 x61 x63).f0)).bind fun t122 => (if t122 = true then ((spec_l1In.f ((rd_T72 x61 x63).f2) 0 x114001).bind fun t123 => (if t123 = true then (if x63 > 0 then (if 0 ≤ (wrap64 (x63 - 1)) then (if (wrap64 (x63 - 1)) < (x118001.length : Int) then (if ((Op.bytesLess (((rd_T72 x118001 (wrap64 (x63 - 1))).f0).toList) (((rd_T72 x61 x63).f0).toList)) = true) then (spec_GoodWorld.l1 k x24 x25 x26 x61 x62 (wrap64 (x63 + 1)) x114000 x114001 x114002 x118000 x118001) else (some false)) else (none)) else (none)) else (spec_GoodWorld.l1 k x24 x25 x26 x61 x62 (wrap64 (x63 + 1)) x114000 x114001 x114002 x118000 x118001)) else (some false))) else (some false))) else (none)) else (none)) else (spec_GoodWorld.l0 k x24 x25 (wrap64 (x26 + 1)) x114000 x114001 x114002)
end
def spec_GoodWorld.f (k : Nat) (a0_0 : Int) (a0_1 : Int) (l0_2 : List (S69)) : Option (Bool) := (spec_l1In.f a0_0 1 1000000).bind fun t114 => (if t114 = true then ((spec_l1In.f a0_1 0 1000000).bind fun t115 => (if t115 = true then (spec_GoodWorld.j0 k (decide ((l0_2.length : Int) > 60)) a0_0 a0_1 l0_2) else (spec_GoodWorld.j0 k true a0_0 a0_1 l0_2))) else (spec_GoodWorld.j0 k true a0_0 a0_1 l0_2))
theorem spec_GoodWorld.mono_l : ∀ k, (∀ y0 y1 y2 y3, LeO (spec_GoodWorld.j0 k y0 y1 y2 y3) (spec_GoodWorld.j0 (k + 1) y0 y1 y2 y3)) ∧ (∀ y0 y1 y2 y3 y4 y5, LeO (spec_GoodWorld.l0 k y0 y1 y2 y3 y4 y5) (spec_GoodWorld.l0 (k + 1) y0 y1 y2 y3 y4 y5)) ∧ (∀ y0 y1 y2 y3 y4 y5 y6 y7 y8, LeO (spec_GoodWorld.j2 k y0 y1 y2 y3 y4 y5 y6 y7 y8) (spec_GoodWorld.j2 (k + 1) y0 y1 y2 y3 y4 y5 y6 y7 y8)) ∧ (∀ y0 y1 y2 y3 y4 y5 y6 y7 y8 y9 y10, LeO (spec_GoodWorld.l1 k y0 y1 y2 y3 y4 y5 y6 y7 y8 y9 y10) (spec_GoodWorld.l1 (k + 1) y0 y1 y2 y3 y4 y5 y6 y7 y8 y9 y10))
 | 0 => ⟨fun _ _ _ _ r h => by simp [spec_GoodWorld.j0] at h, fun _ _ _ _ _ _ r h => by simp [spec_GoodWorld.l0] at h, fun _ _ _ _ _ _ _ _ _ r h => by simp [spec_GoodWorld.j2] at h, fun _ _ _ _ _ _ _ _ _ _ _ r h => by simp [spec_GoodWorld.l1] at h⟩
 | k + 1 => by
  obtain ⟨ih0, ih1, ih2, ih3⟩ := spec_GoodWorld.mono_l k
  refine ⟨?_, ?_, ?_, ?_⟩
  ·intro y0 y1 y2 y3
   unfold spec_GoodWorld.j0
   repeat' first
   | (with_reducible exact ih0 _ _ _ _)
   | (with_reducible exact ih1 _ _ _ _ _ _)
   | (with_reducible exact ih2 _ _ _ _ _ _ _ _ _)
   | (with_reducible exact ih3 _ _ _ _ _ _ _ _ _ _ _)
   | (with_reducible exact spec_GoodName.mono _ _)
   | (with_reducible exact LeO.refl _)
   | (with_reducible exact LeO.none _)
   | (with_reducible refine LeO.ite ?_ ?_)
   | (with_reducible refine LeO.bind ?_ (fun _ => ?_))
   | exact ih0 _ _ _ _
   | exact ih1 _ _ _ _ _ _
   | exact ih2 _ _ _ _ _ _ _ _ _
   | exact ih3 _ _ _ _ _ _ _ _ _ _ _
   | exact spec_GoodName.mono _ _
   | exact LeO.none _
   | refine LeO.ite ?_ ?_
   | refine LeO.bind ?_ (fun _ => ?_)
  ·intro y0 y1 y2 y3 y4 y5
   unfold spec_GoodWorld.l0
   repeat' first
   | (with_reducible exact ih0 _ _ _ _)
   | (with_reducible exact ih1 _ _ _ _ _ _)
   | (with_reducible exact ih2 _ _ _ _ _ _ _ _ _)
   | (with_reducible exact ih3 _ _ _ _ _ _ _ _ _ _ _)
   | (with_reducible exact spec_GoodName.mono _ _)
   | (with_reducible exact LeO.refl _)
   | (with_reducible exact LeO.none _)
   | (with_reducible refine LeO.ite ?_ ?_)
   | (with_reducible refine LeO.bind ?_ (fun _ => ?_))
   | exact ih0 _ _ _ _
   | exact ih1 _ _ _ _ _ _
   | exact ih2 _ _ _ _ _ _ _ _ _
   | exact ih3 _ _ _ _ _ _ _ _ _ _ _
   | exact spec_GoodName.mono _ _
   | exact LeO.none _
   | refine LeO.ite ?_ ?_
   | refine LeO.bind ?_ (fun _ => ?_)
  ·intro y0 y1 y2 y3 y4 y5 y6 y7 y8
   unfold spec_GoodWorld.j2
   repeat' first
   | (with_reducible exact ih0 _ _ _ _)
   | (with_reducible exact ih1 _ _ _ _ _ _)
   | (with_reducible exact ih2 _ _ _ _ _ _ _ _ _)
   | (with_reducible exact ih3 _ _ _ _ _ _ _ _ _ _ _)
   | (with_reducible exact spec_GoodName.mono _ _)
   | (with_reducible exact LeO.refl _)
   | (with_reducible exact LeO.none _)
   | (with_reducible refine LeO.ite ?_ ?_)
   | (with_reducible refine LeO.bind ?_ (fun _ => ?_))
   | exact ih0 _ _ _ _
   | exact ih1 _ _ _ _ _ _
   | exact ih2 _ _ _ _ _ _ _ _ _
   | exact ih3 _ _ _ _ _ _ _ _ _ _ _
   | exact spec_GoodName.mono _ _
   | exact LeO.none _
   | refine LeO.ite ?_ ?_
   | refine LeO.bind ?_ (fun _ => ?_)
  ·intro y0 y1 y2 y3 y4 y5 y6 y7 y8 y9 y10
   unfold spec_GoodWorld.l1
   repeat' first
   | (with_reducible exact ih0 _ _ _ _)
   | (with_reducible exact ih1 _ _ _ _ _ _)
   | (with_reducible exact ih2 _ _ _ _ _ _ _ _ _)
   | (with_reducible exact ih3 _ _ _ _ _ _ _ _ _ _ _)
   | (with_reducible exact spec_GoodName.mono _ _)
   | (with_reducible exact LeO.refl _)
   | (with_reducible exact LeO.none _)
   | (with_reducible refine LeO.ite ?_ ?_)
   | (with_reducible refine LeO.bind ?_ (fun _ => ?_))
   | exact ih0 _ _ _ _
   | exact ih1 _ _ _ _ _ _
   | exact ih2 _ _ _ _ _ _ _ _ _
   | exact ih3 _ _ _ _ _ _ _ _ _ _ _
   | exact spec_GoodName.mono _ _
   | exact LeO.none _
   | refine LeO.ite ?_ ?_
   | refine LeO.bind ?_ (fun _ => ?_)
theorem spec_GoodWorld.mono : ∀ a0 a1 a2 k, LeO (spec_GoodWorld.f k a0 a1 a2) (spec_GoodWorld.f (k + 1) a0 a1 a2) := by
 intro a0 a1 a2 k
 obtain ⟨ih0, ih1, ih2, ih3⟩ := spec_GoodWorld.mono_l k
 unfold spec_GoodWorld.f
 repeat' first
   | (with_reducible exact ih0 _ _ _ _)
   | (with_reducible exact ih1 _ _ _ _ _ _)
   | (with_reducible exact ih2 _ _ _ _ _ _ _ _ _)
   | (with_reducible exact ih3 _ _ _ _ _ _ _ _ _ _ _)
   | (with_reducible exact spec_GoodName.mono _ _)
   | (with_reducible exact LeO.refl _)
   | (with_reducible exact LeO.none _)
   | (with_reducible refine LeO.ite ?_ ?_)
   | (with_reducible refine LeO.bind ?_ (fun _ => ?_))
   | exact ih0 _ _ _ _
   | exact ih1 _ _ _ _ _ _
   | exact ih2 _ _ _ _ _ _ _ _ _
   | exact ih3 _ _ _ _ _ _ _ _ _ _ _
   | exact spec_GoodName.mono _ _
   | exact LeO.none _
   | refine LeO.ite ?_ ?_
   | refine LeO.bind ?_ (fun _ => ?_)
set_option maxHeartbeats 8000000 in
set_option maxRecDepth 100000 in
theorem spec_GoodWorld.calls (k : Nat) (a0_0 : Int) (a0_1 : Int) (A0_2 : Option Addr) (c0_2 : Nat) (l0_2 : List (S69)) (r : Bool) (w : World) (hr0_2 : Kd.C k69 w A0_2 l0_2.length l0_2) (hc0_2 : l0_2.length ≤ c0_2) (h : spec_GoodWorld.f k a0_0 a0_1 l0_2 = some r) :
  Calls Try.prog 38 #[.agg #[.int .i64 a0_0, .int .i64 a0_1, .slice A0_2 l0_2.length c0_2]] w fun e w' => e = .returned (.bool r) ∧ Below w.heap.size w w' := by
 have hu31 := Try.underlying31
 have hu69 := Try.underlying69
 have hu72 := Try.underlying72
 have HR0_2 := Aside0.mk hr0_2
 have HC0_2 := Aside0.mk hc0_2
 clear hr0_2 hc0_2
 have HB := Aside0.mk (Below.refl w.heap.size w)
 have H : ((spec_l1In.f a0_0 1 1000000).bind fun t114 => (if t114 = true then ((spec_l1In.f a0_1 0 1000000).bind fun t115 => (if t115 = true then (spec_GoodWorld.j0 k (decide ((l0_2.length : Int) > 60)) a0_0 a0_1 l0_2) else (spec_GoodWorld.j0 k true a0_0 a0_1 l0_2))) else (spec_GoodWorld.j0 k true a0_0 a0_1 l0_2))) = some r := h
 clear h
 have HC2 := Aside0.mk H
 clear H
 go_enter Try.func38, Try.ntmps38
 go_upto_region 1 with (first | ((with_reducible refine gate_dst (N := 1) rfl ?_); (try (refine gate_guard (by rfl) ?_; dsimp only)); refine box_event ?hg (N := 1) ?hd (cs := #[.int .i64 a0_0, .int .i64 a0_1, .slice A0_2 l0_2.length c0_2]) (t := 31) ?hr ?_; (case hd => rfl); (case hg => rfl); (case hr => first | (go_simp; done) | (go_simp; rfl)); intro gb113 hg w3 hbox hb; have n0_ := Aside0.mk (below_step blw hb); have n1_ := Aside0.mk (hbox); have n2_ := Aside0.mk ((by rw [hg]; exact (below_size blw) : w.heap.size ≤ gb113)); have n3_ := Aside0.mk ((by rw [hg]; exact (below_size blw) : w.heap.size ≤ gb113)); clear HB; have HB := n0_; have BK113 := n1_; have GW113 := n2_; have GE113 := n3_; clear n0_ n1_ n2_ n3_; clear hb hbox hg))
 repeat (go_quiet (first | ((with_reducible refine gate_dst (N := 1) rfl ?_); (try (refine gate_guard (by rfl) ?_; dsimp only)); refine box_event ?hg (N := 1) ?hd (cs := #[.int .i64 a0_0, .int .i64 a0_1, .slice A0_2 l0_2.length c0_2]) (t := 31) ?hr ?_; (case hd => rfl); (case hg => rfl); (case hr => first | (go_simp; done) | (go_simp; rfl)); intro gb113 hg w3 hbox hb; have n0_ := Aside0.mk (below_step blw hb); have n1_ := Aside0.mk (hbox); have n2_ := Aside0.mk ((by rw [hg]; exact (below_size blw) : w.heap.size ≤ gb113)); have n3_ := Aside0.mk ((by rw [hg]; exact (below_size blw) : w.heap.size ≤ gb113)); clear HB; have HB := n0_; have BK113 := n1_; have GW113 := n2_; have GE113 := n3_; clear n0_ n1_ n2_ n3_; clear hb hbox hg)); go_upto_region 1 with (first | ((with_reducible refine gate_dst (N := 1) rfl ?_); (try (refine gate_guard (by rfl) ?_; dsimp only)); refine box_event ?hg (N := 1) ?hd (cs := #[.int .i64 a0_0, .int .i64 a0_1, .slice A0_2 l0_2.length c0_2]) (t := 31) ?hr ?_; (case hd => rfl); (case hg => rfl); (case hr => first | (go_simp; done) | (go_simp; rfl)); intro gb113 hg w3 hbox hb; have n0_ := Aside0.mk (below_step blw hb); have n1_ := Aside0.mk (hbox); have n2_ := Aside0.mk ((by rw [hg]; exact (below_size blw) : w.heap.size ≤ gb113)); have n3_ := Aside0.mk ((by rw [hg]; exact (below_size blw) : w.heap.size ≤ gb113)); clear HB; have HB := n0_; have BK113 := n1_; have GW113 := n2_; have GE113 := n3_; clear n0_ n1_ n2_ n3_; clear hb hbox hg)))
 (try simp only [Act.put, List.setIfInBounds_toArray, List.set_cons_zero, List.set_cons_succ])
 go_cut [22] (fun v22 wc => ∃ (kq : Nat) (x22_1 : Bool), v22 = .bool x22_1 ∧ Aside0 (spec_GoodWorld.j0 kq x22_1 a0_0 a0_1 l0_2 = some r) ∧ Aside0 (kq ≤ k) ∧ Aside0 (wc.heap[gb113]? = some (.cells #[.int .i64 a0_0, .int .i64 a0_1, (.slice A0_2 l0_2.length c0_2)] 31 (0, 0))) ∧ Aside0 (Below w.heap.size w wc))
 case first =>
  have H := HC2.out
  clear HC2
  replace H := Option.bind_eq_some_iff.mp H
  obtain ⟨t114, A40, H⟩ := H
  replace H : (if t114 = true then ((spec_l1In.f a0_1 0 1000000).bind fun t115 => (if t115 = true then (spec_GoodWorld.j0 k (decide ((l0_2.length : Int) > 60)) a0_0 a0_1 l0_2) else (spec_GoodWorld.j0 k true a0_0 a0_1 l0_2))) else (spec_GoodWorld.j0 k true a0_0 a0_1 l0_2)) = some r := H
  have A4 := Aside0.mk A40
  clear A40
  by_cases c5 : t114 = true
  ·subst c5
   have H1 : ((spec_l1In.f a0_1 0 1000000).bind fun t115 => (if t115 = true then (spec_GoodWorld.j0 k (decide ((l0_2.length : Int) > 60)) a0_0 a0_1 l0_2) else (spec_GoodWorld.j0 k true a0_0 a0_1 l0_2))) = some r := by rw [if_pos rfl] at H; exact H
   clear H
   have H := H1
   clear H1
   replace H := Option.bind_eq_some_iff.mp H
   obtain ⟨t115, A60, H⟩ := H
   replace H : (if t115 = true then (spec_GoodWorld.j0 k (decide ((l0_2.length : Int) > 60)) a0_0 a0_1 l0_2) else (spec_GoodWorld.j0 k true a0_0 a0_1 l0_2)) = some r := H
   have A6 := Aside0.mk A60
   clear A60
   by_cases c7 : t115 = true
   ·subst c7
    have H1 : (spec_GoodWorld.j0 k (decide ((l0_2.length : Int) > 60)) a0_0 a0_1 l0_2) = some r := by rw [if_pos rfl] at H; exact H
    clear H
    have H := H1
    clear H1
    have H' := Aside0.mk H
    clear H
    have hcz8_0 : w3.cell? ⟨gb113, 0, none⟩ = some (.int .i64 a0_0) := (blk_cell BK113.out 0).trans rfl
    have hcz8_1 : w3.cell? ⟨gb113, 1, none⟩ = some (.int .i64 a0_1) := (blk_cell BK113.out 1).trans rfl
    have hcz8_2 : w3.cell? ⟨gb113, 2, none⟩ = some (.slice A0_2 l0_2.length c0_2) := (blk_cell BK113.out 2).trans rfl
    have hfz8_0 := blk_frozen BK113.out 0
    have hfz8_1 := blk_frozen BK113.out 1
    have hfz8_2 := blk_frozen BK113.out 2
    go_wp2_with (first | (go_at_call 55; (with_reducible refine (spec_l1In.calls a0_0 1 1000000 true _ A4.out).mono ?_); rintro e w' ⟨rfl, ⟨nd, rfl⟩⟩; (try first | exact ⟨rfl, _, World.drewN_drewN _ _ _⟩ | exact ⟨rfl, _, Eq.trans (World.drewN_drewN _ _ _) (congrArg (World.drewN _) (Nat.add_assoc _ _ _))⟩)) | (go_at_call 55; (with_reducible refine (spec_l1In.calls a0_1 0 1000000 true _ A6.out).mono ?_); rintro e w' ⟨rfl, ⟨nd, rfl⟩⟩; (try first | exact ⟨rfl, _, World.drewN_drewN _ _ _⟩ | exact ⟨rfl, _, Eq.trans (World.drewN_drewN _ _ _) (congrArg (World.drewN _) (Nat.add_assoc _ _ _))⟩)))
    repeat (go_quiet (first | (go_at_call 55; (with_reducible refine (spec_l1In.calls a0_0 1 1000000 true _ A4.out).mono ?_); rintro e w' ⟨rfl, ⟨nd, rfl⟩⟩; (try first | exact ⟨rfl, _, World.drewN_drewN _ _ _⟩ | exact ⟨rfl, _, Eq.trans (World.drewN_drewN _ _ _) (congrArg (World.drewN _) (Nat.add_assoc _ _ _))⟩)) | (go_at_call 55; (with_reducible refine (spec_l1In.calls a0_1 0 1000000 true _ A6.out).mono ?_); rintro e w' ⟨rfl, ⟨nd, rfl⟩⟩; (try first | exact ⟨rfl, _, World.drewN_drewN _ _ _⟩ | exact ⟨rfl, _, Eq.trans (World.drewN_drewN _ _ _) (congrArg (World.drewN _) (Nat.add_assoc _ _ _))⟩))); try go_wp2_with (first | (go_at_call 55; (with_reducible refine (spec_l1In.calls a0_0 1 1000000 true _ A4.out).mono ?_); rintro e w' ⟨rfl, ⟨nd, rfl⟩⟩; (try first | exact ⟨rfl, _, World.drewN_drewN _ _ _⟩ | exact ⟨rfl, _, Eq.trans (World.drewN_drewN _ _ _) (congrArg (World.drewN _) (Nat.add_assoc _ _ _))⟩)) | (go_at_call 55; (with_reducible refine (spec_l1In.calls a0_1 0 1000000 true _ A6.out).mono ?_); rintro e w' ⟨rfl, ⟨nd, rfl⟩⟩; (try first | exact ⟨rfl, _, World.drewN_drewN _ _ _⟩ | exact ⟨rfl, _, Eq.trans (World.drewN_drewN _ _ _) (congrArg (World.drewN _) (Nat.add_assoc _ _ _))⟩))))
    go_meet
    case rel => exact ⟨_, (decide ((l0_2.length : Int) > 60)), (by first | rfl | (simp; done) | (simp [*]; done)), H', ⟨by first | omega | exact Nat.le_refl _⟩, ⟨by (with_reducible repeat (first | refine blk_drewN ?_ _ | refine blk_drew ?_ | refine blk_alloc ?_ _)); exact BK113.out⟩, ⟨blw⟩⟩
   ·replace c7 := Bool.eq_false_iff.mpr c7
    subst c7
    have H1 : (spec_GoodWorld.j0 k true a0_0 a0_1 l0_2) = some r := by rw [if_neg (show ¬ (false = true) by decide)] at H; exact H
    clear H
    have H := H1
    clear H1
    have H' := Aside0.mk H
    clear H
    have hcz9_0 : w3.cell? ⟨gb113, 0, none⟩ = some (.int .i64 a0_0) := (blk_cell BK113.out 0).trans rfl
    have hcz9_1 : w3.cell? ⟨gb113, 1, none⟩ = some (.int .i64 a0_1) := (blk_cell BK113.out 1).trans rfl
    have hcz9_2 : w3.cell? ⟨gb113, 2, none⟩ = some (.slice A0_2 l0_2.length c0_2) := (blk_cell BK113.out 2).trans rfl
    have hfz9_0 := blk_frozen BK113.out 0
    have hfz9_1 := blk_frozen BK113.out 1
    have hfz9_2 := blk_frozen BK113.out 2
    go_wp2_with (first | (go_at_call 55; (with_reducible refine (spec_l1In.calls a0_0 1 1000000 true _ A4.out).mono ?_); rintro e w' ⟨rfl, ⟨nd, rfl⟩⟩; (try first | exact ⟨rfl, _, World.drewN_drewN _ _ _⟩ | exact ⟨rfl, _, Eq.trans (World.drewN_drewN _ _ _) (congrArg (World.drewN _) (Nat.add_assoc _ _ _))⟩)) | (go_at_call 55; (with_reducible refine (spec_l1In.calls a0_1 0 1000000 false _ A6.out).mono ?_); rintro e w' ⟨rfl, ⟨nd, rfl⟩⟩; (try first | exact ⟨rfl, _, World.drewN_drewN _ _ _⟩ | exact ⟨rfl, _, Eq.trans (World.drewN_drewN _ _ _) (congrArg (World.drewN _) (Nat.add_assoc _ _ _))⟩)))
    repeat (go_quiet (first | (go_at_call 55; (with_reducible refine (spec_l1In.calls a0_0 1 1000000 true _ A4.out).mono ?_); rintro e w' ⟨rfl, ⟨nd, rfl⟩⟩; (try first | exact ⟨rfl, _, World.drewN_drewN _ _ _⟩ | exact ⟨rfl, _, Eq.trans (World.drewN_drewN _ _ _) (congrArg (World.drewN _) (Nat.add_assoc _ _ _))⟩)) | (go_at_call 55; (with_reducible refine (spec_l1In.calls a0_1 0 1000000 false _ A6.out).mono ?_); rintro e w' ⟨rfl, ⟨nd, rfl⟩⟩; (try first | exact ⟨rfl, _, World.drewN_drewN _ _ _⟩ | exact ⟨rfl, _, Eq.trans (World.drewN_drewN _ _ _) (congrArg (World.drewN _) (Nat.add_assoc _ _ _))⟩))); try go_wp2_with (first | (go_at_call 55; (with_reducible refine (spec_l1In.calls a0_0 1 1000000 true _ A4.out).mono ?_); rintro e w' ⟨rfl, ⟨nd, rfl⟩⟩; (try first | exact ⟨rfl, _, World.drewN_drewN _ _ _⟩ | exact ⟨rfl, _, Eq.trans (World.drewN_drewN _ _ _) (congrArg (World.drewN _) (Nat.add_assoc _ _ _))⟩)) | (go_at_call 55; (with_reducible refine (spec_l1In.calls a0_1 0 1000000 false _ A6.out).mono ?_); rintro e w' ⟨rfl, ⟨nd, rfl⟩⟩; (try first | exact ⟨rfl, _, World.drewN_drewN _ _ _⟩ | exact ⟨rfl, _, Eq.trans (World.drewN_drewN _ _ _) (congrArg (World.drewN _) (Nat.add_assoc _ _ _))⟩))))
    go_meet
    case rel => exact ⟨_, (true), (by first | rfl | (simp; done) | (simp [*]; done)), H', ⟨by first | omega | exact Nat.le_refl _⟩, ⟨by (with_reducible repeat (first | refine blk_drewN ?_ _ | refine blk_drew ?_ | refine blk_alloc ?_ _)); exact BK113.out⟩, ⟨blw⟩⟩
  ·replace c5 := Bool.eq_false_iff.mpr c5
   subst c5
   have H1 : (spec_GoodWorld.j0 k true a0_0 a0_1 l0_2) = some r := by rw [if_neg (show ¬ (false = true) by decide)] at H; exact H
   clear H
   have H := H1
   clear H1
   have H' := Aside0.mk H
   clear H
   have hcz10_0 : w3.cell? ⟨gb113, 0, none⟩ = some (.int .i64 a0_0) := (blk_cell BK113.out 0).trans rfl
   have hcz10_1 : w3.cell? ⟨gb113, 1, none⟩ = some (.int .i64 a0_1) := (blk_cell BK113.out 1).trans rfl
   have hcz10_2 : w3.cell? ⟨gb113, 2, none⟩ = some (.slice A0_2 l0_2.length c0_2) := (blk_cell BK113.out 2).trans rfl
   have hfz10_0 := blk_frozen BK113.out 0
   have hfz10_1 := blk_frozen BK113.out 1
   have hfz10_2 := blk_frozen BK113.out 2
   go_wp2_with (first | (go_at_call 55; (with_reducible refine (spec_l1In.calls a0_0 1 1000000 false _ A4.out).mono ?_); rintro e w' ⟨rfl, ⟨nd, rfl⟩⟩; (try first | exact ⟨rfl, _, World.drewN_drewN _ _ _⟩ | exact ⟨rfl, _, Eq.trans (World.drewN_drewN _ _ _) (congrArg (World.drewN _) (Nat.add_assoc _ _ _))⟩)))
   repeat (go_quiet (first | (go_at_call 55; (with_reducible refine (spec_l1In.calls a0_0 1 1000000 false _ A4.out).mono ?_); rintro e w' ⟨rfl, ⟨nd, rfl⟩⟩; (try first | exact ⟨rfl, _, World.drewN_drewN _ _ _⟩ | exact ⟨rfl, _, Eq.trans (World.drewN_drewN _ _ _) (congrArg (World.drewN _) (Nat.add_assoc _ _ _))⟩))); try go_wp2_with (first | (go_at_call 55; (with_reducible refine (spec_l1In.calls a0_0 1 1000000 false _ A4.out).mono ?_); rintro e w' ⟨rfl, ⟨nd, rfl⟩⟩; (try first | exact ⟨rfl, _, World.drewN_drewN _ _ _⟩ | exact ⟨rfl, _, Eq.trans (World.drewN_drewN _ _ _) (congrArg (World.drewN _) (Nat.add_assoc _ _ _))⟩))))
   go_meet
   case rel => exact ⟨_, (true), (by first | rfl | (simp; done) | (simp [*]; done)), H', ⟨by first | omega | exact Nat.le_refl _⟩, ⟨by (with_reducible repeat (first | refine blk_drewN ?_ _ | refine blk_drew ?_ | refine blk_alloc ?_ _)); exact BK113.out⟩, ⟨blw⟩⟩
 case rest =>
  clear HC2
  try clear p2
  try clear c3
  try clear c5
  try clear c7
  try clear hcz10_0
  try clear hcz10_1
  try clear hcz10_2
  try clear hcz8_0
  try clear hcz8_1
  try clear hcz8_2
  try clear hcz9_0
  try clear hcz9_1
  try clear hcz9_2
  try clear hfz10_0
  try clear hfz10_1
  try clear hfz10_2
  try clear hfz8_0
  try clear hfz8_1
  try clear hfz8_2
  try clear hfz9_0
  try clear hfz9_1
  try clear hfz9_2
  obtain ⟨kq, x22_1, rfl, HA, HJ1, BK113, HB⟩ := hcut
  cases kq with
  | zero => exact absurd HA.out (by simp [spec_GoodWorld.j0])
  | succ kj1 =>
   have H := HA.out
   clear HA
   simp only [spec_GoodWorld.j0] at H
   by_cases c11 : x22_1 = true
   ·subst c11
    have H1 : (some false) = some r := by rw [if_pos rfl] at H; exact H
    clear H
    have H := H1
    clear H1
    obtain rfl := Option.some.inj H
    go_wp2
    repeat (go_quiet (fail); try go_wp2)
    go_ret
    exact ⟨by first | rfl | (simp [errW_none, errW_some] <;> rfl) | (simp [*, errW_none, errW_some] <;> rfl), blw⟩
   ·replace c11 := Bool.eq_false_iff.mpr c11
    subst c11
    have H1 : (spec_GoodWorld.l0 kj1 l0_2 (l0_2.length : Int) 0 a0_0 a0_1 l0_2) = some r := by rw [if_neg (show ¬ (false = true) by decide)] at H; exact H
    clear H
    have H := H1
    clear H1
    have H' := Aside0.mk H
    clear H
    have hcz12_0 : wc.cell? ⟨gb113, 0, none⟩ = some (.int .i64 a0_0) := (blk_cell BK113.out 0).trans rfl
    have hcz12_1 : wc.cell? ⟨gb113, 1, none⟩ = some (.int .i64 a0_1) := (blk_cell BK113.out 1).trans rfl
    have hcz12_2 : wc.cell? ⟨gb113, 2, none⟩ = some (.slice A0_2 l0_2.length c0_2) := (blk_cell BK113.out 2).trans rfl
    have hfz12_0 := blk_frozen BK113.out 0
    have hfz12_1 := blk_frozen BK113.out 1
    have hfz12_2 := blk_frozen BK113.out 2
    go_wp2
    repeat (go_quiet (fail); try go_wp2)
    go_loopg [26] kj1 (fun kq v26 w' => ∃ (x26_2 : Int), v26 = .int .i64 x26_2 ∧ Aside0 (spec_GoodWorld.l0 kq l0_2 (l0_2.length : Int) x26_2 a0_0 a0_1 l0_2 = some r) ∧ Aside0 (kq ≤ kj1) ∧ Aside0 (w'.heap[gb113]? = some (.cells #[.int .i64 a0_0, .int .i64 a0_1, (.slice A0_2 l0_2.length c0_2)] 31 (0, 0))) ∧ Aside0 (Below w.heap.size w w'))
    case atStart => exact ⟨(0), (by first | rfl | (simp; done) | (simp [*]; done)), H', ⟨Nat.le_refl _⟩, ⟨by (with_reducible repeat (first | refine blk_drewN ?_ _ | refine blk_drew ?_ | refine blk_alloc ?_ _)); exact BK113.out⟩, ⟨blw⟩⟩
    case round =>
     clear H'
     try clear c1
     try clear p2
     try clear c3
     try clear c5
     try clear c7
     try clear c11
     try clear hcz10_0
     try clear hcz10_1
     try clear hcz10_2
     try clear hcz12_0
     try clear hcz12_1
     try clear hcz12_2
     try clear hcz8_0
     try clear hcz8_1
     try clear hcz8_2
     try clear hcz9_0
     try clear hcz9_1
     try clear hcz9_2
     try clear hfz10_0
     try clear hfz10_1
     try clear hfz10_2
     try clear hfz12_0
     try clear hfz12_1
     try clear hfz12_2
     try clear hfz8_0
     try clear hfz8_1
     try clear hfz8_2
     try clear hfz9_0
     try clear hfz9_1
     try clear hfz9_2
     try clear p2
     obtain ⟨x26_2, rfl, HA, HK2, BK113, HB⟩ := hrel
     cases gk with
     | zero => exact absurd HA.out (by simp [spec_GoodWorld.l0])
     | succ k2 =>
      have H := HA.out
      clear HA
      simp only [spec_GoodWorld.l0] at H
      by_cases c13 : x26_2 < (l0_2.length : Int)
      ·rw [if_pos c13] at H
       have c13b0 : decide (x26_2 < (l0_2.length : Int)) = true := decide_eq_true c13
       clear c13
       by_cases c14 : 0 ≤ x26_2
       ·rw [if_pos c14] at H
        have c14b0 : decide (0 ≤ x26_2) = true := decide_eq_true c14
        clear c14
        by_cases c15 : x26_2 < (l0_2.length : Int)
        ·rw [if_pos c15] at H
         have c15b0 : decide (x26_2 < (l0_2.length : Int)) = true := decide_eq_true c15
         clear c15
         have HC16 := Aside0.mk H
         clear H
         have p116 : 0 ≤ (x26_2 : Int) := odt
         have q116 : x26_2 < (l0_2.length : Int) := odt
         obtain ⟨ad116, A116_1, c116_1, e116, hx116_0, hx116_1, hl116_1, hi116_1⟩ := at_T69 HR0_2.out x26_2 p116 q116
         cases e116
         replace hx116_0 := (HB.out.cell (World.block_lt_of_cell? w _ hx116_0)).trans hx116_0
         replace hx116_1 := (HB.out.cell (World.block_lt_of_cell? w _ hx116_1)).trans hx116_1
         have HR116_1 := Aside0.mk hi116_1
         have HC116_1 := Aside0.mk hl116_1
         clear hi116_1 hl116_1
         replace p116 := eq_true p116
         replace q116 := eq_true q116
         go_upto_region 6 with (first | ((with_reducible refine gate_dst (N := 4) rfl ?_); (try (refine gate_guard (by rfl) ?_; dsimp only)); refine box_event ?hg (N := 4) ?hd (cs := #[.int .i64 0, .slice none 0 0]) (t := 69) ?hr ?_; (case hd => rfl); (case hg => rfl); (case hr => first | (go_simp; done) | (go_simp; rfl)); intro gb117 hg w17 hbox hb; have n0_ := Aside0.mk (blk_below (g := gb113) (o := .cells #[.int .i64 a0_0, .int .i64 a0_1, .slice (some ad116) l0_2.length c0_2] 31 (0, 0)) bkw hb); have n1_ := Aside0.mk (below_step blw hb); have n2_ := Aside0.mk (hbox); have n3_ := Aside0.mk ((by rw [hg]; exact (below_size blw) : w.heap.size ≤ gb117)); have n4_ := Aside0.mk ((by rw [hg]; exact (below_size blw) : w.heap.size ≤ gb117)); have n5_ := Aside0.mk ((by rw [hg]; exact Nat.ne_of_lt (blk_lt (g := gb113) (o := .cells #[.int .i64 a0_0, .int .i64 a0_1, .slice (some ad116) l0_2.length c0_2] 31 (0, 0)) bkw) : gb113 ≠ gb117)); have n6_ := Aside0.mk ((by rw [hg]; exact Nat.ne_of_gt (blk_lt (g := gb113) (o := .cells #[.int .i64 a0_0, .int .i64 a0_1, .slice (some ad116) l0_2.length c0_2] 31 (0, 0)) bkw) : gb117 ≠ gb113)); clear BK113; clear HB; have BK113 := n0_; have HB := n1_; have BK117 := n2_; have GW117 := n3_; have GE117 := n4_; have NB113_117 := n5_; have NB117_113 := n6_; clear n0_ n1_ n2_ n3_ n4_ n5_ n6_; clear hb hbox hg; have hnb18 := NB117_113.out; have hnc18 := NB113_117.out; have hcz19_0 : w17.cell? ⟨gb117, 0, none⟩ = some (.int .i64 0) := (blk_cell BK117.out 0).trans rfl; have hcz19_1 : w17.cell? ⟨gb117, 1, none⟩ = some (.slice none 0 0) := (blk_cell BK117.out 1).trans rfl; have hfz19_0 := blk_frozen BK117.out 0; have hfz19_1 := blk_frozen BK117.out 1))
         repeat (go_quiet (first | ((with_reducible refine gate_dst (N := 4) rfl ?_); (try (refine gate_guard (by rfl) ?_; dsimp only)); refine box_event ?hg (N := 4) ?hd (cs := #[.int .i64 0, .slice none 0 0]) (t := 69) ?hr ?_; (case hd => rfl); (case hg => rfl); (case hr => first | (go_simp; done) | (go_simp; rfl)); intro gb117 hg w17 hbox hb; have n0_ := Aside0.mk (blk_below (g := gb113) (o := .cells #[.int .i64 a0_0, .int .i64 a0_1, .slice (some ad116) l0_2.length c0_2] 31 (0, 0)) bkw hb); have n1_ := Aside0.mk (below_step blw hb); have n2_ := Aside0.mk (hbox); have n3_ := Aside0.mk ((by rw [hg]; exact (below_size blw) : w.heap.size ≤ gb117)); have n4_ := Aside0.mk ((by rw [hg]; exact (below_size blw) : w.heap.size ≤ gb117)); have n5_ := Aside0.mk ((by rw [hg]; exact Nat.ne_of_lt (blk_lt (g := gb113) (o := .cells #[.int .i64 a0_0, .int .i64 a0_1, .slice (some ad116) l0_2.length c0_2] 31 (0, 0)) bkw) : gb113 ≠ gb117)); have n6_ := Aside0.mk ((by rw [hg]; exact Nat.ne_of_gt (blk_lt (g := gb113) (o := .cells #[.int .i64 a0_0, .int .i64 a0_1, .slice (some ad116) l0_2.length c0_2] 31 (0, 0)) bkw) : gb117 ≠ gb113)); clear BK113; clear HB; have BK113 := n0_; have HB := n1_; have BK117 := n2_; have GW117 := n3_; have GE117 := n4_; have NB113_117 := n5_; have NB117_113 := n6_; clear n0_ n1_ n2_ n3_ n4_ n5_ n6_; clear hb hbox hg; have hnb18 := NB117_113.out; have hnc18 := NB113_117.out; have hcz19_0 : w17.cell? ⟨gb117, 0, none⟩ = some (.int .i64 0) := (blk_cell BK117.out 0).trans rfl; have hcz19_1 : w17.cell? ⟨gb117, 1, none⟩ = some (.slice none 0 0) := (blk_cell BK117.out 1).trans rfl; have hfz19_0 := blk_frozen BK117.out 0; have hfz19_1 := blk_frozen BK117.out 1)); go_upto_region 6 with (first | ((with_reducible refine gate_dst (N := 4) rfl ?_); (try (refine gate_guard (by rfl) ?_; dsimp only)); refine box_event ?hg (N := 4) ?hd (cs := #[.int .i64 0, .slice none 0 0]) (t := 69) ?hr ?_; (case hd => rfl); (case hg => rfl); (case hr => first | (go_simp; done) | (go_simp; rfl)); intro gb117 hg w17 hbox hb; have n0_ := Aside0.mk (blk_below (g := gb113) (o := .cells #[.int .i64 a0_0, .int .i64 a0_1, .slice (some ad116) l0_2.length c0_2] 31 (0, 0)) bkw hb); have n1_ := Aside0.mk (below_step blw hb); have n2_ := Aside0.mk (hbox); have n3_ := Aside0.mk ((by rw [hg]; exact (below_size blw) : w.heap.size ≤ gb117)); have n4_ := Aside0.mk ((by rw [hg]; exact (below_size blw) : w.heap.size ≤ gb117)); have n5_ := Aside0.mk ((by rw [hg]; exact Nat.ne_of_lt (blk_lt (g := gb113) (o := .cells #[.int .i64 a0_0, .int .i64 a0_1, .slice (some ad116) l0_2.length c0_2] 31 (0, 0)) bkw) : gb113 ≠ gb117)); have n6_ := Aside0.mk ((by rw [hg]; exact Nat.ne_of_gt (blk_lt (g := gb113) (o := .cells #[.int .i64 a0_0, .int .i64 a0_1, .slice (some ad116) l0_2.length c0_2] 31 (0, 0)) bkw) : gb117 ≠ gb113)); clear BK113; clear HB; have BK113 := n0_; have HB := n1_; have BK117 := n2_; have GW117 := n3_; have GE117 := n4_; have NB113_117 := n5_; have NB117_113 := n6_; clear n0_ n1_ n2_ n3_ n4_ n5_ n6_; clear hb hbox hg; have hnb18 := NB117_113.out; have hnc18 := NB113_117.out; have hcz19_0 : w17.cell? ⟨gb117, 0, none⟩ = some (.int .i64 0) := (blk_cell BK117.out 0).trans rfl; have hcz19_1 : w17.cell? ⟨gb117, 1, none⟩ = some (.slice none 0 0) := (blk_cell BK117.out 1).trans rfl; have hfz19_0 := blk_frozen BK117.out 0; have hfz19_1 := blk_frozen BK117.out 1)))
         (try simp only [Act.put, List.setIfInBounds_toArray, List.set_cons_zero, List.set_cons_succ])
         go_cut [59] (fun v59 wc => ∃ (kq : Nat) (x59_15 : Bool), v59 = .bool x59_15 ∧ Aside0 (spec_GoodWorld.j2 kq l0_2 (l0_2.length : Int) x26_2 x59_15 a0_0 a0_1 l0_2 ((rd_T69 l0_2 x26_2).f0) ((rd_T69 l0_2 x26_2).f1) = some r) ∧ Aside0 (kq ≤ k2) ∧ Aside0 (wc.heap[gb113]? = some (.cells #[.int .i64 a0_0, .int .i64 a0_1, (.slice (some ad116) l0_2.length c0_2)] 31 (0, 0))) ∧ Aside0 (wc.heap[gb117]? = some (.cells #[.int .i64 ((rd_T69 l0_2 x26_2).f0), (.slice A116_1 ((rd_T69 l0_2 x26_2).f1).length c116_1)] 69 (0, 0))) ∧ Aside0 (Below w.heap.size w wc))
         case first =>
          have H := HC16.out
          clear HC16
          replace H := Option.bind_eq_some_iff.mp H
          obtain ⟨t118, A200, H⟩ := H
          replace H : (if t118 = true then (if x26_2 > 0 then (if 0 ≤ (wrap64 (x26_2 - 1)) then (if (wrap64 (x26_2 - 1)) < (l0_2.length : Int) then (if ((rd_T69 l0_2 (wrap64 (x26_2 - 1))).f0) ≥ ((rd_T69 l0_2 x26_2).f0) then (spec_GoodWorld.j2 k2 l0_2 (l0_2.length : Int) x26_2 true a0_0 a0_1 l0_2 ((rd_T69 l0_2 x26_2).f0) ((rd_T69 l0_2 x26_2).f1)) else (spec_GoodWorld.j2 k2 l0_2 (l0_2.length : Int) x26_2 (decide ((((rd_T69 l0_2 x26_2).f1).length : Int) > 12)) a0_0 a0_1 l0_2 ((rd_T69 l0_2 x26_2).f0) ((rd_T69 l0_2 x26_2).f1))) else (none)) else (none)) else (spec_GoodWorld.j2 k2 l0_2 (l0_2.length : Int) x26_2 (decide ((((rd_T69 l0_2 x26_2).f1).length : Int) > 12)) a0_0 a0_1 l0_2 ((rd_T69 l0_2 x26_2).f0) ((rd_T69 l0_2 x26_2).f1))) else (spec_GoodWorld.j2 k2 l0_2 (l0_2.length : Int) x26_2 true a0_0 a0_1 l0_2 ((rd_T69 l0_2 x26_2).f0) ((rd_T69 l0_2 x26_2).f1))) = some r := H
          have A20 := Aside0.mk A200
          clear A200
          by_cases c21 : t118 = true
          ·subst c21
           have H1 : (if x26_2 > 0 then (if 0 ≤ (wrap64 (x26_2 - 1)) then (if (wrap64 (x26_2 - 1)) < (l0_2.length : Int) then (if ((rd_T69 l0_2 (wrap64 (x26_2 - 1))).f0) ≥ ((rd_T69 l0_2 x26_2).f0) then (spec_GoodWorld.j2 k2 l0_2 (l0_2.length : Int) x26_2 true a0_0 a0_1 l0_2 ((rd_T69 l0_2 x26_2).f0) ((rd_T69 l0_2 x26_2).f1)) else (spec_GoodWorld.j2 k2 l0_2 (l0_2.length : Int) x26_2 (decide ((((rd_T69 l0_2 x26_2).f1).length : Int) > 12)) a0_0 a0_1 l0_2 ((rd_T69 l0_2 x26_2).f0) ((rd_T69 l0_2 x26_2).f1))) else (none)) else (none)) else (spec_GoodWorld.j2 k2 l0_2 (l0_2.length : Int) x26_2 (decide ((((rd_T69 l0_2 x26_2).f1).length : Int) > 12)) a0_0 a0_1 l0_2 ((rd_T69 l0_2 x26_2).f0) ((rd_T69 l0_2 x26_2).f1))) = some r := by rw [if_pos rfl] at H; exact H
           clear H
           have H := H1
           clear H1
           by_cases c22 : x26_2 > 0
           ·rw [if_pos c22] at H
            have c22b0 : decide (0 < x26_2) = true := decide_eq_true c22
            clear c22
            (first | rw [c22b0] | (simp only [i64_w, i32_w]; rw [c22b0]) | skip)
            obtain ⟨ji23, hji23⟩ : ∃ j_ : Int, (wrap64 (x26_2 - 1)) = j_ := ⟨_, rfl⟩
            replace H : (if 0 ≤ (ji23) then (if (ji23) < (l0_2.length : Int) then (if ((rd_T69 l0_2 (ji23)).f0) ≥ ((rd_T69 l0_2 x26_2).f0) then (spec_GoodWorld.j2 k2 l0_2 (l0_2.length : Int) x26_2 true a0_0 a0_1 l0_2 ((rd_T69 l0_2 x26_2).f0) ((rd_T69 l0_2 x26_2).f1)) else (spec_GoodWorld.j2 k2 l0_2 (l0_2.length : Int) x26_2 (decide ((((rd_T69 l0_2 x26_2).f1).length : Int) > 12)) a0_0 a0_1 l0_2 ((rd_T69 l0_2 x26_2).f0) ((rd_T69 l0_2 x26_2).f1))) else (none)) else (none)) = some r := by first | (rw [hji23] at H; exact H) | (simp only [hji23] at H ⊢; exact H)
            (try rw [hji23] at A20)
            have hji23w : (IntKind.i64.wrap (x26_2 - 1)) = ji23 := (i64_w _).trans hji23
            by_cases c24 : 0 ≤ (ji23)
            ·rw [if_pos c24] at H
             have c24b0 : decide (0 ≤ (ji23)) = true := decide_eq_true c24
             clear c24
             by_cases c25 : (ji23) < (l0_2.length : Int)
             ·rw [if_pos c25] at H
              have c25b0 : decide ((ji23) < (l0_2.length : Int)) = true := decide_eq_true c25
              clear c25
              by_cases c26 : ((rd_T69 l0_2 (ji23)).f0) ≥ ((rd_T69 l0_2 x26_2).f0)
              ·rw [if_pos c26] at H
               have c26b0 : decide (((rd_T69 l0_2 x26_2).f0) ≤ ((rd_T69 l0_2 (ji23)).f0)) = true := decide_eq_true c26
               clear c26
               have H' := Aside0.mk H
               clear H
               have hnb27 := NB117_113.out
               have hnc27 := NB113_117.out
               have hcz28_0 : w17.cell? ⟨gb117, 0, none⟩ = some (.int .i64 0) := (blk_cell BK117.out 0).trans rfl
               have hcz28_1 : w17.cell? ⟨gb117, 1, none⟩ = some (.slice none 0 0) := (blk_cell BK117.out 1).trans rfl
               have hfz28_0 := blk_frozen BK117.out 0
               have hfz28_1 := blk_frozen BK117.out 1
               have hcz29_0 : w17.cell? ⟨gb113, 0, none⟩ = some (.int .i64 a0_0) := (blk_cell BK113.out 0).trans rfl
               have hcz29_1 : w17.cell? ⟨gb113, 1, none⟩ = some (.int .i64 a0_1) := (blk_cell BK113.out 1).trans rfl
               have hcz29_2 : w17.cell? ⟨gb113, 2, none⟩ = some (.slice (some ad116) l0_2.length c0_2) := (blk_cell BK113.out 2).trans rfl
               have hfz29_0 := blk_frozen BK113.out 0
               have hfz29_1 := blk_frozen BK113.out 1
               have hfz29_2 := blk_frozen BK113.out 2
               go_wp2_with (first | (go_at_call 55; (first | (with_reducible refine (spec_l1In.calls ((rd_T69 l0_2 x26_2).f0) 1 (wrap64 (a0_0 - 1)) true _ A20.out).mono ?_) | (with_reducible refine (spec_l1In.calls ((rd_T69 l0_2 x26_2).f0) 1 (IntKind.i64.wrap (a0_0 - 1)) true _ (by rw [i64_w]; exact A20.out)).mono ?_)); rintro e w' ⟨rfl, ⟨nd, rfl⟩⟩; (try first | exact ⟨rfl, _, World.drewN_drewN _ _ _⟩ | exact ⟨rfl, _, Eq.trans (World.drewN_drewN _ _ _) (congrArg (World.drewN _) (Nat.add_assoc _ _ _))⟩); have p119 : 0 ≤ ((ji23) : Int) := odt; have q119 : (ji23) < (l0_2.length : Int) := odt; obtain ⟨ad119, A119_1, c119_1, e119, hx119_0, hx119_1, hl119_1, hi119_1⟩ := at_T69 HR0_2.out (ji23) p119 q119; obtain rfl : ad116 = ad119 := (by injection e119); have hn119_0 : ad116.block ≠ gb117 := Nat.ne_of_lt (Nat.lt_of_lt_of_le (by have := World.block_lt_of_cell? _ _ hx119_0; first | rwa [add_block] at this | exact this) GW117.out); have hn119_1 : ad116.block ≠ gb117 := Nat.ne_of_lt (Nat.lt_of_lt_of_le (by have := World.block_lt_of_cell? _ _ hx119_0; first | rwa [add_block] at this | exact this) GW117.out); replace hx119_0 := (HB.out.cell (World.block_lt_of_cell? w _ hx119_0)).trans hx119_0; replace hx119_1 := (HB.out.cell (World.block_lt_of_cell? w _ hx119_1)).trans hx119_1; have HR119_1 := Aside0.mk hi119_1; have HC119_1 := Aside0.mk hl119_1; clear hi119_1 hl119_1; replace hx119_0 := (cell_far (p := ⟨gb117, 0, none⟩) (by first | (rw [add_block]; exact hn119_0) | (show (Addr.add _ _).block ≠ _; rw [add_block]; exact hn119_0) | exact hn119_0) (.int .i64 ((rd_T69 l0_2 x26_2).f0))).trans hx119_0; replace hx119_1 := (cell_far (p := ⟨gb117, 0, none⟩) (by first | (rw [add_block]; exact hn119_0) | (show (Addr.add _ _).block ≠ _; rw [add_block]; exact hn119_0) | exact hn119_0) (.int .i64 ((rd_T69 l0_2 x26_2).f0))).trans hx119_1; replace hx119_0 := (cell_far (p := ⟨gb117, 1, none⟩) (by first | (rw [add_block]; exact hn119_1) | (show (Addr.add _ _).block ≠ _; rw [add_block]; exact hn119_1) | exact hn119_1) (.slice A116_1 ((rd_T69 l0_2 x26_2).f1).length c116_1)).trans hx119_0; replace hx119_1 := (cell_far (p := ⟨gb117, 1, none⟩) (by first | (rw [add_block]; exact hn119_1) | (show (Addr.add _ _).block ≠ _; rw [add_block]; exact hn119_1) | exact hn119_1) (.slice A116_1 ((rd_T69 l0_2 x26_2).f1).length c116_1)).trans hx119_1; (try have hy119_0 := fun (n_ : Nat) => (show ((((w17.drewN n_).setCell ⟨gb117, 0, none⟩ (.int .i64 ((rd_T69 l0_2 x26_2).f0))).setCell ⟨gb117, 1, none⟩ (.slice A116_1 ((rd_T69 l0_2 x26_2).f1).length c116_1))).cell? _ = some _ from hx119_0)); (try have hy119_1 := fun (n_ : Nat) => (show ((((w17.drewN n_).setCell ⟨gb117, 0, none⟩ (.int .i64 ((rd_T69 l0_2 x26_2).f0))).setCell ⟨gb117, 1, none⟩ (.slice A116_1 ((rd_T69 l0_2 x26_2).f1).length c116_1))).cell? _ = some _ from hx119_1)); clear hn119_0; clear hn119_1; replace p119 := eq_true p119; replace q119 := eq_true q119))
               repeat (go_quiet (first | (go_at_call 55; (first | (with_reducible refine (spec_l1In.calls ((rd_T69 l0_2 x26_2).f0) 1 (wrap64 (a0_0 - 1)) true _ A20.out).mono ?_) | (with_reducible refine (spec_l1In.calls ((rd_T69 l0_2 x26_2).f0) 1 (IntKind.i64.wrap (a0_0 - 1)) true _ (by rw [i64_w]; exact A20.out)).mono ?_)); rintro e w' ⟨rfl, ⟨nd, rfl⟩⟩; (try first | exact ⟨rfl, _, World.drewN_drewN _ _ _⟩ | exact ⟨rfl, _, Eq.trans (World.drewN_drewN _ _ _) (congrArg (World.drewN _) (Nat.add_assoc _ _ _))⟩); have p119 : 0 ≤ ((ji23) : Int) := odt; have q119 : (ji23) < (l0_2.length : Int) := odt; obtain ⟨ad119, A119_1, c119_1, e119, hx119_0, hx119_1, hl119_1, hi119_1⟩ := at_T69 HR0_2.out (ji23) p119 q119; obtain rfl : ad116 = ad119 := (by injection e119); have hn119_0 : ad116.block ≠ gb117 := Nat.ne_of_lt (Nat.lt_of_lt_of_le (by have := World.block_lt_of_cell? _ _ hx119_0; first | rwa [add_block] at this | exact this) GW117.out); have hn119_1 : ad116.block ≠ gb117 := Nat.ne_of_lt (Nat.lt_of_lt_of_le (by have := World.block_lt_of_cell? _ _ hx119_0; first | rwa [add_block] at this | exact this) GW117.out); replace hx119_0 := (HB.out.cell (World.block_lt_of_cell? w _ hx119_0)).trans hx119_0; replace hx119_1 := (HB.out.cell (World.block_lt_of_cell? w _ hx119_1)).trans hx119_1; have HR119_1 := Aside0.mk hi119_1; have HC119_1 := Aside0.mk hl119_1; clear hi119_1 hl119_1; replace hx119_0 := (cell_far (p := ⟨gb117, 0, none⟩) (by first | (rw [add_block]; exact hn119_0) | (show (Addr.add _ _).block ≠ _; rw [add_block]; exact hn119_0) | exact hn119_0) (.int .i64 ((rd_T69 l0_2 x26_2).f0))).trans hx119_0; replace hx119_1 := (cell_far (p := ⟨gb117, 0, none⟩) (by first | (rw [add_block]; exact hn119_0) | (show (Addr.add _ _).block ≠ _; rw [add_block]; exact hn119_0) | exact hn119_0) (.int .i64 ((rd_T69 l0_2 x26_2).f0))).trans hx119_1; replace hx119_0 := (cell_far (p := ⟨gb117, 1, none⟩) (by first | (rw [add_block]; exact hn119_1) | (show (Addr.add _ _).block ≠ _; rw [add_block]; exact hn119_1) | exact hn119_1) (.slice A116_1 ((rd_T69 l0_2 x26_2).f1).length c116_1)).trans hx119_0; replace hx119_1 := (cell_far (p := ⟨gb117, 1, none⟩) (by first | (rw [add_block]; exact hn119_1) | (show (Addr.add _ _).block ≠ _; rw [add_block]; exact hn119_1) | exact hn119_1) (.slice A116_1 ((rd_T69 l0_2 x26_2).f1).length c116_1)).trans hx119_1; (try have hy119_0 := fun (n_ : Nat) => (show ((((w17.drewN n_).setCell ⟨gb117, 0, none⟩ (.int .i64 ((rd_T69 l0_2 x26_2).f0))).setCell ⟨gb117, 1, none⟩ (.slice A116_1 ((rd_T69 l0_2 x26_2).f1).length c116_1))).cell? _ = some _ from hx119_0)); (try have hy119_1 := fun (n_ : Nat) => (show ((((w17.drewN n_).setCell ⟨gb117, 0, none⟩ (.int .i64 ((rd_T69 l0_2 x26_2).f0))).setCell ⟨gb117, 1, none⟩ (.slice A116_1 ((rd_T69 l0_2 x26_2).f1).length c116_1))).cell? _ = some _ from hx119_1)); clear hn119_0; clear hn119_1; replace p119 := eq_true p119; replace q119 := eq_true q119)); try go_wp2_with (first | (go_at_call 55; (first | (with_reducible refine (spec_l1In.calls ((rd_T69 l0_2 x26_2).f0) 1 (wrap64 (a0_0 - 1)) true _ A20.out).mono ?_) | (with_reducible refine (spec_l1In.calls ((rd_T69 l0_2 x26_2).f0) 1 (IntKind.i64.wrap (a0_0 - 1)) true _ (by rw [i64_w]; exact A20.out)).mono ?_)); rintro e w' ⟨rfl, ⟨nd, rfl⟩⟩; (try first | exact ⟨rfl, _, World.drewN_drewN _ _ _⟩ | exact ⟨rfl, _, Eq.trans (World.drewN_drewN _ _ _) (congrArg (World.drewN _) (Nat.add_assoc _ _ _))⟩); have p119 : 0 ≤ ((ji23) : Int) := odt; have q119 : (ji23) < (l0_2.length : Int) := odt; obtain ⟨ad119, A119_1, c119_1, e119, hx119_0, hx119_1, hl119_1, hi119_1⟩ := at_T69 HR0_2.out (ji23) p119 q119; obtain rfl : ad116 = ad119 := (by injection e119); have hn119_0 : ad116.block ≠ gb117 := Nat.ne_of_lt (Nat.lt_of_lt_of_le (by have := World.block_lt_of_cell? _ _ hx119_0; first | rwa [add_block] at this | exact this) GW117.out); have hn119_1 : ad116.block ≠ gb117 := Nat.ne_of_lt (Nat.lt_of_lt_of_le (by have := World.block_lt_of_cell? _ _ hx119_0; first | rwa [add_block] at this | exact this) GW117.out); replace hx119_0 := (HB.out.cell (World.block_lt_of_cell? w _ hx119_0)).trans hx119_0; replace hx119_1 := (HB.out.cell (World.block_lt_of_cell? w _ hx119_1)).trans hx119_1; have HR119_1 := Aside0.mk hi119_1; have HC119_1 := Aside0.mk hl119_1; clear hi119_1 hl119_1; replace hx119_0 := (cell_far (p := ⟨gb117, 0, none⟩) (by first | (rw [add_block]; exact hn119_0) | (show (Addr.add _ _).block ≠ _; rw [add_block]; exact hn119_0) | exact hn119_0) (.int .i64 ((rd_T69 l0_2 x26_2).f0))).trans hx119_0; replace hx119_1 := (cell_far (p := ⟨gb117, 0, none⟩) (by first | (rw [add_block]; exact hn119_0) | (show (Addr.add _ _).block ≠ _; rw [add_block]; exact hn119_0) | exact hn119_0) (.int .i64 ((rd_T69 l0_2 x26_2).f0))).trans hx119_1; replace hx119_0 := (cell_far (p := ⟨gb117, 1, none⟩) (by first | (rw [add_block]; exact hn119_1) | (show (Addr.add _ _).block ≠ _; rw [add_block]; exact hn119_1) | exact hn119_1) (.slice A116_1 ((rd_T69 l0_2 x26_2).f1).length c116_1)).trans hx119_0; replace hx119_1 := (cell_far (p := ⟨gb117, 1, none⟩) (by first | (rw [add_block]; exact hn119_1) | (show (Addr.add _ _).block ≠ _; rw [add_block]; exact hn119_1) | exact hn119_1) (.slice A116_1 ((rd_T69 l0_2 x26_2).f1).length c116_1)).trans hx119_1; (try have hy119_0 := fun (n_ : Nat) => (show ((((w17.drewN n_).setCell ⟨gb117, 0, none⟩ (.int .i64 ((rd_T69 l0_2 x26_2).f0))).setCell ⟨gb117, 1, none⟩ (.slice A116_1 ((rd_T69 l0_2 x26_2).f1).length c116_1))).cell? _ = some _ from hx119_0)); (try have hy119_1 := fun (n_ : Nat) => (show ((((w17.drewN n_).setCell ⟨gb117, 0, none⟩ (.int .i64 ((rd_T69 l0_2 x26_2).f0))).setCell ⟨gb117, 1, none⟩ (.slice A116_1 ((rd_T69 l0_2 x26_2).f1).length c116_1))).cell? _ = some _ from hx119_1)); clear hn119_0; clear hn119_1; replace p119 := eq_true p119; replace q119 := eq_true q119)))
               go_meet
               case rel => exact ⟨_, (true), (by first | rfl | (simp; done) | (simp [*]; done)), H', ⟨by have := HJ1.out; have := HK2.out; first | omega | exact Nat.le_refl _⟩, ⟨by (with_reducible repeat (first | refine blk_drewN ?_ _ | refine blk_drew ?_ | refine blk_alloc ?_ _)); refine blk_far ?_ NB113_117.out _; (with_reducible repeat (first | refine blk_drewN ?_ _ | refine blk_drew ?_ | refine blk_alloc ?_ _)); refine blk_far ?_ NB113_117.out _; (with_reducible repeat (first | refine blk_drewN ?_ _ | refine blk_drew ?_ | refine blk_alloc ?_ _)); exact BK113.out⟩, ⟨by (with_reducible repeat (first | refine blk_drewN ?_ _ | refine blk_drew ?_ | refine blk_alloc ?_ _)); refine blk_put (cs := #[.int .i64 ((rd_T69 l0_2 x26_2).f0), .slice none 0 0]) ?_ 1 _ rfl; (with_reducible repeat (first | refine blk_drewN ?_ _ | refine blk_drew ?_ | refine blk_alloc ?_ _)); refine blk_put (cs := #[.int .i64 0, .slice none 0 0]) ?_ 0 _ rfl; (with_reducible repeat (first | refine blk_drewN ?_ _ | refine blk_drew ?_ | refine blk_alloc ?_ _)); exact BK117.out⟩, ⟨blw⟩⟩
              ·rw [if_neg c26] at H
               have c26b0 : decide (((rd_T69 l0_2 x26_2).f0) ≤ ((rd_T69 l0_2 (ji23)).f0)) = false := decide_eq_false c26
               clear c26
               have H' := Aside0.mk H
               clear H
               have hnb30 := NB117_113.out
               have hnc30 := NB113_117.out
               have hcz31_0 : w17.cell? ⟨gb117, 0, none⟩ = some (.int .i64 0) := (blk_cell BK117.out 0).trans rfl
               have hcz31_1 : w17.cell? ⟨gb117, 1, none⟩ = some (.slice none 0 0) := (blk_cell BK117.out 1).trans rfl
               have hfz31_0 := blk_frozen BK117.out 0
               have hfz31_1 := blk_frozen BK117.out 1
               have hcz32_0 : w17.cell? ⟨gb113, 0, none⟩ = some (.int .i64 a0_0) := (blk_cell BK113.out 0).trans rfl
               have hcz32_1 : w17.cell? ⟨gb113, 1, none⟩ = some (.int .i64 a0_1) := (blk_cell BK113.out 1).trans rfl
               have hcz32_2 : w17.cell? ⟨gb113, 2, none⟩ = some (.slice (some ad116) l0_2.length c0_2) := (blk_cell BK113.out 2).trans rfl
               have hfz32_0 := blk_frozen BK113.out 0
               have hfz32_1 := blk_frozen BK113.out 1
               have hfz32_2 := blk_frozen BK113.out 2
               go_wp2_with (first | (go_at_call 55; (first | (with_reducible refine (spec_l1In.calls ((rd_T69 l0_2 x26_2).f0) 1 (wrap64 (a0_0 - 1)) true _ A20.out).mono ?_) | (with_reducible refine (spec_l1In.calls ((rd_T69 l0_2 x26_2).f0) 1 (IntKind.i64.wrap (a0_0 - 1)) true _ (by rw [i64_w]; exact A20.out)).mono ?_)); rintro e w' ⟨rfl, ⟨nd, rfl⟩⟩; (try first | exact ⟨rfl, _, World.drewN_drewN _ _ _⟩ | exact ⟨rfl, _, Eq.trans (World.drewN_drewN _ _ _) (congrArg (World.drewN _) (Nat.add_assoc _ _ _))⟩); have p119 : 0 ≤ ((ji23) : Int) := odt; have q119 : (ji23) < (l0_2.length : Int) := odt; obtain ⟨ad119, A119_1, c119_1, e119, hx119_0, hx119_1, hl119_1, hi119_1⟩ := at_T69 HR0_2.out (ji23) p119 q119; obtain rfl : ad116 = ad119 := (by injection e119); have hn119_0 : ad116.block ≠ gb117 := Nat.ne_of_lt (Nat.lt_of_lt_of_le (by have := World.block_lt_of_cell? _ _ hx119_0; first | rwa [add_block] at this | exact this) GW117.out); have hn119_1 : ad116.block ≠ gb117 := Nat.ne_of_lt (Nat.lt_of_lt_of_le (by have := World.block_lt_of_cell? _ _ hx119_0; first | rwa [add_block] at this | exact this) GW117.out); replace hx119_0 := (HB.out.cell (World.block_lt_of_cell? w _ hx119_0)).trans hx119_0; replace hx119_1 := (HB.out.cell (World.block_lt_of_cell? w _ hx119_1)).trans hx119_1; have HR119_1 := Aside0.mk hi119_1; have HC119_1 := Aside0.mk hl119_1; clear hi119_1 hl119_1; replace hx119_0 := (cell_far (p := ⟨gb117, 0, none⟩) (by first | (rw [add_block]; exact hn119_0) | (show (Addr.add _ _).block ≠ _; rw [add_block]; exact hn119_0) | exact hn119_0) (.int .i64 ((rd_T69 l0_2 x26_2).f0))).trans hx119_0; replace hx119_1 := (cell_far (p := ⟨gb117, 0, none⟩) (by first | (rw [add_block]; exact hn119_0) | (show (Addr.add _ _).block ≠ _; rw [add_block]; exact hn119_0) | exact hn119_0) (.int .i64 ((rd_T69 l0_2 x26_2).f0))).trans hx119_1; replace hx119_0 := (cell_far (p := ⟨gb117, 1, none⟩) (by first | (rw [add_block]; exact hn119_1) | (show (Addr.add _ _).block ≠ _; rw [add_block]; exact hn119_1) | exact hn119_1) (.slice A116_1 ((rd_T69 l0_2 x26_2).f1).length c116_1)).trans hx119_0; replace hx119_1 := (cell_far (p := ⟨gb117, 1, none⟩) (by first | (rw [add_block]; exact hn119_1) | (show (Addr.add _ _).block ≠ _; rw [add_block]; exact hn119_1) | exact hn119_1) (.slice A116_1 ((rd_T69 l0_2 x26_2).f1).length c116_1)).trans hx119_1; (try have hy119_0 := fun (n_ : Nat) => (show ((((w17.drewN n_).setCell ⟨gb117, 0, none⟩ (.int .i64 ((rd_T69 l0_2 x26_2).f0))).setCell ⟨gb117, 1, none⟩ (.slice A116_1 ((rd_T69 l0_2 x26_2).f1).length c116_1))).cell? _ = some _ from hx119_0)); (try have hy119_1 := fun (n_ : Nat) => (show ((((w17.drewN n_).setCell ⟨gb117, 0, none⟩ (.int .i64 ((rd_T69 l0_2 x26_2).f0))).setCell ⟨gb117, 1, none⟩ (.slice A116_1 ((rd_T69 l0_2 x26_2).f1).length c116_1))).cell? _ = some _ from hx119_1)); clear hn119_0; clear hn119_1; replace p119 := eq_true p119; replace q119 := eq_true q119))
               repeat (go_quiet (first | (go_at_call 55; (first | (with_reducible refine (spec_l1In.calls ((rd_T69 l0_2 x26_2).f0) 1 (wrap64 (a0_0 - 1)) true _ A20.out).mono ?_) | (with_reducible refine (spec_l1In.calls ((rd_T69 l0_2 x26_2).f0) 1 (IntKind.i64.wrap (a0_0 - 1)) true _ (by rw [i64_w]; exact A20.out)).mono ?_)); rintro e w' ⟨rfl, ⟨nd, rfl⟩⟩; (try first | exact ⟨rfl, _, World.drewN_drewN _ _ _⟩ | exact ⟨rfl, _, Eq.trans (World.drewN_drewN _ _ _) (congrArg (World.drewN _) (Nat.add_assoc _ _ _))⟩); have p119 : 0 ≤ ((ji23) : Int) := odt; have q119 : (ji23) < (l0_2.length : Int) := odt; obtain ⟨ad119, A119_1, c119_1, e119, hx119_0, hx119_1, hl119_1, hi119_1⟩ := at_T69 HR0_2.out (ji23) p119 q119; obtain rfl : ad116 = ad119 := (by injection e119); have hn119_0 : ad116.block ≠ gb117 := Nat.ne_of_lt (Nat.lt_of_lt_of_le (by have := World.block_lt_of_cell? _ _ hx119_0; first | rwa [add_block] at this | exact this) GW117.out); have hn119_1 : ad116.block ≠ gb117 := Nat.ne_of_lt (Nat.lt_of_lt_of_le (by have := World.block_lt_of_cell? _ _ hx119_0; first | rwa [add_block] at this | exact this) GW117.out); replace hx119_0 := (HB.out.cell (World.block_lt_of_cell? w _ hx119_0)).trans hx119_0; replace hx119_1 := (HB.out.cell (World.block_lt_of_cell? w _ hx119_1)).trans hx119_1; have HR119_1 := Aside0.mk hi119_1; have HC119_1 := Aside0.mk hl119_1; clear hi119_1 hl119_1; replace hx119_0 := (cell_far (p := ⟨gb117, 0, none⟩) (by first | (rw [add_block]; exact hn119_0) | (show (Addr.add _ _).block ≠ _; rw [add_block]; exact hn119_0) | exact hn119_0) (.int .i64 ((rd_T69 l0_2 x26_2).f0))).trans hx119_0; replace hx119_1 := (cell_far (p := ⟨gb117, 0, none⟩) (by first | (rw [add_block]; exact hn119_0) | (show (Addr.add _ _).block ≠ _; rw [add_block]; exact hn119_0) | exact hn119_0) (.int .i64 ((rd_T69 l0_2 x26_2).f0))).trans hx119_1; replace hx119_0 := (cell_far (p := ⟨gb117, 1, none⟩) (by first | (rw [add_block]; exact hn119_1) | (show (Addr.add _ _).block ≠ _; rw [add_block]; exact hn119_1) | exact hn119_1) (.slice A116_1 ((rd_T69 l0_2 x26_2).f1).length c116_1)).trans hx119_0; replace hx119_1 := (cell_far (p := ⟨gb117, 1, none⟩) (by first | (rw [add_block]; exact hn119_1) | (show (Addr.add _ _).block ≠ _; rw [add_block]; exact hn119_1) | exact hn119_1) (.slice A116_1 ((rd_T69 l0_2 x26_2).f1).length c116_1)).trans hx119_1; (try have hy119_0 := fun (n_ : Nat) => (show ((((w17.drewN n_).setCell ⟨gb117, 0, none⟩ (.int .i64 ((rd_T69 l0_2 x26_2).f0))).setCell ⟨gb117, 1, none⟩ (.slice A116_1 ((rd_T69 l0_2 x26_2).f1).length c116_1))).cell? _ = some _ from hx119_0)); (try have hy119_1 := fun (n_ : Nat) => (show ((((w17.drewN n_).setCell ⟨gb117, 0, none⟩ (.int .i64 ((rd_T69 l0_2 x26_2).f0))).setCell ⟨gb117, 1, none⟩ (.slice A116_1 ((rd_T69 l0_2 x26_2).f1).length c116_1))).cell? _ = some _ from hx119_1)); clear hn119_0; clear hn119_1; replace p119 := eq_true p119; replace q119 := eq_true q119)); try go_wp2_with (first | (go_at_call 55; (first | (with_reducible refine (spec_l1In.calls ((rd_T69 l0_2 x26_2).f0) 1 (wrap64 (a0_0 - 1)) true _ A20.out).mono ?_) | (with_reducible refine (spec_l1In.calls ((rd_T69 l0_2 x26_2).f0) 1 (IntKind.i64.wrap (a0_0 - 1)) true _ (by rw [i64_w]; exact A20.out)).mono ?_)); rintro e w' ⟨rfl, ⟨nd, rfl⟩⟩; (try first | exact ⟨rfl, _, World.drewN_drewN _ _ _⟩ | exact ⟨rfl, _, Eq.trans (World.drewN_drewN _ _ _) (congrArg (World.drewN _) (Nat.add_assoc _ _ _))⟩); have p119 : 0 ≤ ((ji23) : Int) := odt; have q119 : (ji23) < (l0_2.length : Int) := odt; obtain ⟨ad119, A119_1, c119_1, e119, hx119_0, hx119_1, hl119_1, hi119_1⟩ := at_T69 HR0_2.out (ji23) p119 q119; obtain rfl : ad116 = ad119 := (by injection e119); have hn119_0 : ad116.block ≠ gb117 := Nat.ne_of_lt (Nat.lt_of_lt_of_le (by have := World.block_lt_of_cell? _ _ hx119_0; first | rwa [add_block] at this | exact this) GW117.out); have hn119_1 : ad116.block ≠ gb117 := Nat.ne_of_lt (Nat.lt_of_lt_of_le (by have := World.block_lt_of_cell? _ _ hx119_0; first | rwa [add_block] at this | exact this) GW117.out); replace hx119_0 := (HB.out.cell (World.block_lt_of_cell? w _ hx119_0)).trans hx119_0; replace hx119_1 := (HB.out.cell (World.block_lt_of_cell? w _ hx119_1)).trans hx119_1; have HR119_1 := Aside0.mk hi119_1; have HC119_1 := Aside0.mk hl119_1; clear hi119_1 hl119_1; replace hx119_0 := (cell_far (p := ⟨gb117, 0, none⟩) (by first | (rw [add_block]; exact hn119_0) | (show (Addr.add _ _).block ≠ _; rw [add_block]; exact hn119_0) | exact hn119_0) (.int .i64 ((rd_T69 l0_2 x26_2).f0))).trans hx119_0; replace hx119_1 := (cell_far (p := ⟨gb117, 0, none⟩) (by first | (rw [add_block]; exact hn119_0) | (show (Addr.add _ _).block ≠ _; rw [add_block]; exact hn119_0) | exact hn119_0) (.int .i64 ((rd_T69 l0_2 x26_2).f0))).trans hx119_1; replace hx119_0 := (cell_far (p := ⟨gb117, 1, none⟩) (by first | (rw [add_block]; exact hn119_1) | (show (Addr.add _ _).block ≠ _; rw [add_block]; exact hn119_1) | exact hn119_1) (.slice A116_1 ((rd_T69 l0_2 x26_2).f1).length c116_1)).trans hx119_0; replace hx119_1 := (cell_far (p := ⟨gb117, 1, none⟩) (by first | (rw [add_block]; exact hn119_1) | (show (Addr.add _ _).block ≠ _; rw [add_block]; exact hn119_1) | exact hn119_1) (.slice A116_1 ((rd_T69 l0_2 x26_2).f1).length c116_1)).trans hx119_1; (try have hy119_0 := fun (n_ : Nat) => (show ((((w17.drewN n_).setCell ⟨gb117, 0, none⟩ (.int .i64 ((rd_T69 l0_2 x26_2).f0))).setCell ⟨gb117, 1, none⟩ (.slice A116_1 ((rd_T69 l0_2 x26_2).f1).length c116_1))).cell? _ = some _ from hx119_0)); (try have hy119_1 := fun (n_ : Nat) => (show ((((w17.drewN n_).setCell ⟨gb117, 0, none⟩ (.int .i64 ((rd_T69 l0_2 x26_2).f0))).setCell ⟨gb117, 1, none⟩ (.slice A116_1 ((rd_T69 l0_2 x26_2).f1).length c116_1))).cell? _ = some _ from hx119_1)); clear hn119_0; clear hn119_1; replace p119 := eq_true p119; replace q119 := eq_true q119)))
               go_meet
               case rel => exact ⟨_, (decide ((((rd_T69 l0_2 x26_2).f1).length : Int) > 12)), (by first | rfl | (simp; done) | (simp [*]; done)), H', ⟨by have := HJ1.out; have := HK2.out; first | omega | exact Nat.le_refl _⟩, ⟨by (with_reducible repeat (first | refine blk_drewN ?_ _ | refine blk_drew ?_ | refine blk_alloc ?_ _)); refine blk_far ?_ NB113_117.out _; (with_reducible repeat (first | refine blk_drewN ?_ _ | refine blk_drew ?_ | refine blk_alloc ?_ _)); refine blk_far ?_ NB113_117.out _; (with_reducible repeat (first | refine blk_drewN ?_ _ | refine blk_drew ?_ | refine blk_alloc ?_ _)); exact BK113.out⟩, ⟨by (with_reducible repeat (first | refine blk_drewN ?_ _ | refine blk_drew ?_ | refine blk_alloc ?_ _)); refine blk_put (cs := #[.int .i64 ((rd_T69 l0_2 x26_2).f0), .slice none 0 0]) ?_ 1 _ rfl; (with_reducible repeat (first | refine blk_drewN ?_ _ | refine blk_drew ?_ | refine blk_alloc ?_ _)); refine blk_put (cs := #[.int .i64 0, .slice none 0 0]) ?_ 0 _ rfl; (with_reducible repeat (first | refine blk_drewN ?_ _ | refine blk_drew ?_ | refine blk_alloc ?_ _)); exact BK117.out⟩, ⟨blw⟩⟩
             ·rw [if_neg c25] at H
              exact absurd H (by simp)
            ·rw [if_neg c24] at H
             exact absurd H (by simp)
           ·rw [if_neg c22] at H
            have c22b0 : decide (0 < x26_2) = false := decide_eq_false c22
            clear c22
            (first | rw [c22b0] | (simp only [i64_w, i32_w]; rw [c22b0]) | skip)
            have H' := Aside0.mk H
            clear H
            have hnb33 := NB117_113.out
            have hnc33 := NB113_117.out
            have hcz34_0 : w17.cell? ⟨gb117, 0, none⟩ = some (.int .i64 0) := (blk_cell BK117.out 0).trans rfl
            have hcz34_1 : w17.cell? ⟨gb117, 1, none⟩ = some (.slice none 0 0) := (blk_cell BK117.out 1).trans rfl
            have hfz34_0 := blk_frozen BK117.out 0
            have hfz34_1 := blk_frozen BK117.out 1
            have hcz35_0 : w17.cell? ⟨gb113, 0, none⟩ = some (.int .i64 a0_0) := (blk_cell BK113.out 0).trans rfl
            have hcz35_1 : w17.cell? ⟨gb113, 1, none⟩ = some (.int .i64 a0_1) := (blk_cell BK113.out 1).trans rfl
            have hcz35_2 : w17.cell? ⟨gb113, 2, none⟩ = some (.slice (some ad116) l0_2.length c0_2) := (blk_cell BK113.out 2).trans rfl
            have hfz35_0 := blk_frozen BK113.out 0
            have hfz35_1 := blk_frozen BK113.out 1
            have hfz35_2 := blk_frozen BK113.out 2
            go_wp2_with (first | (go_at_call 55; (first | (with_reducible refine (spec_l1In.calls ((rd_T69 l0_2 x26_2).f0) 1 (wrap64 (a0_0 - 1)) true _ A20.out).mono ?_) | (with_reducible refine (spec_l1In.calls ((rd_T69 l0_2 x26_2).f0) 1 (IntKind.i64.wrap (a0_0 - 1)) true _ (by rw [i64_w]; exact A20.out)).mono ?_)); rintro e w' ⟨rfl, ⟨nd, rfl⟩⟩; (try first | exact ⟨rfl, _, World.drewN_drewN _ _ _⟩ | exact ⟨rfl, _, Eq.trans (World.drewN_drewN _ _ _) (congrArg (World.drewN _) (Nat.add_assoc _ _ _))⟩)))
            repeat (go_quiet (first | (go_at_call 55; (first | (with_reducible refine (spec_l1In.calls ((rd_T69 l0_2 x26_2).f0) 1 (wrap64 (a0_0 - 1)) true _ A20.out).mono ?_) | (with_reducible refine (spec_l1In.calls ((rd_T69 l0_2 x26_2).f0) 1 (IntKind.i64.wrap (a0_0 - 1)) true _ (by rw [i64_w]; exact A20.out)).mono ?_)); rintro e w' ⟨rfl, ⟨nd, rfl⟩⟩; (try first | exact ⟨rfl, _, World.drewN_drewN _ _ _⟩ | exact ⟨rfl, _, Eq.trans (World.drewN_drewN _ _ _) (congrArg (World.drewN _) (Nat.add_assoc _ _ _))⟩))); try go_wp2_with (first | (go_at_call 55; (first | (with_reducible refine (spec_l1In.calls ((rd_T69 l0_2 x26_2).f0) 1 (wrap64 (a0_0 - 1)) true _ A20.out).mono ?_) | (with_reducible refine (spec_l1In.calls ((rd_T69 l0_2 x26_2).f0) 1 (IntKind.i64.wrap (a0_0 - 1)) true _ (by rw [i64_w]; exact A20.out)).mono ?_)); rintro e w' ⟨rfl, ⟨nd, rfl⟩⟩; (try first | exact ⟨rfl, _, World.drewN_drewN _ _ _⟩ | exact ⟨rfl, _, Eq.trans (World.drewN_drewN _ _ _) (congrArg (World.drewN _) (Nat.add_assoc _ _ _))⟩))))
            go_meet
            case rel => exact ⟨_, (decide ((((rd_T69 l0_2 x26_2).f1).length : Int) > 12)), (by first | rfl | (simp; done) | (simp [*]; done)), H', ⟨by have := HJ1.out; have := HK2.out; first | omega | exact Nat.le_refl _⟩, ⟨by (with_reducible repeat (first | refine blk_drewN ?_ _ | refine blk_drew ?_ | refine blk_alloc ?_ _)); refine blk_far ?_ NB113_117.out _; (with_reducible repeat (first | refine blk_drewN ?_ _ | refine blk_drew ?_ | refine blk_alloc ?_ _)); refine blk_far ?_ NB113_117.out _; (with_reducible repeat (first | refine blk_drewN ?_ _ | refine blk_drew ?_ | refine blk_alloc ?_ _)); exact BK113.out⟩, ⟨by (with_reducible repeat (first | refine blk_drewN ?_ _ | refine blk_drew ?_ | refine blk_alloc ?_ _)); refine blk_put (cs := #[.int .i64 ((rd_T69 l0_2 x26_2).f0), .slice none 0 0]) ?_ 1 _ rfl; (with_reducible repeat (first | refine blk_drewN ?_ _ | refine blk_drew ?_ | refine blk_alloc ?_ _)); refine blk_put (cs := #[.int .i64 0, .slice none 0 0]) ?_ 0 _ rfl; (with_reducible repeat (first | refine blk_drewN ?_ _ | refine blk_drew ?_ | refine blk_alloc ?_ _)); exact BK117.out⟩, ⟨blw⟩⟩
          ·replace c21 := Bool.eq_false_iff.mpr c21
           subst c21
           have H1 : (spec_GoodWorld.j2 k2 l0_2 (l0_2.length : Int) x26_2 true a0_0 a0_1 l0_2 ((rd_T69 l0_2 x26_2).f0) ((rd_T69 l0_2 x26_2).f1)) = some r := by rw [if_neg (show ¬ (false = true) by decide)] at H; exact H
           clear H
           have H := H1
           clear H1
           have H' := Aside0.mk H
           clear H
           have hnb36 := NB117_113.out
           have hnc36 := NB113_117.out
           have hcz37_0 : w17.cell? ⟨gb117, 0, none⟩ = some (.int .i64 0) := (blk_cell BK117.out 0).trans rfl
           have hcz37_1 : w17.cell? ⟨gb117, 1, none⟩ = some (.slice none 0 0) := (blk_cell BK117.out 1).trans rfl
           have hfz37_0 := blk_frozen BK117.out 0
           have hfz37_1 := blk_frozen BK117.out 1
           have hcz38_0 : w17.cell? ⟨gb113, 0, none⟩ = some (.int .i64 a0_0) := (blk_cell BK113.out 0).trans rfl
           have hcz38_1 : w17.cell? ⟨gb113, 1, none⟩ = some (.int .i64 a0_1) := (blk_cell BK113.out 1).trans rfl
           have hcz38_2 : w17.cell? ⟨gb113, 2, none⟩ = some (.slice (some ad116) l0_2.length c0_2) := (blk_cell BK113.out 2).trans rfl
           have hfz38_0 := blk_frozen BK113.out 0
           have hfz38_1 := blk_frozen BK113.out 1
           have hfz38_2 := blk_frozen BK113.out 2
           go_wp2_with (first | (go_at_call 55; (first | (with_reducible refine (spec_l1In.calls ((rd_T69 l0_2 x26_2).f0) 1 (wrap64 (a0_0 - 1)) false _ A20.out).mono ?_) | (with_reducible refine (spec_l1In.calls ((rd_T69 l0_2 x26_2).f0) 1 (IntKind.i64.wrap (a0_0 - 1)) false _ (by rw [i64_w]; exact A20.out)).mono ?_)); rintro e w' ⟨rfl, ⟨nd, rfl⟩⟩; (try first | exact ⟨rfl, _, World.drewN_drewN _ _ _⟩ | exact ⟨rfl, _, Eq.trans (World.drewN_drewN _ _ _) (congrArg (World.drewN _) (Nat.add_assoc _ _ _))⟩)))
           repeat (go_quiet (first | (go_at_call 55; (first | (with_reducible refine (spec_l1In.calls ((rd_T69 l0_2 x26_2).f0) 1 (wrap64 (a0_0 - 1)) false _ A20.out).mono ?_) | (with_reducible refine (spec_l1In.calls ((rd_T69 l0_2 x26_2).f0) 1 (IntKind.i64.wrap (a0_0 - 1)) false _ (by rw [i64_w]; exact A20.out)).mono ?_)); rintro e w' ⟨rfl, ⟨nd, rfl⟩⟩; (try first | exact ⟨rfl, _, World.drewN_drewN _ _ _⟩ | exact ⟨rfl, _, Eq.trans (World.drewN_drewN _ _ _) (congrArg (World.drewN _) (Nat.add_assoc _ _ _))⟩))); try go_wp2_with (first | (go_at_call 55; (first | (with_reducible refine (spec_l1In.calls ((rd_T69 l0_2 x26_2).f0) 1 (wrap64 (a0_0 - 1)) false _ A20.out).mono ?_) | (with_reducible refine (spec_l1In.calls ((rd_T69 l0_2 x26_2).f0) 1 (IntKind.i64.wrap (a0_0 - 1)) false _ (by rw [i64_w]; exact A20.out)).mono ?_)); rintro e w' ⟨rfl, ⟨nd, rfl⟩⟩; (try first | exact ⟨rfl, _, World.drewN_drewN _ _ _⟩ | exact ⟨rfl, _, Eq.trans (World.drewN_drewN _ _ _) (congrArg (World.drewN _) (Nat.add_assoc _ _ _))⟩))))
           go_meet
           case rel => exact ⟨_, (true), (by first | rfl | (simp; done) | (simp [*]; done)), H', ⟨by have := HJ1.out; have := HK2.out; first | omega | exact Nat.le_refl _⟩, ⟨by (with_reducible repeat (first | refine blk_drewN ?_ _ | refine blk_drew ?_ | refine blk_alloc ?_ _)); refine blk_far ?_ NB113_117.out _; (with_reducible repeat (first | refine blk_drewN ?_ _ | refine blk_drew ?_ | refine blk_alloc ?_ _)); refine blk_far ?_ NB113_117.out _; (with_reducible repeat (first | refine blk_drewN ?_ _ | refine blk_drew ?_ | refine blk_alloc ?_ _)); exact BK113.out⟩, ⟨by (with_reducible repeat (first | refine blk_drewN ?_ _ | refine blk_drew ?_ | refine blk_alloc ?_ _)); refine blk_put (cs := #[.int .i64 ((rd_T69 l0_2 x26_2).f0), .slice none 0 0]) ?_ 1 _ rfl; (with_reducible repeat (first | refine blk_drewN ?_ _ | refine blk_drew ?_ | refine blk_alloc ?_ _)); refine blk_put (cs := #[.int .i64 0, .slice none 0 0]) ?_ 0 _ rfl; (with_reducible repeat (first | refine blk_drewN ?_ _ | refine blk_drew ?_ | refine blk_alloc ?_ _)); exact BK117.out⟩, ⟨blw⟩⟩
         case rest =>
          clear HC16
          try clear c1
          try clear p1
          try clear q1
          try clear hx1
          try clear c2
          try clear p2
          try clear c3
          try clear c5
          try clear p6
          try clear c7
          try clear c11
          try clear p11
          try clear q11
          try clear hx11
          try clear c13
          try clear c13b0
          try clear c14
          try clear c14b0
          try clear c15
          try clear c15b0
          try clear c18
          try clear c21
          try clear c22
          try clear c22b0
          try clear c24
          try clear c24b0
          try clear c25
          try clear c25b0
          try clear c26
          try clear c26b0
          try clear c27
          try clear c30
          try clear c33
          try clear c36
          try clear c38
          try clear hcz10_0
          try clear hcz10_1
          try clear hcz10_2
          try clear hcz12_0
          try clear hcz12_1
          try clear hcz12_2
          try clear hcz19_0
          try clear hcz19_1
          try clear hcz28_0
          try clear hcz28_1
          try clear hcz29_0
          try clear hcz29_1
          try clear hcz29_2
          try clear hcz31_0
          try clear hcz31_1
          try clear hcz32_0
          try clear hcz32_1
          try clear hcz32_2
          try clear hcz34_0
          try clear hcz34_1
          try clear hcz35_0
          try clear hcz35_1
          try clear hcz35_2
          try clear hcz37_0
          try clear hcz37_1
          try clear hcz38_0
          try clear hcz38_1
          try clear hcz38_2
          try clear hcz8_0
          try clear hcz8_1
          try clear hcz8_2
          try clear hcz9_0
          try clear hcz9_1
          try clear hcz9_2
          try clear hfz10_0
          try clear hfz10_1
          try clear hfz10_2
          try clear hfz12_0
          try clear hfz12_1
          try clear hfz12_2
          try clear hfz19_0
          try clear hfz19_1
          try clear hfz28_0
          try clear hfz28_1
          try clear hfz29_0
          try clear hfz29_1
          try clear hfz29_2
          try clear hfz31_0
          try clear hfz31_1
          try clear hfz32_0
          try clear hfz32_1
          try clear hfz32_2
          try clear hfz34_0
          try clear hfz34_1
          try clear hfz35_0
          try clear hfz35_1
          try clear hfz35_2
          try clear hfz37_0
          try clear hfz37_1
          try clear hfz38_0
          try clear hfz38_1
          try clear hfz38_2
          try clear hfz8_0
          try clear hfz8_1
          try clear hfz8_2
          try clear hfz9_0
          try clear hfz9_1
          try clear hfz9_2
          try clear hx116_0
          try clear hx116_1
          try clear hx119_0
          try clear hx119_1
          try clear p116
          try clear p119
          try clear p2
          try clear q116
          try clear q119
          obtain ⟨kq, x59_15, rfl, HA, HJ15, BK113, BK117, HB⟩ := hcut
          cases kq with
          | zero => exact absurd HA.out (by simp [spec_GoodWorld.j2])
          | succ kj15 =>
           have H := HA.out
           clear HA
           simp only [spec_GoodWorld.j2] at H
           by_cases c39 : x59_15 = true
           ·subst c39
            have H1 : (some false) = some r := by rw [if_pos rfl] at H; exact H
            clear H
            have H := H1
            clear H1
            obtain rfl := Option.some.inj H
            go_wp2
            repeat (go_quiet (fail); try go_wp2)
            go_ret
            exact ⟨by first | rfl | (simp [errW_none, errW_some] <;> rfl) | (simp [*, errW_none, errW_some] <;> rfl), blw⟩
           ·replace c39 := Bool.eq_false_iff.mpr c39
            subst c39
            have H1 : (spec_GoodWorld.l1 kj15 l0_2 (l0_2.length : Int) x26_2 ((rd_T69 l0_2 x26_2).f1) (((rd_T69 l0_2 x26_2).f1).length : Int) 0 a0_0 a0_1 l0_2 ((rd_T69 l0_2 x26_2).f0) ((rd_T69 l0_2 x26_2).f1)) = some r := by rw [if_neg (show ¬ (false = true) by decide)] at H; exact H
            clear H
            have H := H1
            clear H1
            have H' := Aside0.mk H
            clear H
            have hnb40 := NB117_113.out
            have hnc40 := NB113_117.out
            have hcz41_0 : wc.cell? ⟨gb117, 0, none⟩ = some (.int .i64 ((rd_T69 l0_2 x26_2).f0)) := (blk_cell BK117.out 0).trans rfl
            have hcz41_1 : wc.cell? ⟨gb117, 1, none⟩ = some (.slice A116_1 ((rd_T69 l0_2 x26_2).f1).length c116_1) := (blk_cell BK117.out 1).trans rfl
            have hfz41_0 := blk_frozen BK117.out 0
            have hfz41_1 := blk_frozen BK117.out 1
            go_wp2
            repeat (go_quiet (fail); try go_wp2)
            go_loopg [63] kj15 (fun kq v63 w' => ∃ (x63_4 : Int), v63 = .int .i64 x63_4 ∧ Aside0 (spec_GoodWorld.l1 kq l0_2 (l0_2.length : Int) x26_2 ((rd_T69 l0_2 x26_2).f1) (((rd_T69 l0_2 x26_2).f1).length : Int) x63_4 a0_0 a0_1 l0_2 ((rd_T69 l0_2 x26_2).f0) ((rd_T69 l0_2 x26_2).f1) = some r) ∧ Aside0 (kq ≤ kj15) ∧ Aside0 (w'.heap[gb113]? = some (.cells #[.int .i64 a0_0, .int .i64 a0_1, (.slice (some ad116) l0_2.length c0_2)] 31 (0, 0))) ∧ Aside0 (w'.heap[gb117]? = some (.cells #[.int .i64 ((rd_T69 l0_2 x26_2).f0), (.slice A116_1 ((rd_T69 l0_2 x26_2).f1).length c116_1)] 69 (0, 0))) ∧ Aside0 (Below w.heap.size w w'))
            case atStart => exact ⟨(0), (by first | rfl | (simp; done) | (simp [*]; done)), H', ⟨Nat.le_refl _⟩, ⟨by (with_reducible repeat (first | refine blk_drewN ?_ _ | refine blk_drew ?_ | refine blk_alloc ?_ _)); exact BK113.out⟩, ⟨by (with_reducible repeat (first | refine blk_drewN ?_ _ | refine blk_drew ?_ | refine blk_alloc ?_ _)); exact BK117.out⟩, ⟨blw⟩⟩
            case round =>
             clear H'
             try clear c1
             try clear p1
             try clear q1
             try clear hx1
             try clear c2
             try clear p2
             try clear c3
             try clear c4
             try clear c5
             try clear p6
             try clear c7
             try clear c11
             try clear p11
             try clear q11
             try clear hx11
             try clear c13
             try clear c13b0
             try clear c14
             try clear c14b0
             try clear c15
             try clear c15b0
             try clear c18
             try clear c21
             try clear c22
             try clear c22b0
             try clear c24
             try clear c24b0
             try clear c25
             try clear c25b0
             try clear c26
             try clear c26b0
             try clear c27
             try clear c30
             try clear c33
             try clear c36
             try clear c38
             try clear c39
             try clear c40
             try clear hcz10_0
             try clear hcz10_1
             try clear hcz10_2
             try clear hcz12_0
             try clear hcz12_1
             try clear hcz12_2
             try clear hcz19_0
             try clear hcz19_1
             try clear hcz28_0
             try clear hcz28_1
             try clear hcz29_0
             try clear hcz29_1
             try clear hcz29_2
             try clear hcz31_0
             try clear hcz31_1
             try clear hcz32_0
             try clear hcz32_1
             try clear hcz32_2
             try clear hcz34_0
             try clear hcz34_1
             try clear hcz35_0
             try clear hcz35_1
             try clear hcz35_2
             try clear hcz37_0
             try clear hcz37_1
             try clear hcz38_0
             try clear hcz38_1
             try clear hcz38_2
             try clear hcz41_0
             try clear hcz41_1
             try clear hcz8_0
             try clear hcz8_1
             try clear hcz8_2
             try clear hcz9_0
             try clear hcz9_1
             try clear hcz9_2
             try clear hfz10_0
             try clear hfz10_1
             try clear hfz10_2
             try clear hfz12_0
             try clear hfz12_1
             try clear hfz12_2
             try clear hfz19_0
             try clear hfz19_1
             try clear hfz28_0
             try clear hfz28_1
             try clear hfz29_0
             try clear hfz29_1
             try clear hfz29_2
             try clear hfz31_0
             try clear hfz31_1
             try clear hfz32_0
             try clear hfz32_1
             try clear hfz32_2
             try clear hfz34_0
             try clear hfz34_1
             try clear hfz35_0
             try clear hfz35_1
             try clear hfz35_2
             try clear hfz37_0
             try clear hfz37_1
             try clear hfz38_0
             try clear hfz38_1
             try clear hfz38_2
             try clear hfz41_0
             try clear hfz41_1
             try clear hfz8_0
             try clear hfz8_1
             try clear hfz8_2
             try clear hfz9_0
             try clear hfz9_1
             try clear hfz9_2
             try clear hx116_0
             try clear hx116_1
             try clear hx119_0
             try clear hx119_1
             try clear p1
             try clear p11
             try clear p116
             try clear p119
             try clear p2
             try clear p6
             try clear q1
             try clear q11
             try clear q116
             try clear q119
             obtain ⟨x63_4, rfl, HA, HK4, BK113, BK117, HB⟩ := hrel
             cases gk with
             | zero => exact absurd HA.out (by simp [spec_GoodWorld.l1])
             | succ k4 =>
              have H := HA.out
              clear HA
              simp only [spec_GoodWorld.l1] at H
              by_cases c42 : x63_4 < (((rd_T69 l0_2 x26_2).f1).length : Int)
              ·rw [if_pos c42] at H
               have c42b0 : decide (x63_4 < (((rd_T69 l0_2 x26_2).f1).length : Int)) = true := decide_eq_true c42
               clear c42
               by_cases c43 : 0 ≤ x63_4
               ·rw [if_pos c43] at H
                have c43b0 : decide (0 ≤ x63_4) = true := decide_eq_true c43
                clear c43
                by_cases c44 : x63_4 < (((rd_T69 l0_2 x26_2).f1).length : Int)
                ·rw [if_pos c44] at H
                 have c44b0 : decide (x63_4 < (((rd_T69 l0_2 x26_2).f1).length : Int)) = true := decide_eq_true c44
                 clear c44
                 replace H := Option.bind_eq_some_iff.mp H
                 obtain ⟨t122, A450, H⟩ := H
                 replace H : (if t122 = true then ((spec_l1In.f ((rd_T72 ((rd_T69 l0_2 x26_2).f1) x63_4).f2) 0 a0_1).bind fun t123 => (if t123 = true then (if x63_4 > 0 then (if 0 ≤ (wrap64 (x63_4 - 1)) then (if (wrap64 (x63_4 - 1)) < (((rd_T69 l0_2 x26_2).f1).length : Int) then (if ((Op.bytesLess (((rd_T72 ((rd_T69 l0_2 x26_2).f1) (wrap64 (x63_4 - 1))).f0).toList) (((rd_T72 ((rd_T69 l0_2 x26_2).f1) x63_4).f0).toList)) = true) then (spec_GoodWorld.l1 k4 l0_2 (l0_2.length : Int) x26_2 ((rd_T69 l0_2 x26_2).f1) (((rd_T69 l0_2 x26_2).f1).length : Int) (wrap64 (x63_4 + 1)) a0_0 a0_1 l0_2 ((rd_T69 l0_2 x26_2).f0) ((rd_T69 l0_2 x26_2).f1)) else (some false)) else (none)) else (none)) else (spec_GoodWorld.l1 k4 l0_2 (l0_2.length : Int) x26_2 ((rd_T69 l0_2 x26_2).f1) (((rd_T69 l0_2 x26_2).f1).length : Int) (wrap64 (x63_4 + 1)) a0_0 a0_1 l0_2 ((rd_T69 l0_2 x26_2).f0) ((rd_T69 l0_2 x26_2).f1))) else (some false))) else (some false)) = some r := H
                 have A45 := Aside0.mk A450
                 clear A450
                 by_cases c46 : t122 = true
                 ·subst c46
                  have H1 : ((spec_l1In.f ((rd_T72 ((rd_T69 l0_2 x26_2).f1) x63_4).f2) 0 a0_1).bind fun t123 => (if t123 = true then (if x63_4 > 0 then (if 0 ≤ (wrap64 (x63_4 - 1)) then (if (wrap64 (x63_4 - 1)) < (((rd_T69 l0_2 x26_2).f1).length : Int) then (if ((Op.bytesLess (((rd_T72 ((rd_T69 l0_2 x26_2).f1) (wrap64 (x63_4 - 1))).f0).toList) (((rd_T72 ((rd_T69 l0_2 x26_2).f1) x63_4).f0).toList)) = true) then (spec_GoodWorld.l1 k4 l0_2 (l0_2.length : Int) x26_2 ((rd_T69 l0_2 x26_2).f1) (((rd_T69 l0_2 x26_2).f1).length : Int) (wrap64 (x63_4 + 1)) a0_0 a0_1 l0_2 ((rd_T69 l0_2 x26_2).f0) ((rd_T69 l0_2 x26_2).f1)) else (some false)) else (none)) else (none)) else (spec_GoodWorld.l1 k4 l0_2 (l0_2.length : Int) x26_2 ((rd_T69 l0_2 x26_2).f1) (((rd_T69 l0_2 x26_2).f1).length : Int) (wrap64 (x63_4 + 1)) a0_0 a0_1 l0_2 ((rd_T69 l0_2 x26_2).f0) ((rd_T69 l0_2 x26_2).f1))) else (some false))) = some r := by rw [if_pos rfl] at H; exact H
                  clear H
                  have H := H1
                  clear H1
                  replace H := Option.bind_eq_some_iff.mp H
                  obtain ⟨t123, A470, H⟩ := H
                  replace H : (if t123 = true then (if x63_4 > 0 then (if 0 ≤ (wrap64 (x63_4 - 1)) then (if (wrap64 (x63_4 - 1)) < (((rd_T69 l0_2 x26_2).f1).length : Int) then (if ((Op.bytesLess (((rd_T72 ((rd_T69 l0_2 x26_2).f1) (wrap64 (x63_4 - 1))).f0).toList) (((rd_T72 ((rd_T69 l0_2 x26_2).f1) x63_4).f0).toList)) = true) then (spec_GoodWorld.l1 k4 l0_2 (l0_2.length : Int) x26_2 ((rd_T69 l0_2 x26_2).f1) (((rd_T69 l0_2 x26_2).f1).length : Int) (wrap64 (x63_4 + 1)) a0_0 a0_1 l0_2 ((rd_T69 l0_2 x26_2).f0) ((rd_T69 l0_2 x26_2).f1)) else (some false)) else (none)) else (none)) else (spec_GoodWorld.l1 k4 l0_2 (l0_2.length : Int) x26_2 ((rd_T69 l0_2 x26_2).f1) (((rd_T69 l0_2 x26_2).f1).length : Int) (wrap64 (x63_4 + 1)) a0_0 a0_1 l0_2 ((rd_T69 l0_2 x26_2).f0) ((rd_T69 l0_2 x26_2).f1))) else (some false)) = some r := H
                  have A47 := Aside0.mk A470
                  clear A470
                  by_cases c48 : t123 = true
                  ·subst c48
                   have H1 : (if x63_4 > 0 then (if 0 ≤ (wrap64 (x63_4 - 1)) then (if (wrap64 (x63_4 - 1)) < (((rd_T69 l0_2 x26_2).f1).length : Int) then (if ((Op.bytesLess (((rd_T72 ((rd_T69 l0_2 x26_2).f1) (wrap64 (x63_4 - 1))).f0).toList) (((rd_T72 ((rd_T69 l0_2 x26_2).f1) x63_4).f0).toList)) = true) then (spec_GoodWorld.l1 k4 l0_2 (l0_2.length : Int) x26_2 ((rd_T69 l0_2 x26_2).f1) (((rd_T69 l0_2 x26_2).f1).length : Int) (wrap64 (x63_4 + 1)) a0_0 a0_1 l0_2 ((rd_T69 l0_2 x26_2).f0) ((rd_T69 l0_2 x26_2).f1)) else (some false)) else (none)) else (none)) else (spec_GoodWorld.l1 k4 l0_2 (l0_2.length : Int) x26_2 ((rd_T69 l0_2 x26_2).f1) (((rd_T69 l0_2 x26_2).f1).length : Int) (wrap64 (x63_4 + 1)) a0_0 a0_1 l0_2 ((rd_T69 l0_2 x26_2).f0) ((rd_T69 l0_2 x26_2).f1))) = some r := by rw [if_pos rfl] at H; exact H
                   clear H
                   have H := H1
                   clear H1
                   by_cases c49 : x63_4 > 0
                   ·rw [if_pos c49] at H
                    have c49b0 : decide (0 < x63_4) = true := decide_eq_true c49
                    clear c49
                    obtain ⟨ji50, hji50⟩ : ∃ j_ : Int, (wrap64 (x63_4 - 1)) = j_ := ⟨_, rfl⟩
                    replace H : (if 0 ≤ (ji50) then (if (ji50) < (((rd_T69 l0_2 x26_2).f1).length : Int) then (if ((Op.bytesLess (((rd_T72 ((rd_T69 l0_2 x26_2).f1) (ji50)).f0).toList) (((rd_T72 ((rd_T69 l0_2 x26_2).f1) x63_4).f0).toList)) = true) then (spec_GoodWorld.l1 k4 l0_2 (l0_2.length : Int) x26_2 ((rd_T69 l0_2 x26_2).f1) (((rd_T69 l0_2 x26_2).f1).length : Int) (wrap64 (x63_4 + 1)) a0_0 a0_1 l0_2 ((rd_T69 l0_2 x26_2).f0) ((rd_T69 l0_2 x26_2).f1)) else (some false)) else (none)) else (none)) = some r := by first | (rw [hji50] at H; exact H) | (simp only [hji50] at H ⊢; exact H)
                    (try rw [hji50] at A45)
                    (try rw [hji50] at A47)
                    have hji50w : (IntKind.i64.wrap (x63_4 - 1)) = ji50 := (i64_w _).trans hji50
                    by_cases c51 : 0 ≤ (ji50)
                    ·rw [if_pos c51] at H
                     have c51b0 : decide (0 ≤ (ji50)) = true := decide_eq_true c51
                     clear c51
                     by_cases c52 : (ji50) < (((rd_T69 l0_2 x26_2).f1).length : Int)
                     ·rw [if_pos c52] at H
                      have c52b0 : decide ((ji50) < (((rd_T69 l0_2 x26_2).f1).length : Int)) = true := decide_eq_true c52
                      clear c52
                      by_cases c53 : ((Op.bytesLess (((rd_T72 ((rd_T69 l0_2 x26_2).f1) (ji50)).f0).toList) (((rd_T72 ((rd_T69 l0_2 x26_2).f1) x63_4).f0).toList)) = true)
                      ·rw [if_pos c53] at H
                       have c53b0 : (Op.bytesLess (((rd_T72 ((rd_T69 l0_2 x26_2).f1) (ji50)).f0).toList) (((rd_T72 ((rd_T69 l0_2 x26_2).f1) x63_4).f0).toList)) = true := c53
                       clear c53
                       have H' := Aside0.mk H
                       clear H
                       have p120 : 0 ≤ (x63_4 : Int) := odt
                       have q120 : x63_4 < (((rd_T69 l0_2 x26_2).f1).length : Int) := odt
                       obtain ⟨ad120, e120, hx120_0, hx120_1, hx120_2⟩ := at_T72 HR116_1.out x63_4 p120 q120
                       cases e120
                       replace hx120_0 := (HB.out.cell (World.block_lt_of_cell? w _ hx120_0)).trans hx120_0
                       replace hx120_1 := (HB.out.cell (World.block_lt_of_cell? w _ hx120_1)).trans hx120_1
                       replace hx120_2 := (HB.out.cell (World.block_lt_of_cell? w _ hx120_2)).trans hx120_2
                       replace p120 := eq_true p120
                       replace q120 := eq_true q120
                       go_wp2_with (first | ((with_reducible refine gate_dst (N := 6) rfl ?_); (try (refine gate_guard (by rfl) ?_; dsimp only)); refine box_event ?hg (N := 6) ?hd (cs := #[.string (⟨#[]⟩ : ByteArray), .int .i64 0, .int .i64 0]) (t := 72) ?hr ?_; (case hd => rfl); (case hg => rfl); (case hr => first | (go_simp; done) | (go_simp; rfl)); intro gb121 hg w54 hbox hb; have n0_ := Aside0.mk (blk_below (g := gb113) (o := .cells #[.int .i64 a0_0, .int .i64 a0_1, .slice (some ad116) l0_2.length c0_2] 31 (0, 0)) bkw hb); have n1_ := Aside0.mk (blk_below (g := gb117) (o := .cells #[.int .i64 ((rd_T69 l0_2 x26_2).f0), .slice (some ad120) ((rd_T69 l0_2 x26_2).f1).length c116_1] 69 (0, 0)) bkw hb); have n2_ := Aside0.mk (below_step blw hb); have n3_ := Aside0.mk (hbox); have n4_ := Aside0.mk ((by rw [hg]; exact (below_size blw) : w.heap.size ≤ gb121)); have n5_ := Aside0.mk ((by rw [hg]; exact (below_size blw) : w.heap.size ≤ gb121)); have n6_ := Aside0.mk ((by rw [hg]; exact Nat.ne_of_lt (blk_lt (g := gb113) (o := .cells #[.int .i64 a0_0, .int .i64 a0_1, .slice (some ad116) l0_2.length c0_2] 31 (0, 0)) bkw) : gb113 ≠ gb121)); have n7_ := Aside0.mk ((by rw [hg]; exact Nat.ne_of_gt (blk_lt (g := gb113) (o := .cells #[.int .i64 a0_0, .int .i64 a0_1, .slice (some ad116) l0_2.length c0_2] 31 (0, 0)) bkw) : gb121 ≠ gb113)); have n8_ := Aside0.mk ((by rw [hg]; exact Nat.ne_of_lt (blk_lt (g := gb117) (o := .cells #[.int .i64 ((rd_T69 l0_2 x26_2).f0), .slice (some ad120) ((rd_T69 l0_2 x26_2).f1).length c116_1] 69 (0, 0)) bkw) : gb117 ≠ gb121)); have n9_ := Aside0.mk ((by rw [hg]; exact Nat.ne_of_gt (blk_lt (g := gb117) (o := .cells #[.int .i64 ((rd_T69 l0_2 x26_2).f0), .slice (some ad120) ((rd_T69 l0_2 x26_2).f1).length c116_1] 69 (0, 0)) bkw) : gb121 ≠ gb117)); clear BK113; clear BK117; clear HB; have BK113 := n0_; have BK117 := n1_; have HB := n2_; have BK121 := n3_; have GW121 := n4_; have GE121 := n5_; have NB113_121 := n6_; have NB121_113 := n7_; have NB117_121 := n8_; have NB121_117 := n9_; clear n0_ n1_ n2_ n3_ n4_ n5_ n6_ n7_ n8_ n9_; clear hb hbox hg; have hnb55 := NB121_113.out; have hnc55 := NB113_121.out; have hnb56 := NB121_117.out; have hnc56 := NB117_121.out; have hcz57_0 : w54.cell? ⟨gb121, 0, none⟩ = some (.string (⟨#[]⟩ : ByteArray)) := (blk_cell BK121.out 0).trans rfl; have hcz57_1 : w54.cell? ⟨gb121, 1, none⟩ = some (.int .i64 0) := (blk_cell BK121.out 1).trans rfl; have hcz57_2 : w54.cell? ⟨gb121, 2, none⟩ = some (.int .i64 0) := (blk_cell BK121.out 2).trans rfl; have hfz57_0 := blk_frozen BK121.out 0; have hfz57_1 := blk_frozen BK121.out 1; have hfz57_2 := blk_frozen BK121.out 2; have hnb58 := NB113_117.out; have hnc58 := NB117_113.out; have hcz59_0 : w54.cell? ⟨gb113, 0, none⟩ = some (.int .i64 a0_0) := (blk_cell BK113.out 0).trans rfl; have hcz59_1 : w54.cell? ⟨gb113, 1, none⟩ = some (.int .i64 a0_1) := (blk_cell BK113.out 1).trans rfl; have hcz59_2 : w54.cell? ⟨gb113, 2, none⟩ = some (.slice (some ad116) l0_2.length c0_2) := (blk_cell BK113.out 2).trans rfl; have hfz59_0 := blk_frozen BK113.out 0; have hfz59_1 := blk_frozen BK113.out 1; have hfz59_2 := blk_frozen BK113.out 2) | (go_at_call 87; (with_reducible refine (spec_GoodName.calls k4 ((rd_T72 ((rd_T69 l0_2 x26_2).f1) x63_4).f0) true _ A45.out).mono ?_); rintro e w' ⟨rfl, ⟨nd, rfl⟩⟩; (try first | exact ⟨rfl, _, World.drewN_drewN _ _ _⟩ | exact ⟨rfl, _, Eq.trans (World.drewN_drewN _ _ _) (congrArg (World.drewN _) (Nat.add_assoc _ _ _))⟩)) | (go_at_call 55; (with_reducible refine (spec_l1In.calls ((rd_T72 ((rd_T69 l0_2 x26_2).f1) x63_4).f2) 0 a0_1 true _ A47.out).mono ?_); rintro e w' ⟨rfl, ⟨nd, rfl⟩⟩; (try first | exact ⟨rfl, _, World.drewN_drewN _ _ _⟩ | exact ⟨rfl, _, Eq.trans (World.drewN_drewN _ _ _) (congrArg (World.drewN _) (Nat.add_assoc _ _ _))⟩); have hcz60_0 : w54.cell? ⟨gb117, 0, none⟩ = some (.int .i64 ((rd_T69 l0_2 x26_2).f0)) := (blk_cell BK117.out 0).trans rfl; have hcz60_1 : w54.cell? ⟨gb117, 1, none⟩ = some (.slice (some ad120) ((rd_T69 l0_2 x26_2).f1).length c116_1) := (blk_cell BK117.out 1).trans rfl; have hfz60_0 := blk_frozen BK117.out 0; have hfz60_1 := blk_frozen BK117.out 1; have p124 : 0 ≤ ((ji50) : Int) := odt; have q124 : (ji50) < (((rd_T69 l0_2 x26_2).f1).length : Int) := odt; obtain ⟨ad124, e124, hx124_0, hx124_1, hx124_2⟩ := at_T72 HR116_1.out (ji50) p124 q124; obtain rfl : ad120 = ad124 := (by injection e124); have hn124_0 : ad120.block ≠ gb121 := Nat.ne_of_lt (Nat.lt_of_lt_of_le (by have := World.block_lt_of_cell? _ _ hx124_0; first | rwa [add_block] at this | exact this) GW121.out); have hn124_1 : ad120.block ≠ gb121 := Nat.ne_of_lt (Nat.lt_of_lt_of_le (by have := World.block_lt_of_cell? _ _ hx124_0; first | rwa [add_block] at this | exact this) GW121.out); have hn124_2 : ad120.block ≠ gb121 := Nat.ne_of_lt (Nat.lt_of_lt_of_le (by have := World.block_lt_of_cell? _ _ hx124_0; first | rwa [add_block] at this | exact this) GW121.out); replace hx124_0 := (HB.out.cell (World.block_lt_of_cell? w _ hx124_0)).trans hx124_0; replace hx124_1 := (HB.out.cell (World.block_lt_of_cell? w _ hx124_1)).trans hx124_1; replace hx124_2 := (HB.out.cell (World.block_lt_of_cell? w _ hx124_2)).trans hx124_2; replace hx124_0 := (cell_far (p := ⟨gb121, 0, none⟩) (by first | (rw [add_block]; exact hn124_0) | (show (Addr.add _ _).block ≠ _; rw [add_block]; exact hn124_0) | exact hn124_0) (.string ((rd_T72 ((rd_T69 l0_2 x26_2).f1) x63_4).f0))).trans hx124_0; replace hx124_1 := (cell_far (p := ⟨gb121, 0, none⟩) (by first | (rw [add_block]; exact hn124_0) | (show (Addr.add _ _).block ≠ _; rw [add_block]; exact hn124_0) | exact hn124_0) (.string ((rd_T72 ((rd_T69 l0_2 x26_2).f1) x63_4).f0))).trans hx124_1; replace hx124_2 := (cell_far (p := ⟨gb121, 0, none⟩) (by first | (rw [add_block]; exact hn124_0) | (show (Addr.add _ _).block ≠ _; rw [add_block]; exact hn124_0) | exact hn124_0) (.string ((rd_T72 ((rd_T69 l0_2 x26_2).f1) x63_4).f0))).trans hx124_2; replace hx124_0 := (cell_far (p := ⟨gb121, 1, none⟩) (by first | (rw [add_block]; exact hn124_1) | (show (Addr.add _ _).block ≠ _; rw [add_block]; exact hn124_1) | exact hn124_1) (.int .i64 ((rd_T72 ((rd_T69 l0_2 x26_2).f1) x63_4).f1))).trans hx124_0; replace hx124_1 := (cell_far (p := ⟨gb121, 1, none⟩) (by first | (rw [add_block]; exact hn124_1) | (show (Addr.add _ _).block ≠ _; rw [add_block]; exact hn124_1) | exact hn124_1) (.int .i64 ((rd_T72 ((rd_T69 l0_2 x26_2).f1) x63_4).f1))).trans hx124_1; replace hx124_2 := (cell_far (p := ⟨gb121, 1, none⟩) (by first | (rw [add_block]; exact hn124_1) | (show (Addr.add _ _).block ≠ _; rw [add_block]; exact hn124_1) | exact hn124_1) (.int .i64 ((rd_T72 ((rd_T69 l0_2 x26_2).f1) x63_4).f1))).trans hx124_2; replace hx124_0 := (cell_far (p := ⟨gb121, 2, none⟩) (by first | (rw [add_block]; exact hn124_2) | (show (Addr.add _ _).block ≠ _; rw [add_block]; exact hn124_2) | exact hn124_2) (.int .i64 ((rd_T72 ((rd_T69 l0_2 x26_2).f1) x63_4).f2))).trans hx124_0; replace hx124_1 := (cell_far (p := ⟨gb121, 2, none⟩) (by first | (rw [add_block]; exact hn124_2) | (show (Addr.add _ _).block ≠ _; rw [add_block]; exact hn124_2) | exact hn124_2) (.int .i64 ((rd_T72 ((rd_T69 l0_2 x26_2).f1) x63_4).f2))).trans hx124_1; replace hx124_2 := (cell_far (p := ⟨gb121, 2, none⟩) (by first | (rw [add_block]; exact hn124_2) | (show (Addr.add _ _).block ≠ _; rw [add_block]; exact hn124_2) | exact hn124_2) (.int .i64 ((rd_T72 ((rd_T69 l0_2 x26_2).f1) x63_4).f2))).trans hx124_2; (try have hy124_0 := fun (n_ : Nat) => (show (((((w54.drewN n_).setCell ⟨gb121, 0, none⟩ (.string ((rd_T72 ((rd_T69 l0_2 x26_2).f1) x63_4).f0))).setCell ⟨gb121, 1, none⟩ (.int .i64 ((rd_T72 ((rd_T69 l0_2 x26_2).f1) x63_4).f1))).setCell ⟨gb121, 2, none⟩ (.int .i64 ((rd_T72 ((rd_T69 l0_2 x26_2).f1) x63_4).f2)))).cell? _ = some _ from hx124_0)); (try have hy124_1 := fun (n_ : Nat) => (show (((((w54.drewN n_).setCell ⟨gb121, 0, none⟩ (.string ((rd_T72 ((rd_T69 l0_2 x26_2).f1) x63_4).f0))).setCell ⟨gb121, 1, none⟩ (.int .i64 ((rd_T72 ((rd_T69 l0_2 x26_2).f1) x63_4).f1))).setCell ⟨gb121, 2, none⟩ (.int .i64 ((rd_T72 ((rd_T69 l0_2 x26_2).f1) x63_4).f2)))).cell? _ = some _ from hx124_1)); (try have hy124_2 := fun (n_ : Nat) => (show (((((w54.drewN n_).setCell ⟨gb121, 0, none⟩ (.string ((rd_T72 ((rd_T69 l0_2 x26_2).f1) x63_4).f0))).setCell ⟨gb121, 1, none⟩ (.int .i64 ((rd_T72 ((rd_T69 l0_2 x26_2).f1) x63_4).f1))).setCell ⟨gb121, 2, none⟩ (.int .i64 ((rd_T72 ((rd_T69 l0_2 x26_2).f1) x63_4).f2)))).cell? _ = some _ from hx124_2)); clear hn124_0; clear hn124_1; clear hn124_2; replace p124 := eq_true p124; replace q124 := eq_true q124))
                       repeat (go_quiet (first | ((with_reducible refine gate_dst (N := 6) rfl ?_); (try (refine gate_guard (by rfl) ?_; dsimp only)); refine box_event ?hg (N := 6) ?hd (cs := #[.string (⟨#[]⟩ : ByteArray), .int .i64 0, .int .i64 0]) (t := 72) ?hr ?_; (case hd => rfl); (case hg => rfl); (case hr => first | (go_simp; done) | (go_simp; rfl)); intro gb121 hg w54 hbox hb; have n0_ := Aside0.mk (blk_below (g := gb113) (o := .cells #[.int .i64 a0_0, .int .i64 a0_1, .slice (some ad116) l0_2.length c0_2] 31 (0, 0)) bkw hb); have n1_ := Aside0.mk (blk_below (g := gb117) (o := .cells #[.int .i64 ((rd_T69 l0_2 x26_2).f0), .slice (some ad120) ((rd_T69 l0_2 x26_2).f1).length c116_1] 69 (0, 0)) bkw hb); have n2_ := Aside0.mk (below_step blw hb); have n3_ := Aside0.mk (hbox); have n4_ := Aside0.mk ((by rw [hg]; exact (below_size blw) : w.heap.size ≤ gb121)); have n5_ := Aside0.mk ((by rw [hg]; exact (below_size blw) : w.heap.size ≤ gb121)); have n6_ := Aside0.mk ((by rw [hg]; exact Nat.ne_of_lt (blk_lt (g := gb113) (o := .cells #[.int .i64 a0_0, .int .i64 a0_1, .slice (some ad116) l0_2.length c0_2] 31 (0, 0)) bkw) : gb113 ≠ gb121)); have n7_ := Aside0.mk ((by rw [hg]; exact Nat.ne_of_gt (blk_lt (g := gb113) (o := .cells #[.int .i64 a0_0, .int .i64 a0_1, .slice (some ad116) l0_2.length c0_2] 31 (0, 0)) bkw) : gb121 ≠ gb113)); have n8_ := Aside0.mk ((by rw [hg]; exact Nat.ne_of_lt (blk_lt (g := gb117) (o := .cells #[.int .i64 ((rd_T69 l0_2 x26_2).f0), .slice (some ad120) ((rd_T69 l0_2 x26_2).f1).length c116_1] 69 (0, 0)) bkw) : gb117 ≠ gb121)); have n9_ := Aside0.mk ((by rw [hg]; exact Nat.ne_of_gt (blk_lt (g := gb117) (o := .cells #[.int .i64 ((rd_T69 l0_2 x26_2).f0), .slice (some ad120) ((rd_T69 l0_2 x26_2).f1).length c116_1] 69 (0, 0)) bkw) : gb121 ≠ gb117)); clear BK113; clear BK117; clear HB; have BK113 := n0_; have BK117 := n1_; have HB := n2_; have BK121 := n3_; have GW121 := n4_; have GE121 := n5_; have NB113_121 := n6_; have NB121_113 := n7_; have NB117_121 := n8_; have NB121_117 := n9_; clear n0_ n1_ n2_ n3_ n4_ n5_ n6_ n7_ n8_ n9_; clear hb hbox hg; have hnb55 := NB121_113.out; have hnc55 := NB113_121.out; have hnb56 := NB121_117.out; have hnc56 := NB117_121.out; have hcz57_0 : w54.cell? ⟨gb121, 0, none⟩ = some (.string (⟨#[]⟩ : ByteArray)) := (blk_cell BK121.out 0).trans rfl; have hcz57_1 : w54.cell? ⟨gb121, 1, none⟩ = some (.int .i64 0) := (blk_cell BK121.out 1).trans rfl; have hcz57_2 : w54.cell? ⟨gb121, 2, none⟩ = some (.int .i64 0) := (blk_cell BK121.out 2).trans rfl; have hfz57_0 := blk_frozen BK121.out 0; have hfz57_1 := blk_frozen BK121.out 1; have hfz57_2 := blk_frozen BK121.out 2; have hnb58 := NB113_117.out; have hnc58 := NB117_113.out; have hcz59_0 : w54.cell? ⟨gb113, 0, none⟩ = some (.int .i64 a0_0) := (blk_cell BK113.out 0).trans rfl; have hcz59_1 : w54.cell? ⟨gb113, 1, none⟩ = some (.int .i64 a0_1) := (blk_cell BK113.out 1).trans rfl; have hcz59_2 : w54.cell? ⟨gb113, 2, none⟩ = some (.slice (some ad116) l0_2.length c0_2) := (blk_cell BK113.out 2).trans rfl; have hfz59_0 := blk_frozen BK113.out 0; have hfz59_1 := blk_frozen BK113.out 1; have hfz59_2 := blk_frozen BK113.out 2) | (go_at_call 87; (with_reducible refine (spec_GoodName.calls k4 ((rd_T72 ((rd_T69 l0_2 x26_2).f1) x63_4).f0) true _ A45.out).mono ?_); rintro e w' ⟨rfl, ⟨nd, rfl⟩⟩; (try first | exact ⟨rfl, _, World.drewN_drewN _ _ _⟩ | exact ⟨rfl, _, Eq.trans (World.drewN_drewN _ _ _) (congrArg (World.drewN _) (Nat.add_assoc _ _ _))⟩)) | (go_at_call 55; (with_reducible refine (spec_l1In.calls ((rd_T72 ((rd_T69 l0_2 x26_2).f1) x63_4).f2) 0 a0_1 true _ A47.out).mono ?_); rintro e w' ⟨rfl, ⟨nd, rfl⟩⟩; (try first | exact ⟨rfl, _, World.drewN_drewN _ _ _⟩ | exact ⟨rfl, _, Eq.trans (World.drewN_drewN _ _ _) (congrArg (World.drewN _) (Nat.add_assoc _ _ _))⟩); have hcz60_0 : w54.cell? ⟨gb117, 0, none⟩ = some (.int .i64 ((rd_T69 l0_2 x26_2).f0)) := (blk_cell BK117.out 0).trans rfl; have hcz60_1 : w54.cell? ⟨gb117, 1, none⟩ = some (.slice (some ad120) ((rd_T69 l0_2 x26_2).f1).length c116_1) := (blk_cell BK117.out 1).trans rfl; have hfz60_0 := blk_frozen BK117.out 0; have hfz60_1 := blk_frozen BK117.out 1; have p124 : 0 ≤ ((ji50) : Int) := odt; have q124 : (ji50) < (((rd_T69 l0_2 x26_2).f1).length : Int) := odt; obtain ⟨ad124, e124, hx124_0, hx124_1, hx124_2⟩ := at_T72 HR116_1.out (ji50) p124 q124; obtain rfl : ad120 = ad124 := (by injection e124); have hn124_0 : ad120.block ≠ gb121 := Nat.ne_of_lt (Nat.lt_of_lt_of_le (by have := World.block_lt_of_cell? _ _ hx124_0; first | rwa [add_block] at this | exact this) GW121.out); have hn124_1 : ad120.block ≠ gb121 := Nat.ne_of_lt (Nat.lt_of_lt_of_le (by have := World.block_lt_of_cell? _ _ hx124_0; first | rwa [add_block] at this | exact this) GW121.out); have hn124_2 : ad120.block ≠ gb121 := Nat.ne_of_lt (Nat.lt_of_lt_of_le (by have := World.block_lt_of_cell? _ _ hx124_0; first | rwa [add_block] at this | exact this) GW121.out); replace hx124_0 := (HB.out.cell (World.block_lt_of_cell? w _ hx124_0)).trans hx124_0; replace hx124_1 := (HB.out.cell (World.block_lt_of_cell? w _ hx124_1)).trans hx124_1; replace hx124_2 := (HB.out.cell (World.block_lt_of_cell? w _ hx124_2)).trans hx124_2; replace hx124_0 := (cell_far (p := ⟨gb121, 0, none⟩) (by first | (rw [add_block]; exact hn124_0) | (show (Addr.add _ _).block ≠ _; rw [add_block]; exact hn124_0) | exact hn124_0) (.string ((rd_T72 ((rd_T69 l0_2 x26_2).f1) x63_4).f0))).trans hx124_0; replace hx124_1 := (cell_far (p := ⟨gb121, 0, none⟩) (by first | (rw [add_block]; exact hn124_0) | (show (Addr.add _ _).block ≠ _; rw [add_block]; exact hn124_0) | exact hn124_0) (.string ((rd_T72 ((rd_T69 l0_2 x26_2).f1) x63_4).f0))).trans hx124_1; replace hx124_2 := (cell_far (p := ⟨gb121, 0, none⟩) (by first | (rw [add_block]; exact hn124_0) | (show (Addr.add _ _).block ≠ _; rw [add_block]; exact hn124_0) | exact hn124_0) (.string ((rd_T72 ((rd_T69 l0_2 x26_2).f1) x63_4).f0))).trans hx124_2; replace hx124_0 := (cell_far (p := ⟨gb121, 1, none⟩) (by first | (rw [add_block]; exact hn124_1) | (show (Addr.add _ _).block ≠ _; rw [add_block]; exact hn124_1) | exact hn124_1) (.int .i64 ((rd_T72 ((rd_T69 l0_2 x26_2).f1) x63_4).f1))).trans hx124_0; replace hx124_1 := (cell_far (p := ⟨gb121, 1, none⟩) (by first | (rw [add_block]; exact hn124_1) | (show (Addr.add _ _).block ≠ _; rw [add_block]; exact hn124_1) | exact hn124_1) (.int .i64 ((rd_T72 ((rd_T69 l0_2 x26_2).f1) x63_4).f1))).trans hx124_1; replace hx124_2 := (cell_far (p := ⟨gb121, 1, none⟩) (by first | (rw [add_block]; exact hn124_1) | (show (Addr.add _ _).block ≠ _; rw [add_block]; exact hn124_1) | exact hn124_1) (.int .i64 ((rd_T72 ((rd_T69 l0_2 x26_2).f1) x63_4).f1))).trans hx124_2; replace hx124_0 := (cell_far (p := ⟨gb121, 2, none⟩) (by first | (rw [add_block]; exact hn124_2) | (show (Addr.add _ _).block ≠ _; rw [add_block]; exact hn124_2) | exact hn124_2) (.int .i64 ((rd_T72 ((rd_T69 l0_2 x26_2).f1) x63_4).f2))).trans hx124_0; replace hx124_1 := (cell_far (p := ⟨gb121, 2, none⟩) (by first | (rw [add_block]; exact hn124_2) | (show (Addr.add _ _).block ≠ _; rw [add_block]; exact hn124_2) | exact hn124_2) (.int .i64 ((rd_T72 ((rd_T69 l0_2 x26_2).f1) x63_4).f2))).trans hx124_1; replace hx124_2 := (cell_far (p := ⟨gb121, 2, none⟩) (by first | (rw [add_block]; exact hn124_2) | (show (Addr.add _ _).block ≠ _; rw [add_block]; exact hn124_2) | exact hn124_2) (.int .i64 ((rd_T72 ((rd_T69 l0_2 x26_2).f1) x63_4).f2))).trans hx124_2; (try have hy124_0 := fun (n_ : Nat) => (show (((((w54.drewN n_).setCell ⟨gb121, 0, none⟩ (.string ((rd_T72 ((rd_T69 l0_2 x26_2).f1) x63_4).f0))).setCell ⟨gb121, 1, none⟩ (.int .i64 ((rd_T72 ((rd_T69 l0_2 x26_2).f1) x63_4).f1))).setCell ⟨gb121, 2, none⟩ (.int .i64 ((rd_T72 ((rd_T69 l0_2 x26_2).f1) x63_4).f2)))).cell? _ = some _ from hx124_0)); (try have hy124_1 := fun (n_ : Nat) => (show (((((w54.drewN n_).setCell ⟨gb121, 0, none⟩ (.string ((rd_T72 ((rd_T69 l0_2 x26_2).f1) x63_4).f0))).setCell ⟨gb121, 1, none⟩ (.int .i64 ((rd_T72 ((rd_T69 l0_2 x26_2).f1) x63_4).f1))).setCell ⟨gb121, 2, none⟩ (.int .i64 ((rd_T72 ((rd_T69 l0_2 x26_2).f1) x63_4).f2)))).cell? _ = some _ from hx124_1)); (try have hy124_2 := fun (n_ : Nat) => (show (((((w54.drewN n_).setCell ⟨gb121, 0, none⟩ (.string ((rd_T72 ((rd_T69 l0_2 x26_2).f1) x63_4).f0))).setCell ⟨gb121, 1, none⟩ (.int .i64 ((rd_T72 ((rd_T69 l0_2 x26_2).f1) x63_4).f1))).setCell ⟨gb121, 2, none⟩ (.int .i64 ((rd_T72 ((rd_T69 l0_2 x26_2).f1) x63_4).f2)))).cell? _ = some _ from hx124_2)); clear hn124_0; clear hn124_1; clear hn124_2; replace p124 := eq_true p124; replace q124 := eq_true q124)); try go_wp2_with (first | ((with_reducible refine gate_dst (N := 6) rfl ?_); (try (refine gate_guard (by rfl) ?_; dsimp only)); refine box_event ?hg (N := 6) ?hd (cs := #[.string (⟨#[]⟩ : ByteArray), .int .i64 0, .int .i64 0]) (t := 72) ?hr ?_; (case hd => rfl); (case hg => rfl); (case hr => first | (go_simp; done) | (go_simp; rfl)); intro gb121 hg w54 hbox hb; have n0_ := Aside0.mk (blk_below (g := gb113) (o := .cells #[.int .i64 a0_0, .int .i64 a0_1, .slice (some ad116) l0_2.length c0_2] 31 (0, 0)) bkw hb); have n1_ := Aside0.mk (blk_below (g := gb117) (o := .cells #[.int .i64 ((rd_T69 l0_2 x26_2).f0), .slice (some ad120) ((rd_T69 l0_2 x26_2).f1).length c116_1] 69 (0, 0)) bkw hb); have n2_ := Aside0.mk (below_step blw hb); have n3_ := Aside0.mk (hbox); have n4_ := Aside0.mk ((by rw [hg]; exact (below_size blw) : w.heap.size ≤ gb121)); have n5_ := Aside0.mk ((by rw [hg]; exact (below_size blw) : w.heap.size ≤ gb121)); have n6_ := Aside0.mk ((by rw [hg]; exact Nat.ne_of_lt (blk_lt (g := gb113) (o := .cells #[.int .i64 a0_0, .int .i64 a0_1, .slice (some ad116) l0_2.length c0_2] 31 (0, 0)) bkw) : gb113 ≠ gb121)); have n7_ := Aside0.mk ((by rw [hg]; exact Nat.ne_of_gt (blk_lt (g := gb113) (o := .cells #[.int .i64 a0_0, .int .i64 a0_1, .slice (some ad116) l0_2.length c0_2] 31 (0, 0)) bkw) : gb121 ≠ gb113)); have n8_ := Aside0.mk ((by rw [hg]; exact Nat.ne_of_lt (blk_lt (g := gb117) (o := .cells #[.int .i64 ((rd_T69 l0_2 x26_2).f0), .slice (some ad120) ((rd_T69 l0_2 x26_2).f1).length c116_1] 69 (0, 0)) bkw) : gb117 ≠ gb121)); have n9_ := Aside0.mk ((by rw [hg]; exact Nat.ne_of_gt (blk_lt (g := gb117) (o := .cells #[.int .i64 ((rd_T69 l0_2 x26_2).f0), .slice (some ad120) ((rd_T69 l0_2 x26_2).f1).length c116_1] 69 (0, 0)) bkw) : gb121 ≠ gb117)); clear BK113; clear BK117; clear HB; have BK113 := n0_; have BK117 := n1_; have HB := n2_; have BK121 := n3_; have GW121 := n4_; have GE121 := n5_; have NB113_121 := n6_; have NB121_113 := n7_; have NB117_121 := n8_; have NB121_117 := n9_; clear n0_ n1_ n2_ n3_ n4_ n5_ n6_ n7_ n8_ n9_; clear hb hbox hg; have hnb55 := NB121_113.out; have hnc55 := NB113_121.out; have hnb56 := NB121_117.out; have hnc56 := NB117_121.out; have hcz57_0 : w54.cell? ⟨gb121, 0, none⟩ = some (.string (⟨#[]⟩ : ByteArray)) := (blk_cell BK121.out 0).trans rfl; have hcz57_1 : w54.cell? ⟨gb121, 1, none⟩ = some (.int .i64 0) := (blk_cell BK121.out 1).trans rfl; have hcz57_2 : w54.cell? ⟨gb121, 2, none⟩ = some (.int .i64 0) := (blk_cell BK121.out 2).trans rfl; have hfz57_0 := blk_frozen BK121.out 0; have hfz57_1 := blk_frozen BK121.out 1; have hfz57_2 := blk_frozen BK121.out 2) | (go_at_call 87; (with_reducible refine (spec_GoodName.calls k4 ((rd_T72 ((rd_T69 l0_2 x26_2).f1) x63_4).f0) true _ A45.out).mono ?_); rintro e w' ⟨rfl, ⟨nd, rfl⟩⟩; (try first | exact ⟨rfl, _, World.drewN_drewN _ _ _⟩ | exact ⟨rfl, _, Eq.trans (World.drewN_drewN _ _ _) (congrArg (World.drewN _) (Nat.add_assoc _ _ _))⟩); have hnb58 := NB113_117.out; have hnc58 := NB117_113.out; have hcz59_0 : w54.cell? ⟨gb113, 0, none⟩ = some (.int .i64 a0_0) := (blk_cell BK113.out 0).trans rfl; have hcz59_1 : w54.cell? ⟨gb113, 1, none⟩ = some (.int .i64 a0_1) := (blk_cell BK113.out 1).trans rfl; have hcz59_2 : w54.cell? ⟨gb113, 2, none⟩ = some (.slice (some ad116) l0_2.length c0_2) := (blk_cell BK113.out 2).trans rfl; have hfz59_0 := blk_frozen BK113.out 0; have hfz59_1 := blk_frozen BK113.out 1; have hfz59_2 := blk_frozen BK113.out 2) | (go_at_call 55; (with_reducible refine (spec_l1In.calls ((rd_T72 ((rd_T69 l0_2 x26_2).f1) x63_4).f2) 0 a0_1 true _ A47.out).mono ?_); rintro e w' ⟨rfl, ⟨nd, rfl⟩⟩; (try first | exact ⟨rfl, _, World.drewN_drewN _ _ _⟩ | exact ⟨rfl, _, Eq.trans (World.drewN_drewN _ _ _) (congrArg (World.drewN _) (Nat.add_assoc _ _ _))⟩); have hcz60_0 : w54.cell? ⟨gb117, 0, none⟩ = some (.int .i64 ((rd_T69 l0_2 x26_2).f0)) := (blk_cell BK117.out 0).trans rfl; have hcz60_1 : w54.cell? ⟨gb117, 1, none⟩ = some (.slice (some ad120) ((rd_T69 l0_2 x26_2).f1).length c116_1) := (blk_cell BK117.out 1).trans rfl; have hfz60_0 := blk_frozen BK117.out 0; have hfz60_1 := blk_frozen BK117.out 1; have p124 : 0 ≤ ((ji50) : Int) := odt; have q124 : (ji50) < (((rd_T69 l0_2 x26_2).f1).length : Int) := odt; obtain ⟨ad124, e124, hx124_0, hx124_1, hx124_2⟩ := at_T72 HR116_1.out (ji50) p124 q124; obtain rfl : ad120 = ad124 := (by injection e124); have hn124_0 : ad120.block ≠ gb121 := Nat.ne_of_lt (Nat.lt_of_lt_of_le (by have := World.block_lt_of_cell? _ _ hx124_0; first | rwa [add_block] at this | exact this) GW121.out); have hn124_1 : ad120.block ≠ gb121 := Nat.ne_of_lt (Nat.lt_of_lt_of_le (by have := World.block_lt_of_cell? _ _ hx124_0; first | rwa [add_block] at this | exact this) GW121.out); have hn124_2 : ad120.block ≠ gb121 := Nat.ne_of_lt (Nat.lt_of_lt_of_le (by have := World.block_lt_of_cell? _ _ hx124_0; first | rwa [add_block] at this | exact this) GW121.out); replace hx124_0 := (HB.out.cell (World.block_lt_of_cell? w _ hx124_0)).trans hx124_0; replace hx124_1 := (HB.out.cell (World.block_lt_of_cell? w _ hx124_1)).trans hx124_1; replace hx124_2 := (HB.out.cell (World.block_lt_of_cell? w _ hx124_2)).trans hx124_2; replace hx124_0 := (cell_far (p := ⟨gb121, 0, none⟩) (by first | (rw [add_block]; exact hn124_0) | (show (Addr.add _ _).block ≠ _; rw [add_block]; exact hn124_0) | exact hn124_0) (.string ((rd_T72 ((rd_T69 l0_2 x26_2).f1) x63_4).f0))).trans hx124_0; replace hx124_1 := (cell_far (p := ⟨gb121, 0, none⟩) (by first | (rw [add_block]; exact hn124_0) | (show (Addr.add _ _).block ≠ _; rw [add_block]; exact hn124_0) | exact hn124_0) (.string ((rd_T72 ((rd_T69 l0_2 x26_2).f1) x63_4).f0))).trans hx124_1; replace hx124_2 := (cell_far (p := ⟨gb121, 0, none⟩) (by first | (rw [add_block]; exact hn124_0) | (show (Addr.add _ _).block ≠ _; rw [add_block]; exact hn124_0) | exact hn124_0) (.string ((rd_T72 ((rd_T69 l0_2 x26_2).f1) x63_4).f0))).trans hx124_2; replace hx124_0 := (cell_far (p := ⟨gb121, 1, none⟩) (by first | (rw [add_block]; exact hn124_1) | (show (Addr.add _ _).block ≠ _; rw [add_block]; exact hn124_1) | exact hn124_1) (.int .i64 ((rd_T72 ((rd_T69 l0_2 x26_2).f1) x63_4).f1))).trans hx124_0; replace hx124_1 := (cell_far (p := ⟨gb121, 1, none⟩) (by first | (rw [add_block]; exact hn124_1) | (show (Addr.add _ _).block ≠ _; rw [add_block]; exact hn124_1) | exact hn124_1) (.int .i64 ((rd_T72 ((rd_T69 l0_2 x26_2).f1) x63_4).f1))).trans hx124_1; replace hx124_2 := (cell_far (p := ⟨gb121, 1, none⟩) (by first | (rw [add_block]; exact hn124_1) | (show (Addr.add _ _).block ≠ _; rw [add_block]; exact hn124_1) | exact hn124_1) (.int .i64 ((rd_T72 ((rd_T69 l0_2 x26_2).f1) x63_4).f1))).trans hx124_2; replace hx124_0 := (cell_far (p := ⟨gb121, 2, none⟩) (by first | (rw [add_block]; exact hn124_2) | (show (Addr.add _ _).block ≠ _; rw [add_block]; exact hn124_2) | exact hn124_2) (.int .i64 ((rd_T72 ((rd_T69 l0_2 x26_2).f1) x63_4).f2))).trans hx124_0; replace hx124_1 := (cell_far (p := ⟨gb121, 2, none⟩) (by first | (rw [add_block]; exact hn124_2) | (show (Addr.add _ _).block ≠ _; rw [add_block]; exact hn124_2) | exact hn124_2) (.int .i64 ((rd_T72 ((rd_T69 l0_2 x26_2).f1) x63_4).f2))).trans hx124_1; replace hx124_2 := (cell_far (p := ⟨gb121, 2, none⟩) (by first | (rw [add_block]; exact hn124_2) | (show (Addr.add _ _).block ≠ _; rw [add_block]; exact hn124_2) | exact hn124_2) (.int .i64 ((rd_T72 ((rd_T69 l0_2 x26_2).f1) x63_4).f2))).trans hx124_2; (try have hy124_0 := fun (n_ : Nat) => (show (((((w54.drewN n_).setCell ⟨gb121, 0, none⟩ (.string ((rd_T72 ((rd_T69 l0_2 x26_2).f1) x63_4).f0))).setCell ⟨gb121, 1, none⟩ (.int .i64 ((rd_T72 ((rd_T69 l0_2 x26_2).f1) x63_4).f1))).setCell ⟨gb121, 2, none⟩ (.int .i64 ((rd_T72 ((rd_T69 l0_2 x26_2).f1) x63_4).f2)))).cell? _ = some _ from hx124_0)); (try have hy124_1 := fun (n_ : Nat) => (show (((((w54.drewN n_).setCell ⟨gb121, 0, none⟩ (.string ((rd_T72 ((rd_T69 l0_2 x26_2).f1) x63_4).f0))).setCell ⟨gb121, 1, none⟩ (.int .i64 ((rd_T72 ((rd_T69 l0_2 x26_2).f1) x63_4).f1))).setCell ⟨gb121, 2, none⟩ (.int .i64 ((rd_T72 ((rd_T69 l0_2 x26_2).f1) x63_4).f2)))).cell? _ = some _ from hx124_1)); (try have hy124_2 := fun (n_ : Nat) => (show (((((w54.drewN n_).setCell ⟨gb121, 0, none⟩ (.string ((rd_T72 ((rd_T69 l0_2 x26_2).f1) x63_4).f0))).setCell ⟨gb121, 1, none⟩ (.int .i64 ((rd_T72 ((rd_T69 l0_2 x26_2).f1) x63_4).f1))).setCell ⟨gb121, 2, none⟩ (.int .i64 ((rd_T72 ((rd_T69 l0_2 x26_2).f1) x63_4).f2)))).cell? _ = some _ from hx124_2)); clear hn124_0; clear hn124_1; clear hn124_2; replace p124 := eq_true p124; replace q124 := eq_true q124)))
                       go_roundg k4
                       case measure => have := HJ1.out; have := HK2.out; have := HJ15.out; have := HK4.out; omega
                       case rel => exact ⟨(wrap64 (x63_4 + 1)), (by first | rfl | (simp; done) | (simp [*]; done)), H', ⟨by have := HJ1.out; have := HK2.out; have := HJ15.out; have := HK4.out; omega⟩, ⟨by (with_reducible repeat (first | refine blk_drewN ?_ _ | refine blk_drew ?_ | refine blk_alloc ?_ _)); refine blk_far ?_ NB113_121.out _; (with_reducible repeat (first | refine blk_drewN ?_ _ | refine blk_drew ?_ | refine blk_alloc ?_ _)); refine blk_far ?_ NB113_121.out _; (with_reducible repeat (first | refine blk_drewN ?_ _ | refine blk_drew ?_ | refine blk_alloc ?_ _)); refine blk_far ?_ NB113_121.out _; (with_reducible repeat (first | refine blk_drewN ?_ _ | refine blk_drew ?_ | refine blk_alloc ?_ _)); exact BK113.out⟩, ⟨by (with_reducible repeat (first | refine blk_drewN ?_ _ | refine blk_drew ?_ | refine blk_alloc ?_ _)); refine blk_far ?_ NB117_121.out _; (with_reducible repeat (first | refine blk_drewN ?_ _ | refine blk_drew ?_ | refine blk_alloc ?_ _)); refine blk_far ?_ NB117_121.out _; (with_reducible repeat (first | refine blk_drewN ?_ _ | refine blk_drew ?_ | refine blk_alloc ?_ _)); refine blk_far ?_ NB117_121.out _; (with_reducible repeat (first | refine blk_drewN ?_ _ | refine blk_drew ?_ | refine blk_alloc ?_ _)); exact BK117.out⟩, ⟨blw⟩⟩
                      ·rw [if_neg c53] at H
                       have c53b0 : (Op.bytesLess (((rd_T72 ((rd_T69 l0_2 x26_2).f1) (ji50)).f0).toList) (((rd_T72 ((rd_T69 l0_2 x26_2).f1) x63_4).f0).toList)) = false := by simpa using c53
                       clear c53
                       obtain rfl := Option.some.inj H
                       have p120 : 0 ≤ (x63_4 : Int) := odt
                       have q120 : x63_4 < (((rd_T69 l0_2 x26_2).f1).length : Int) := odt
                       obtain ⟨ad120, e120, hx120_0, hx120_1, hx120_2⟩ := at_T72 HR116_1.out x63_4 p120 q120
                       cases e120
                       replace hx120_0 := (HB.out.cell (World.block_lt_of_cell? w _ hx120_0)).trans hx120_0
                       replace hx120_1 := (HB.out.cell (World.block_lt_of_cell? w _ hx120_1)).trans hx120_1
                       replace hx120_2 := (HB.out.cell (World.block_lt_of_cell? w _ hx120_2)).trans hx120_2
                       replace p120 := eq_true p120
                       replace q120 := eq_true q120
                       go_wp2_with (first | ((with_reducible refine gate_dst (N := 6) rfl ?_); (try (refine gate_guard (by rfl) ?_; dsimp only)); refine box_event ?hg (N := 6) ?hd (cs := #[.string (⟨#[]⟩ : ByteArray), .int .i64 0, .int .i64 0]) (t := 72) ?hr ?_; (case hd => rfl); (case hg => rfl); (case hr => first | (go_simp; done) | (go_simp; rfl)); intro gb121 hg w61 hbox hb; have n0_ := Aside0.mk (blk_below (g := gb113) (o := .cells #[.int .i64 a0_0, .int .i64 a0_1, .slice (some ad116) l0_2.length c0_2] 31 (0, 0)) bkw hb); have n1_ := Aside0.mk (blk_below (g := gb117) (o := .cells #[.int .i64 ((rd_T69 l0_2 x26_2).f0), .slice (some ad120) ((rd_T69 l0_2 x26_2).f1).length c116_1] 69 (0, 0)) bkw hb); have n2_ := Aside0.mk (below_step blw hb); have n3_ := Aside0.mk (hbox); have n4_ := Aside0.mk ((by rw [hg]; exact (below_size blw) : w.heap.size ≤ gb121)); have n5_ := Aside0.mk ((by rw [hg]; exact (below_size blw) : w.heap.size ≤ gb121)); have n6_ := Aside0.mk ((by rw [hg]; exact Nat.ne_of_lt (blk_lt (g := gb113) (o := .cells #[.int .i64 a0_0, .int .i64 a0_1, .slice (some ad116) l0_2.length c0_2] 31 (0, 0)) bkw) : gb113 ≠ gb121)); have n7_ := Aside0.mk ((by rw [hg]; exact Nat.ne_of_gt (blk_lt (g := gb113) (o := .cells #[.int .i64 a0_0, .int .i64 a0_1, .slice (some ad116) l0_2.length c0_2] 31 (0, 0)) bkw) : gb121 ≠ gb113)); have n8_ := Aside0.mk ((by rw [hg]; exact Nat.ne_of_lt (blk_lt (g := gb117) (o := .cells #[.int .i64 ((rd_T69 l0_2 x26_2).f0), .slice (some ad120) ((rd_T69 l0_2 x26_2).f1).length c116_1] 69 (0, 0)) bkw) : gb117 ≠ gb121)); have n9_ := Aside0.mk ((by rw [hg]; exact Nat.ne_of_gt (blk_lt (g := gb117) (o := .cells #[.int .i64 ((rd_T69 l0_2 x26_2).f0), .slice (some ad120) ((rd_T69 l0_2 x26_2).f1).length c116_1] 69 (0, 0)) bkw) : gb121 ≠ gb117)); clear BK113; clear BK117; clear HB; have BK113 := n0_; have BK117 := n1_; have HB := n2_; have BK121 := n3_; have GW121 := n4_; have GE121 := n5_; have NB113_121 := n6_; have NB121_113 := n7_; have NB117_121 := n8_; have NB121_117 := n9_; clear n0_ n1_ n2_ n3_ n4_ n5_ n6_ n7_ n8_ n9_; clear hb hbox hg; have hnb62 := NB121_113.out; have hnc62 := NB113_121.out; have hnb63 := NB121_117.out; have hnc63 := NB117_121.out; have hcz64_0 : w61.cell? ⟨gb121, 0, none⟩ = some (.string (⟨#[]⟩ : ByteArray)) := (blk_cell BK121.out 0).trans rfl; have hcz64_1 : w61.cell? ⟨gb121, 1, none⟩ = some (.int .i64 0) := (blk_cell BK121.out 1).trans rfl; have hcz64_2 : w61.cell? ⟨gb121, 2, none⟩ = some (.int .i64 0) := (blk_cell BK121.out 2).trans rfl; have hfz64_0 := blk_frozen BK121.out 0; have hfz64_1 := blk_frozen BK121.out 1; have hfz64_2 := blk_frozen BK121.out 2; have hnb65 := NB113_117.out; have hnc65 := NB117_113.out; have hcz66_0 : w61.cell? ⟨gb113, 0, none⟩ = some (.int .i64 a0_0) := (blk_cell BK113.out 0).trans rfl; have hcz66_1 : w61.cell? ⟨gb113, 1, none⟩ = some (.int .i64 a0_1) := (blk_cell BK113.out 1).trans rfl; have hcz66_2 : w61.cell? ⟨gb113, 2, none⟩ = some (.slice (some ad116) l0_2.length c0_2) := (blk_cell BK113.out 2).trans rfl; have hfz66_0 := blk_frozen BK113.out 0; have hfz66_1 := blk_frozen BK113.out 1; have hfz66_2 := blk_frozen BK113.out 2) | (go_at_call 87; (with_reducible refine (spec_GoodName.calls k4 ((rd_T72 ((rd_T69 l0_2 x26_2).f1) x63_4).f0) true _ A45.out).mono ?_); rintro e w' ⟨rfl, ⟨nd, rfl⟩⟩; (try first | exact ⟨rfl, _, World.drewN_drewN _ _ _⟩ | exact ⟨rfl, _, Eq.trans (World.drewN_drewN _ _ _) (congrArg (World.drewN _) (Nat.add_assoc _ _ _))⟩)) | (go_at_call 55; (with_reducible refine (spec_l1In.calls ((rd_T72 ((rd_T69 l0_2 x26_2).f1) x63_4).f2) 0 a0_1 true _ A47.out).mono ?_); rintro e w' ⟨rfl, ⟨nd, rfl⟩⟩; (try first | exact ⟨rfl, _, World.drewN_drewN _ _ _⟩ | exact ⟨rfl, _, Eq.trans (World.drewN_drewN _ _ _) (congrArg (World.drewN _) (Nat.add_assoc _ _ _))⟩); have hcz67_0 : w61.cell? ⟨gb117, 0, none⟩ = some (.int .i64 ((rd_T69 l0_2 x26_2).f0)) := (blk_cell BK117.out 0).trans rfl; have hcz67_1 : w61.cell? ⟨gb117, 1, none⟩ = some (.slice (some ad120) ((rd_T69 l0_2 x26_2).f1).length c116_1) := (blk_cell BK117.out 1).trans rfl; have hfz67_0 := blk_frozen BK117.out 0; have hfz67_1 := blk_frozen BK117.out 1; have p124 : 0 ≤ ((ji50) : Int) := odt; have q124 : (ji50) < (((rd_T69 l0_2 x26_2).f1).length : Int) := odt; obtain ⟨ad124, e124, hx124_0, hx124_1, hx124_2⟩ := at_T72 HR116_1.out (ji50) p124 q124; obtain rfl : ad120 = ad124 := (by injection e124); have hn124_0 : ad120.block ≠ gb121 := Nat.ne_of_lt (Nat.lt_of_lt_of_le (by have := World.block_lt_of_cell? _ _ hx124_0; first | rwa [add_block] at this | exact this) GW121.out); have hn124_1 : ad120.block ≠ gb121 := Nat.ne_of_lt (Nat.lt_of_lt_of_le (by have := World.block_lt_of_cell? _ _ hx124_0; first | rwa [add_block] at this | exact this) GW121.out); have hn124_2 : ad120.block ≠ gb121 := Nat.ne_of_lt (Nat.lt_of_lt_of_le (by have := World.block_lt_of_cell? _ _ hx124_0; first | rwa [add_block] at this | exact this) GW121.out); replace hx124_0 := (HB.out.cell (World.block_lt_of_cell? w _ hx124_0)).trans hx124_0; replace hx124_1 := (HB.out.cell (World.block_lt_of_cell? w _ hx124_1)).trans hx124_1; replace hx124_2 := (HB.out.cell (World.block_lt_of_cell? w _ hx124_2)).trans hx124_2; replace hx124_0 := (cell_far (p := ⟨gb121, 0, none⟩) (by first | (rw [add_block]; exact hn124_0) | (show (Addr.add _ _).block ≠ _; rw [add_block]; exact hn124_0) | exact hn124_0) (.string ((rd_T72 ((rd_T69 l0_2 x26_2).f1) x63_4).f0))).trans hx124_0; replace hx124_1 := (cell_far (p := ⟨gb121, 0, none⟩) (by first | (rw [add_block]; exact hn124_0) | (show (Addr.add _ _).block ≠ _; rw [add_block]; exact hn124_0) | exact hn124_0) (.string ((rd_T72 ((rd_T69 l0_2 x26_2).f1) x63_4).f0))).trans hx124_1; replace hx124_2 := (cell_far (p := ⟨gb121, 0, none⟩) (by first | (rw [add_block]; exact hn124_0) | (show (Addr.add _ _).block ≠ _; rw [add_block]; exact hn124_0) | exact hn124_0) (.string ((rd_T72 ((rd_T69 l0_2 x26_2).f1) x63_4).f0))).trans hx124_2; replace hx124_0 := (cell_far (p := ⟨gb121, 1, none⟩) (by first | (rw [add_block]; exact hn124_1) | (show (Addr.add _ _).block ≠ _; rw [add_block]; exact hn124_1) | exact hn124_1) (.int .i64 ((rd_T72 ((rd_T69 l0_2 x26_2).f1) x63_4).f1))).trans hx124_0; replace hx124_1 := (cell_far (p := ⟨gb121, 1, none⟩) (by first | (rw [add_block]; exact hn124_1) | (show (Addr.add _ _).block ≠ _; rw [add_block]; exact hn124_1) | exact hn124_1) (.int .i64 ((rd_T72 ((rd_T69 l0_2 x26_2).f1) x63_4).f1))).trans hx124_1; replace hx124_2 := (cell_far (p := ⟨gb121, 1, none⟩) (by first | (rw [add_block]; exact hn124_1) | (show (Addr.add _ _).block ≠ _; rw [add_block]; exact hn124_1) | exact hn124_1) (.int .i64 ((rd_T72 ((rd_T69 l0_2 x26_2).f1) x63_4).f1))).trans hx124_2; replace hx124_0 := (cell_far (p := ⟨gb121, 2, none⟩) (by first | (rw [add_block]; exact hn124_2) | (show (Addr.add _ _).block ≠ _; rw [add_block]; exact hn124_2) | exact hn124_2) (.int .i64 ((rd_T72 ((rd_T69 l0_2 x26_2).f1) x63_4).f2))).trans hx124_0; replace hx124_1 := (cell_far (p := ⟨gb121, 2, none⟩) (by first | (rw [add_block]; exact hn124_2) | (show (Addr.add _ _).block ≠ _; rw [add_block]; exact hn124_2) | exact hn124_2) (.int .i64 ((rd_T72 ((rd_T69 l0_2 x26_2).f1) x63_4).f2))).trans hx124_1; replace hx124_2 := (cell_far (p := ⟨gb121, 2, none⟩) (by first | (rw [add_block]; exact hn124_2) | (show (Addr.add _ _).block ≠ _; rw [add_block]; exact hn124_2) | exact hn124_2) (.int .i64 ((rd_T72 ((rd_T69 l0_2 x26_2).f1) x63_4).f2))).trans hx124_2; (try have hy124_0 := fun (n_ : Nat) => (show (((((w61.drewN n_).setCell ⟨gb121, 0, none⟩ (.string ((rd_T72 ((rd_T69 l0_2 x26_2).f1) x63_4).f0))).setCell ⟨gb121, 1, none⟩ (.int .i64 ((rd_T72 ((rd_T69 l0_2 x26_2).f1) x63_4).f1))).setCell ⟨gb121, 2, none⟩ (.int .i64 ((rd_T72 ((rd_T69 l0_2 x26_2).f1) x63_4).f2)))).cell? _ = some _ from hx124_0)); (try have hy124_1 := fun (n_ : Nat) => (show (((((w61.drewN n_).setCell ⟨gb121, 0, none⟩ (.string ((rd_T72 ((rd_T69 l0_2 x26_2).f1) x63_4).f0))).setCell ⟨gb121, 1, none⟩ (.int .i64 ((rd_T72 ((rd_T69 l0_2 x26_2).f1) x63_4).f1))).setCell ⟨gb121, 2, none⟩ (.int .i64 ((rd_T72 ((rd_T69 l0_2 x26_2).f1) x63_4).f2)))).cell? _ = some _ from hx124_1)); (try have hy124_2 := fun (n_ : Nat) => (show (((((w61.drewN n_).setCell ⟨gb121, 0, none⟩ (.string ((rd_T72 ((rd_T69 l0_2 x26_2).f1) x63_4).f0))).setCell ⟨gb121, 1, none⟩ (.int .i64 ((rd_T72 ((rd_T69 l0_2 x26_2).f1) x63_4).f1))).setCell ⟨gb121, 2, none⟩ (.int .i64 ((rd_T72 ((rd_T69 l0_2 x26_2).f1) x63_4).f2)))).cell? _ = some _ from hx124_2)); clear hn124_0; clear hn124_1; clear hn124_2; replace p124 := eq_true p124; replace q124 := eq_true q124))
                       repeat (go_quiet (first | ((with_reducible refine gate_dst (N := 6) rfl ?_); (try (refine gate_guard (by rfl) ?_; dsimp only)); refine box_event ?hg (N := 6) ?hd (cs := #[.string (⟨#[]⟩ : ByteArray), .int .i64 0, .int .i64 0]) (t := 72) ?hr ?_; (case hd => rfl); (case hg => rfl); (case hr => first | (go_simp; done) | (go_simp; rfl)); intro gb121 hg w61 hbox hb; have n0_ := Aside0.mk (blk_below (g := gb113) (o := .cells #[.int .i64 a0_0, .int .i64 a0_1, .slice (some ad116) l0_2.length c0_2] 31 (0, 0)) bkw hb); have n1_ := Aside0.mk (blk_below (g := gb117) (o := .cells #[.int .i64 ((rd_T69 l0_2 x26_2).f0), .slice (some ad120) ((rd_T69 l0_2 x26_2).f1).length c116_1] 69 (0, 0)) bkw hb); have n2_ := Aside0.mk (below_step blw hb); have n3_ := Aside0.mk (hbox); have n4_ := Aside0.mk ((by rw [hg]; exact (below_size blw) : w.heap.size ≤ gb121)); have n5_ := Aside0.mk ((by rw [hg]; exact (below_size blw) : w.heap.size ≤ gb121)); have n6_ := Aside0.mk ((by rw [hg]; exact Nat.ne_of_lt (blk_lt (g := gb113) (o := .cells #[.int .i64 a0_0, .int .i64 a0_1, .slice (some ad116) l0_2.length c0_2] 31 (0, 0)) bkw) : gb113 ≠ gb121)); have n7_ := Aside0.mk ((by rw [hg]; exact Nat.ne_of_gt (blk_lt (g := gb113) (o := .cells #[.int .i64 a0_0, .int .i64 a0_1, .slice (some ad116) l0_2.length c0_2] 31 (0, 0)) bkw) : gb121 ≠ gb113)); have n8_ := Aside0.mk ((by rw [hg]; exact Nat.ne_of_lt (blk_lt (g := gb117) (o := .cells #[.int .i64 ((rd_T69 l0_2 x26_2).f0), .slice (some ad120) ((rd_T69 l0_2 x26_2).f1).length c116_1] 69 (0, 0)) bkw) : gb117 ≠ gb121)); have n9_ := Aside0.mk ((by rw [hg]; exact Nat.ne_of_gt (blk_lt (g := gb117) (o := .cells #[.int .i64 ((rd_T69 l0_2 x26_2).f0), .slice (some ad120) ((rd_T69 l0_2 x26_2).f1).length c116_1] 69 (0, 0)) bkw) : gb121 ≠ gb117)); clear BK113; clear BK117; clear HB; have BK113 := n0_; have BK117 := n1_; have HB := n2_; have BK121 := n3_; have GW121 := n4_; have GE121 := n5_; have NB113_121 := n6_; have NB121_113 := n7_; have NB117_121 := n8_; have NB121_117 := n9_; clear n0_ n1_ n2_ n3_ n4_ n5_ n6_ n7_ n8_ n9_; clear hb hbox hg; have hnb62 := NB121_113.out; have hnc62 := NB113_121.out; have hnb63 := NB121_117.out; have hnc63 := NB117_121.out; have hcz64_0 : w61.cell? ⟨gb121, 0, none⟩ = some (.string (⟨#[]⟩ : ByteArray)) := (blk_cell BK121.out 0).trans rfl; have hcz64_1 : w61.cell? ⟨gb121, 1, none⟩ = some (.int .i64 0) := (blk_cell BK121.out 1).trans rfl; have hcz64_2 : w61.cell? ⟨gb121, 2, none⟩ = some (.int .i64 0) := (blk_cell BK121.out 2).trans rfl; have hfz64_0 := blk_frozen BK121.out 0; have hfz64_1 := blk_frozen BK121.out 1; have hfz64_2 := blk_frozen BK121.out 2; have hnb65 := NB113_117.out; have hnc65 := NB117_113.out; have hcz66_0 : w61.cell? ⟨gb113, 0, none⟩ = some (.int .i64 a0_0) := (blk_cell BK113.out 0).trans rfl; have hcz66_1 : w61.cell? ⟨gb113, 1, none⟩ = some (.int .i64 a0_1) := (blk_cell BK113.out 1).trans rfl; have hcz66_2 : w61.cell? ⟨gb113, 2, none⟩ = some (.slice (some ad116) l0_2.length c0_2) := (blk_cell BK113.out 2).trans rfl; have hfz66_0 := blk_frozen BK113.out 0; have hfz66_1 := blk_frozen BK113.out 1; have hfz66_2 := blk_frozen BK113.out 2) | (go_at_call 87; (with_reducible refine (spec_GoodName.calls k4 ((rd_T72 ((rd_T69 l0_2 x26_2).f1) x63_4).f0) true _ A45.out).mono ?_); rintro e w' ⟨rfl, ⟨nd, rfl⟩⟩; (try first | exact ⟨rfl, _, World.drewN_drewN _ _ _⟩ | exact ⟨rfl, _, Eq.trans (World.drewN_drewN _ _ _) (congrArg (World.drewN _) (Nat.add_assoc _ _ _))⟩)) | (go_at_call 55; (with_reducible refine (spec_l1In.calls ((rd_T72 ((rd_T69 l0_2 x26_2).f1) x63_4).f2) 0 a0_1 true _ A47.out).mono ?_); rintro e w' ⟨rfl, ⟨nd, rfl⟩⟩; (try first | exact ⟨rfl, _, World.drewN_drewN _ _ _⟩ | exact ⟨rfl, _, Eq.trans (World.drewN_drewN _ _ _) (congrArg (World.drewN _) (Nat.add_assoc _ _ _))⟩); have hcz67_0 : w61.cell? ⟨gb117, 0, none⟩ = some (.int .i64 ((rd_T69 l0_2 x26_2).f0)) := (blk_cell BK117.out 0).trans rfl; have hcz67_1 : w61.cell? ⟨gb117, 1, none⟩ = some (.slice (some ad120) ((rd_T69 l0_2 x26_2).f1).length c116_1) := (blk_cell BK117.out 1).trans rfl; have hfz67_0 := blk_frozen BK117.out 0; have hfz67_1 := blk_frozen BK117.out 1; have p124 : 0 ≤ ((ji50) : Int) := odt; have q124 : (ji50) < (((rd_T69 l0_2 x26_2).f1).length : Int) := odt; obtain ⟨ad124, e124, hx124_0, hx124_1, hx124_2⟩ := at_T72 HR116_1.out (ji50) p124 q124; obtain rfl : ad120 = ad124 := (by injection e124); have hn124_0 : ad120.block ≠ gb121 := Nat.ne_of_lt (Nat.lt_of_lt_of_le (by have := World.block_lt_of_cell? _ _ hx124_0; first | rwa [add_block] at this | exact this) GW121.out); have hn124_1 : ad120.block ≠ gb121 := Nat.ne_of_lt (Nat.lt_of_lt_of_le (by have := World.block_lt_of_cell? _ _ hx124_0; first | rwa [add_block] at this | exact this) GW121.out); have hn124_2 : ad120.block ≠ gb121 := Nat.ne_of_lt (Nat.lt_of_lt_of_le (by have := World.block_lt_of_cell? _ _ hx124_0; first | rwa [add_block] at this | exact this) GW121.out); replace hx124_0 := (HB.out.cell (World.block_lt_of_cell? w _ hx124_0)).trans hx124_0; replace hx124_1 := (HB.out.cell (World.block_lt_of_cell? w _ hx124_1)).trans hx124_1; replace hx124_2 := (HB.out.cell (World.block_lt_of_cell? w _ hx124_2)).trans hx124_2; replace hx124_0 := (cell_far (p := ⟨gb121, 0, none⟩) (by first | (rw [add_block]; exact hn124_0) | (show (Addr.add _ _).block ≠ _; rw [add_block]; exact hn124_0) | exact hn124_0) (.string ((rd_T72 ((rd_T69 l0_2 x26_2).f1) x63_4).f0))).trans hx124_0; replace hx124_1 := (cell_far (p := ⟨gb121, 0, none⟩) (by first | (rw [add_block]; exact hn124_0) | (show (Addr.add _ _).block ≠ _; rw [add_block]; exact hn124_0) | exact hn124_0) (.string ((rd_T72 ((rd_T69 l0_2 x26_2).f1) x63_4).f0))).trans hx124_1; replace hx124_2 := (cell_far (p := ⟨gb121, 0, none⟩) (by first | (rw [add_block]; exact hn124_0) | (show (Addr.add _ _).block ≠ _; rw [add_block]; exact hn124_0) | exact hn124_0) (.string ((rd_T72 ((rd_T69 l0_2 x26_2).f1) x63_4).f0))).trans hx124_2; replace hx124_0 := (cell_far (p := ⟨gb121, 1, none⟩) (by first | (rw [add_block]; exact hn124_1) | (show (Addr.add _ _).block ≠ _; rw [add_block]; exact hn124_1) | exact hn124_1) (.int .i64 ((rd_T72 ((rd_T69 l0_2 x26_2).f1) x63_4).f1))).trans hx124_0; replace hx124_1 := (cell_far (p := ⟨gb121, 1, none⟩) (by first | (rw [add_block]; exact hn124_1) | (show (Addr.add _ _).block ≠ _; rw [add_block]; exact hn124_1) | exact hn124_1) (.int .i64 ((rd_T72 ((rd_T69 l0_2 x26_2).f1) x63_4).f1))).trans hx124_1; replace hx124_2 := (cell_far (p := ⟨gb121, 1, none⟩) (by first | (rw [add_block]; exact hn124_1) | (show (Addr.add _ _).block ≠ _; rw [add_block]; exact hn124_1) | exact hn124_1) (.int .i64 ((rd_T72 ((rd_T69 l0_2 x26_2).f1) x63_4).f1))).trans hx124_2; replace hx124_0 := (cell_far (p := ⟨gb121, 2, none⟩) (by first | (rw [add_block]; exact hn124_2) | (show (Addr.add _ _).block ≠ _; rw [add_block]; exact hn124_2) | exact hn124_2) (.int .i64 ((rd_T72 ((rd_T69 l0_2 x26_2).f1) x63_4).f2))).trans hx124_0; replace hx124_1 := (cell_far (p := ⟨gb121, 2, none⟩) (by first | (rw [add_block]; exact hn124_2) | (show (Addr.add _ _).block ≠ _; rw [add_block]; exact hn124_2) | exact hn124_2) (.int .i64 ((rd_T72 ((rd_T69 l0_2 x26_2).f1) x63_4).f2))).trans hx124_1; replace hx124_2 := (cell_far (p := ⟨gb121, 2, none⟩) (by first | (rw [add_block]; exact hn124_2) | (show (Addr.add _ _).block ≠ _; rw [add_block]; exact hn124_2) | exact hn124_2) (.int .i64 ((rd_T72 ((rd_T69 l0_2 x26_2).f1) x63_4).f2))).trans hx124_2; (try have hy124_0 := fun (n_ : Nat) => (show (((((w61.drewN n_).setCell ⟨gb121, 0, none⟩ (.string ((rd_T72 ((rd_T69 l0_2 x26_2).f1) x63_4).f0))).setCell ⟨gb121, 1, none⟩ (.int .i64 ((rd_T72 ((rd_T69 l0_2 x26_2).f1) x63_4).f1))).setCell ⟨gb121, 2, none⟩ (.int .i64 ((rd_T72 ((rd_T69 l0_2 x26_2).f1) x63_4).f2)))).cell? _ = some _ from hx124_0)); (try have hy124_1 := fun (n_ : Nat) => (show (((((w61.drewN n_).setCell ⟨gb121, 0, none⟩ (.string ((rd_T72 ((rd_T69 l0_2 x26_2).f1) x63_4).f0))).setCell ⟨gb121, 1, none⟩ (.int .i64 ((rd_T72 ((rd_T69 l0_2 x26_2).f1) x63_4).f1))).setCell ⟨gb121, 2, none⟩ (.int .i64 ((rd_T72 ((rd_T69 l0_2 x26_2).f1) x63_4).f2)))).cell? _ = some _ from hx124_1)); (try have hy124_2 := fun (n_ : Nat) => (show (((((w61.drewN n_).setCell ⟨gb121, 0, none⟩ (.string ((rd_T72 ((rd_T69 l0_2 x26_2).f1) x63_4).f0))).setCell ⟨gb121, 1, none⟩ (.int .i64 ((rd_T72 ((rd_T69 l0_2 x26_2).f1) x63_4).f1))).setCell ⟨gb121, 2, none⟩ (.int .i64 ((rd_T72 ((rd_T69 l0_2 x26_2).f1) x63_4).f2)))).cell? _ = some _ from hx124_2)); clear hn124_0; clear hn124_1; clear hn124_2; replace p124 := eq_true p124; replace q124 := eq_true q124)); try go_wp2_with (first | ((with_reducible refine gate_dst (N := 6) rfl ?_); (try (refine gate_guard (by rfl) ?_; dsimp only)); refine box_event ?hg (N := 6) ?hd (cs := #[.string (⟨#[]⟩ : ByteArray), .int .i64 0, .int .i64 0]) (t := 72) ?hr ?_; (case hd => rfl); (case hg => rfl); (case hr => first | (go_simp; done) | (go_simp; rfl)); intro gb121 hg w61 hbox hb; have n0_ := Aside0.mk (blk_below (g := gb113) (o := .cells #[.int .i64 a0_0, .int .i64 a0_1, .slice (some ad116) l0_2.length c0_2] 31 (0, 0)) bkw hb); have n1_ := Aside0.mk (blk_below (g := gb117) (o := .cells #[.int .i64 ((rd_T69 l0_2 x26_2).f0), .slice (some ad120) ((rd_T69 l0_2 x26_2).f1).length c116_1] 69 (0, 0)) bkw hb); have n2_ := Aside0.mk (below_step blw hb); have n3_ := Aside0.mk (hbox); have n4_ := Aside0.mk ((by rw [hg]; exact (below_size blw) : w.heap.size ≤ gb121)); have n5_ := Aside0.mk ((by rw [hg]; exact (below_size blw) : w.heap.size ≤ gb121)); have n6_ := Aside0.mk ((by rw [hg]; exact Nat.ne_of_lt (blk_lt (g := gb113) (o := .cells #[.int .i64 a0_0, .int .i64 a0_1, .slice (some ad116) l0_2.length c0_2] 31 (0, 0)) bkw) : gb113 ≠ gb121)); have n7_ := Aside0.mk ((by rw [hg]; exact Nat.ne_of_gt (blk_lt (g := gb113) (o := .cells #[.int .i64 a0_0, .int .i64 a0_1, .slice (some ad116) l0_2.length c0_2] 31 (0, 0)) bkw) : gb121 ≠ gb113)); have n8_ := Aside0.mk ((by rw [hg]; exact Nat.ne_of_lt (blk_lt (g := gb117) (o := .cells #[.int .i64 ((rd_T69 l0_2 x26_2).f0), .slice (some ad120) ((rd_T69 l0_2 x26_2).f1).length c116_1] 69 (0, 0)) bkw) : gb117 ≠ gb121)); have n9_ := Aside0.mk ((by rw [hg]; exact Nat.ne_of_gt (blk_lt (g := gb117) (o := .cells #[.int .i64 ((rd_T69 l0_2 x26_2).f0), .slice (some ad120) ((rd_T69 l0_2 x26_2).f1).length c116_1] 69 (0, 0)) bkw) : gb121 ≠ gb117)); clear BK113; clear BK117; clear HB; have BK113 := n0_; have BK117 := n1_; have HB := n2_; have BK121 := n3_; have GW121 := n4_; have GE121 := n5_; have NB113_121 := n6_; have NB121_113 := n7_; have NB117_121 := n8_; have NB121_117 := n9_; clear n0_ n1_ n2_ n3_ n4_ n5_ n6_ n7_ n8_ n9_; clear hb hbox hg; have hnb62 := NB121_113.out; have hnc62 := NB113_121.out; have hnb63 := NB121_117.out; have hnc63 := NB117_121.out; have hcz64_0 : w61.cell? ⟨gb121, 0, none⟩ = some (.string (⟨#[]⟩ : ByteArray)) := (blk_cell BK121.out 0).trans rfl; have hcz64_1 : w61.cell? ⟨gb121, 1, none⟩ = some (.int .i64 0) := (blk_cell BK121.out 1).trans rfl; have hcz64_2 : w61.cell? ⟨gb121, 2, none⟩ = some (.int .i64 0) := (blk_cell BK121.out 2).trans rfl; have hfz64_0 := blk_frozen BK121.out 0; have hfz64_1 := blk_frozen BK121.out 1; have hfz64_2 := blk_frozen BK121.out 2) | (go_at_call 87; (with_reducible refine (spec_GoodName.calls k4 ((rd_T72 ((rd_T69 l0_2 x26_2).f1) x63_4).f0) true _ A45.out).mono ?_); rintro e w' ⟨rfl, ⟨nd, rfl⟩⟩; (try first | exact ⟨rfl, _, World.drewN_drewN _ _ _⟩ | exact ⟨rfl, _, Eq.trans (World.drewN_drewN _ _ _) (congrArg (World.drewN _) (Nat.add_assoc _ _ _))⟩); have hnb65 := NB113_117.out; have hnc65 := NB117_113.out; have hcz66_0 : w61.cell? ⟨gb113, 0, none⟩ = some (.int .i64 a0_0) := (blk_cell BK113.out 0).trans rfl; have hcz66_1 : w61.cell? ⟨gb113, 1, none⟩ = some (.int .i64 a0_1) := (blk_cell BK113.out 1).trans rfl; have hcz66_2 : w61.cell? ⟨gb113, 2, none⟩ = some (.slice (some ad116) l0_2.length c0_2) := (blk_cell BK113.out 2).trans rfl; have hfz66_0 := blk_frozen BK113.out 0; have hfz66_1 := blk_frozen BK113.out 1; have hfz66_2 := blk_frozen BK113.out 2) | (go_at_call 55; (with_reducible refine (spec_l1In.calls ((rd_T72 ((rd_T69 l0_2 x26_2).f1) x63_4).f2) 0 a0_1 true _ A47.out).mono ?_); rintro e w' ⟨rfl, ⟨nd, rfl⟩⟩; (try first | exact ⟨rfl, _, World.drewN_drewN _ _ _⟩ | exact ⟨rfl, _, Eq.trans (World.drewN_drewN _ _ _) (congrArg (World.drewN _) (Nat.add_assoc _ _ _))⟩); have hcz67_0 : w61.cell? ⟨gb117, 0, none⟩ = some (.int .i64 ((rd_T69 l0_2 x26_2).f0)) := (blk_cell BK117.out 0).trans rfl; have hcz67_1 : w61.cell? ⟨gb117, 1, none⟩ = some (.slice (some ad120) ((rd_T69 l0_2 x26_2).f1).length c116_1) := (blk_cell BK117.out 1).trans rfl; have hfz67_0 := blk_frozen BK117.out 0; have hfz67_1 := blk_frozen BK117.out 1; have p124 : 0 ≤ ((ji50) : Int) := odt; have q124 : (ji50) < (((rd_T69 l0_2 x26_2).f1).length : Int) := odt; obtain ⟨ad124, e124, hx124_0, hx124_1, hx124_2⟩ := at_T72 HR116_1.out (ji50) p124 q124; obtain rfl : ad120 = ad124 := (by injection e124); have hn124_0 : ad120.block ≠ gb121 := Nat.ne_of_lt (Nat.lt_of_lt_of_le (by have := World.block_lt_of_cell? _ _ hx124_0; first | rwa [add_block] at this | exact this) GW121.out); have hn124_1 : ad120.block ≠ gb121 := Nat.ne_of_lt (Nat.lt_of_lt_of_le (by have := World.block_lt_of_cell? _ _ hx124_0; first | rwa [add_block] at this | exact this) GW121.out); have hn124_2 : ad120.block ≠ gb121 := Nat.ne_of_lt (Nat.lt_of_lt_of_le (by have := World.block_lt_of_cell? _ _ hx124_0; first | rwa [add_block] at this | exact this) GW121.out); replace hx124_0 := (HB.out.cell (World.block_lt_of_cell? w _ hx124_0)).trans hx124_0; replace hx124_1 := (HB.out.cell (World.block_lt_of_cell? w _ hx124_1)).trans hx124_1; replace hx124_2 := (HB.out.cell (World.block_lt_of_cell? w _ hx124_2)).trans hx124_2; replace hx124_0 := (cell_far (p := ⟨gb121, 0, none⟩) (by first | (rw [add_block]; exact hn124_0) | (show (Addr.add _ _).block ≠ _; rw [add_block]; exact hn124_0) | exact hn124_0) (.string ((rd_T72 ((rd_T69 l0_2 x26_2).f1) x63_4).f0))).trans hx124_0; replace hx124_1 := (cell_far (p := ⟨gb121, 0, none⟩) (by first | (rw [add_block]; exact hn124_0) | (show (Addr.add _ _).block ≠ _; rw [add_block]; exact hn124_0) | exact hn124_0) (.string ((rd_T72 ((rd_T69 l0_2 x26_2).f1) x63_4).f0))).trans hx124_1; replace hx124_2 := (cell_far (p := ⟨gb121, 0, none⟩) (by first | (rw [add_block]; exact hn124_0) | (show (Addr.add _ _).block ≠ _; rw [add_block]; exact hn124_0) | exact hn124_0) (.string ((rd_T72 ((rd_T69 l0_2 x26_2).f1) x63_4).f0))).trans hx124_2; replace hx124_0 := (cell_far (p := ⟨gb121, 1, none⟩) (by first | (rw [add_block]; exact hn124_1) | (show (Addr.add _ _).block ≠ _; rw [add_block]; exact hn124_1) | exact hn124_1) (.int .i64 ((rd_T72 ((rd_T69 l0_2 x26_2).f1) x63_4).f1))).trans hx124_0; replace hx124_1 := (cell_far (p := ⟨gb121, 1, none⟩) (by first | (rw [add_block]; exact hn124_1) | (show (Addr.add _ _).block ≠ _; rw [add_block]; exact hn124_1) | exact hn124_1) (.int .i64 ((rd_T72 ((rd_T69 l0_2 x26_2).f1) x63_4).f1))).trans hx124_1; replace hx124_2 := (cell_far (p := ⟨gb121, 1, none⟩) (by first | (rw [add_block]; exact hn124_1) | (show (Addr.add _ _).block ≠ _; rw [add_block]; exact hn124_1) | exact hn124_1) (.int .i64 ((rd_T72 ((rd_T69 l0_2 x26_2).f1) x63_4).f1))).trans hx124_2; replace hx124_0 := (cell_far (p := ⟨gb121, 2, none⟩) (by first | (rw [add_block]; exact hn124_2) | (show (Addr.add _ _).block ≠ _; rw [add_block]; exact hn124_2) | exact hn124_2) (.int .i64 ((rd_T72 ((rd_T69 l0_2 x26_2).f1) x63_4).f2))).trans hx124_0; replace hx124_1 := (cell_far (p := ⟨gb121, 2, none⟩) (by first | (rw [add_block]; exact hn124_2) | (show (Addr.add _ _).block ≠ _; rw [add_block]; exact hn124_2) | exact hn124_2) (.int .i64 ((rd_T72 ((rd_T69 l0_2 x26_2).f1) x63_4).f2))).trans hx124_1; replace hx124_2 := (cell_far (p := ⟨gb121, 2, none⟩) (by first | (rw [add_block]; exact hn124_2) | (show (Addr.add _ _).block ≠ _; rw [add_block]; exact hn124_2) | exact hn124_2) (.int .i64 ((rd_T72 ((rd_T69 l0_2 x26_2).f1) x63_4).f2))).trans hx124_2; (try have hy124_0 := fun (n_ : Nat) => (show (((((w61.drewN n_).setCell ⟨gb121, 0, none⟩ (.string ((rd_T72 ((rd_T69 l0_2 x26_2).f1) x63_4).f0))).setCell ⟨gb121, 1, none⟩ (.int .i64 ((rd_T72 ((rd_T69 l0_2 x26_2).f1) x63_4).f1))).setCell ⟨gb121, 2, none⟩ (.int .i64 ((rd_T72 ((rd_T69 l0_2 x26_2).f1) x63_4).f2)))).cell? _ = some _ from hx124_0)); (try have hy124_1 := fun (n_ : Nat) => (show (((((w61.drewN n_).setCell ⟨gb121, 0, none⟩ (.string ((rd_T72 ((rd_T69 l0_2 x26_2).f1) x63_4).f0))).setCell ⟨gb121, 1, none⟩ (.int .i64 ((rd_T72 ((rd_T69 l0_2 x26_2).f1) x63_4).f1))).setCell ⟨gb121, 2, none⟩ (.int .i64 ((rd_T72 ((rd_T69 l0_2 x26_2).f1) x63_4).f2)))).cell? _ = some _ from hx124_1)); (try have hy124_2 := fun (n_ : Nat) => (show (((((w61.drewN n_).setCell ⟨gb121, 0, none⟩ (.string ((rd_T72 ((rd_T69 l0_2 x26_2).f1) x63_4).f0))).setCell ⟨gb121, 1, none⟩ (.int .i64 ((rd_T72 ((rd_T69 l0_2 x26_2).f1) x63_4).f1))).setCell ⟨gb121, 2, none⟩ (.int .i64 ((rd_T72 ((rd_T69 l0_2 x26_2).f1) x63_4).f2)))).cell? _ = some _ from hx124_2)); clear hn124_0; clear hn124_1; clear hn124_2; replace p124 := eq_true p124; replace q124 := eq_true q124)))
                       go_ret
                       exact ⟨by first | rfl | (simp [errW_none, errW_some] <;> rfl) | (simp only [← hji50]; first | rfl | (simp [errW_none, errW_some] <;> rfl)) | (simp [*, errW_none, errW_some] <;> rfl), blw⟩
                     ·rw [if_neg c52] at H
                      exact absurd H (by simp)
                    ·rw [if_neg c51] at H
                     exact absurd H (by simp)
                   ·rw [if_neg c49] at H
                    have c49b0 : decide (0 < x63_4) = false := decide_eq_false c49
                    clear c49
                    have H' := Aside0.mk H
                    clear H
                    have p120 : 0 ≤ (x63_4 : Int) := odt
                    have q120 : x63_4 < (((rd_T69 l0_2 x26_2).f1).length : Int) := odt
                    obtain ⟨ad120, e120, hx120_0, hx120_1, hx120_2⟩ := at_T72 HR116_1.out x63_4 p120 q120
                    cases e120
                    replace hx120_0 := (HB.out.cell (World.block_lt_of_cell? w _ hx120_0)).trans hx120_0
                    replace hx120_1 := (HB.out.cell (World.block_lt_of_cell? w _ hx120_1)).trans hx120_1
                    replace hx120_2 := (HB.out.cell (World.block_lt_of_cell? w _ hx120_2)).trans hx120_2
                    replace p120 := eq_true p120
                    replace q120 := eq_true q120
                    go_wp2_with (first | ((with_reducible refine gate_dst (N := 6) rfl ?_); (try (refine gate_guard (by rfl) ?_; dsimp only)); refine box_event ?hg (N := 6) ?hd (cs := #[.string (⟨#[]⟩ : ByteArray), .int .i64 0, .int .i64 0]) (t := 72) ?hr ?_; (case hd => rfl); (case hg => rfl); (case hr => first | (go_simp; done) | (go_simp; rfl)); intro gb121 hg w68 hbox hb; have n0_ := Aside0.mk (blk_below (g := gb113) (o := .cells #[.int .i64 a0_0, .int .i64 a0_1, .slice (some ad116) l0_2.length c0_2] 31 (0, 0)) bkw hb); have n1_ := Aside0.mk (blk_below (g := gb117) (o := .cells #[.int .i64 ((rd_T69 l0_2 x26_2).f0), .slice (some ad120) ((rd_T69 l0_2 x26_2).f1).length c116_1] 69 (0, 0)) bkw hb); have n2_ := Aside0.mk (below_step blw hb); have n3_ := Aside0.mk (hbox); have n4_ := Aside0.mk ((by rw [hg]; exact (below_size blw) : w.heap.size ≤ gb121)); have n5_ := Aside0.mk ((by rw [hg]; exact (below_size blw) : w.heap.size ≤ gb121)); have n6_ := Aside0.mk ((by rw [hg]; exact Nat.ne_of_lt (blk_lt (g := gb113) (o := .cells #[.int .i64 a0_0, .int .i64 a0_1, .slice (some ad116) l0_2.length c0_2] 31 (0, 0)) bkw) : gb113 ≠ gb121)); have n7_ := Aside0.mk ((by rw [hg]; exact Nat.ne_of_gt (blk_lt (g := gb113) (o := .cells #[.int .i64 a0_0, .int .i64 a0_1, .slice (some ad116) l0_2.length c0_2] 31 (0, 0)) bkw) : gb121 ≠ gb113)); have n8_ := Aside0.mk ((by rw [hg]; exact Nat.ne_of_lt (blk_lt (g := gb117) (o := .cells #[.int .i64 ((rd_T69 l0_2 x26_2).f0), .slice (some ad120) ((rd_T69 l0_2 x26_2).f1).length c116_1] 69 (0, 0)) bkw) : gb117 ≠ gb121)); have n9_ := Aside0.mk ((by rw [hg]; exact Nat.ne_of_gt (blk_lt (g := gb117) (o := .cells #[.int .i64 ((rd_T69 l0_2 x26_2).f0), .slice (some ad120) ((rd_T69 l0_2 x26_2).f1).length c116_1] 69 (0, 0)) bkw) : gb121 ≠ gb117)); clear BK113; clear BK117; clear HB; have BK113 := n0_; have BK117 := n1_; have HB := n2_; have BK121 := n3_; have GW121 := n4_; have GE121 := n5_; have NB113_121 := n6_; have NB121_113 := n7_; have NB117_121 := n8_; have NB121_117 := n9_; clear n0_ n1_ n2_ n3_ n4_ n5_ n6_ n7_ n8_ n9_; clear hb hbox hg; have hnb69 := NB121_113.out; have hnc69 := NB113_121.out; have hnb70 := NB121_117.out; have hnc70 := NB117_121.out; have hcz71_0 : w68.cell? ⟨gb121, 0, none⟩ = some (.string (⟨#[]⟩ : ByteArray)) := (blk_cell BK121.out 0).trans rfl; have hcz71_1 : w68.cell? ⟨gb121, 1, none⟩ = some (.int .i64 0) := (blk_cell BK121.out 1).trans rfl; have hcz71_2 : w68.cell? ⟨gb121, 2, none⟩ = some (.int .i64 0) := (blk_cell BK121.out 2).trans rfl; have hfz71_0 := blk_frozen BK121.out 0; have hfz71_1 := blk_frozen BK121.out 1; have hfz71_2 := blk_frozen BK121.out 2; have hnb72 := NB113_117.out; have hnc72 := NB117_113.out; have hcz73_0 : w68.cell? ⟨gb113, 0, none⟩ = some (.int .i64 a0_0) := (blk_cell BK113.out 0).trans rfl; have hcz73_1 : w68.cell? ⟨gb113, 1, none⟩ = some (.int .i64 a0_1) := (blk_cell BK113.out 1).trans rfl; have hcz73_2 : w68.cell? ⟨gb113, 2, none⟩ = some (.slice (some ad116) l0_2.length c0_2) := (blk_cell BK113.out 2).trans rfl; have hfz73_0 := blk_frozen BK113.out 0; have hfz73_1 := blk_frozen BK113.out 1; have hfz73_2 := blk_frozen BK113.out 2) | (go_at_call 87; (with_reducible refine (spec_GoodName.calls k4 ((rd_T72 ((rd_T69 l0_2 x26_2).f1) x63_4).f0) true _ A45.out).mono ?_); rintro e w' ⟨rfl, ⟨nd, rfl⟩⟩; (try first | exact ⟨rfl, _, World.drewN_drewN _ _ _⟩ | exact ⟨rfl, _, Eq.trans (World.drewN_drewN _ _ _) (congrArg (World.drewN _) (Nat.add_assoc _ _ _))⟩)) | (go_at_call 55; (with_reducible refine (spec_l1In.calls ((rd_T72 ((rd_T69 l0_2 x26_2).f1) x63_4).f2) 0 a0_1 true _ A47.out).mono ?_); rintro e w' ⟨rfl, ⟨nd, rfl⟩⟩; (try first | exact ⟨rfl, _, World.drewN_drewN _ _ _⟩ | exact ⟨rfl, _, Eq.trans (World.drewN_drewN _ _ _) (congrArg (World.drewN _) (Nat.add_assoc _ _ _))⟩)))
                    repeat (go_quiet (first | ((with_reducible refine gate_dst (N := 6) rfl ?_); (try (refine gate_guard (by rfl) ?_; dsimp only)); refine box_event ?hg (N := 6) ?hd (cs := #[.string (⟨#[]⟩ : ByteArray), .int .i64 0, .int .i64 0]) (t := 72) ?hr ?_; (case hd => rfl); (case hg => rfl); (case hr => first | (go_simp; done) | (go_simp; rfl)); intro gb121 hg w68 hbox hb; have n0_ := Aside0.mk (blk_below (g := gb113) (o := .cells #[.int .i64 a0_0, .int .i64 a0_1, .slice (some ad116) l0_2.length c0_2] 31 (0, 0)) bkw hb); have n1_ := Aside0.mk (blk_below (g := gb117) (o := .cells #[.int .i64 ((rd_T69 l0_2 x26_2).f0), .slice (some ad120) ((rd_T69 l0_2 x26_2).f1).length c116_1] 69 (0, 0)) bkw hb); have n2_ := Aside0.mk (below_step blw hb); have n3_ := Aside0.mk (hbox); have n4_ := Aside0.mk ((by rw [hg]; exact (below_size blw) : w.heap.size ≤ gb121)); have n5_ := Aside0.mk ((by rw [hg]; exact (below_size blw) : w.heap.size ≤ gb121)); have n6_ := Aside0.mk ((by rw [hg]; exact Nat.ne_of_lt (blk_lt (g := gb113) (o := .cells #[.int .i64 a0_0, .int .i64 a0_1, .slice (some ad116) l0_2.length c0_2] 31 (0, 0)) bkw) : gb113 ≠ gb121)); have n7_ := Aside0.mk ((by rw [hg]; exact Nat.ne_of_gt (blk_lt (g := gb113) (o := .cells #[.int .i64 a0_0, .int .i64 a0_1, .slice (some ad116) l0_2.length c0_2] 31 (0, 0)) bkw) : gb121 ≠ gb113)); have n8_ := Aside0.mk ((by rw [hg]; exact Nat.ne_of_lt (blk_lt (g := gb117) (o := .cells #[.int .i64 ((rd_T69 l0_2 x26_2).f0), .slice (some ad120) ((rd_T69 l0_2 x26_2).f1).length c116_1] 69 (0, 0)) bkw) : gb117 ≠ gb121)); have n9_ := Aside0.mk ((by rw [hg]; exact Nat.ne_of_gt (blk_lt (g := gb117) (o := .cells #[.int .i64 ((rd_T69 l0_2 x26_2).f0), .slice (some ad120) ((rd_T69 l0_2 x26_2).f1).length c116_1] 69 (0, 0)) bkw) : gb121 ≠ gb117)); clear BK113; clear BK117; clear HB; have BK113 := n0_; have BK117 := n1_; have HB := n2_; have BK121 := n3_; have GW121 := n4_; have GE121 := n5_; have NB113_121 := n6_; have NB121_113 := n7_; have NB117_121 := n8_; have NB121_117 := n9_; clear n0_ n1_ n2_ n3_ n4_ n5_ n6_ n7_ n8_ n9_; clear hb hbox hg; have hnb69 := NB121_113.out; have hnc69 := NB113_121.out; have hnb70 := NB121_117.out; have hnc70 := NB117_121.out; have hcz71_0 : w68.cell? ⟨gb121, 0, none⟩ = some (.string (⟨#[]⟩ : ByteArray)) := (blk_cell BK121.out 0).trans rfl; have hcz71_1 : w68.cell? ⟨gb121, 1, none⟩ = some (.int .i64 0) := (blk_cell BK121.out 1).trans rfl; have hcz71_2 : w68.cell? ⟨gb121, 2, none⟩ = some (.int .i64 0) := (blk_cell BK121.out 2).trans rfl; have hfz71_0 := blk_frozen BK121.out 0; have hfz71_1 := blk_frozen BK121.out 1; have hfz71_2 := blk_frozen BK121.out 2; have hnb72 := NB113_117.out; have hnc72 := NB117_113.out; have hcz73_0 : w68.cell? ⟨gb113, 0, none⟩ = some (.int .i64 a0_0) := (blk_cell BK113.out 0).trans rfl; have hcz73_1 : w68.cell? ⟨gb113, 1, none⟩ = some (.int .i64 a0_1) := (blk_cell BK113.out 1).trans rfl; have hcz73_2 : w68.cell? ⟨gb113, 2, none⟩ = some (.slice (some ad116) l0_2.length c0_2) := (blk_cell BK113.out 2).trans rfl; have hfz73_0 := blk_frozen BK113.out 0; have hfz73_1 := blk_frozen BK113.out 1; have hfz73_2 := blk_frozen BK113.out 2) | (go_at_call 87; (with_reducible refine (spec_GoodName.calls k4 ((rd_T72 ((rd_T69 l0_2 x26_2).f1) x63_4).f0) true _ A45.out).mono ?_); rintro e w' ⟨rfl, ⟨nd, rfl⟩⟩; (try first | exact ⟨rfl, _, World.drewN_drewN _ _ _⟩ | exact ⟨rfl, _, Eq.trans (World.drewN_drewN _ _ _) (congrArg (World.drewN _) (Nat.add_assoc _ _ _))⟩)) | (go_at_call 55; (with_reducible refine (spec_l1In.calls ((rd_T72 ((rd_T69 l0_2 x26_2).f1) x63_4).f2) 0 a0_1 true _ A47.out).mono ?_); rintro e w' ⟨rfl, ⟨nd, rfl⟩⟩; (try first | exact ⟨rfl, _, World.drewN_drewN _ _ _⟩ | exact ⟨rfl, _, Eq.trans (World.drewN_drewN _ _ _) (congrArg (World.drewN _) (Nat.add_assoc _ _ _))⟩))); try go_wp2_with (first | ((with_reducible refine gate_dst (N := 6) rfl ?_); (try (refine gate_guard (by rfl) ?_; dsimp only)); refine box_event ?hg (N := 6) ?hd (cs := #[.string (⟨#[]⟩ : ByteArray), .int .i64 0, .int .i64 0]) (t := 72) ?hr ?_; (case hd => rfl); (case hg => rfl); (case hr => first | (go_simp; done) | (go_simp; rfl)); intro gb121 hg w68 hbox hb; have n0_ := Aside0.mk (blk_below (g := gb113) (o := .cells #[.int .i64 a0_0, .int .i64 a0_1, .slice (some ad116) l0_2.length c0_2] 31 (0, 0)) bkw hb); have n1_ := Aside0.mk (blk_below (g := gb117) (o := .cells #[.int .i64 ((rd_T69 l0_2 x26_2).f0), .slice (some ad120) ((rd_T69 l0_2 x26_2).f1).length c116_1] 69 (0, 0)) bkw hb); have n2_ := Aside0.mk (below_step blw hb); have n3_ := Aside0.mk (hbox); have n4_ := Aside0.mk ((by rw [hg]; exact (below_size blw) : w.heap.size ≤ gb121)); have n5_ := Aside0.mk ((by rw [hg]; exact (below_size blw) : w.heap.size ≤ gb121)); have n6_ := Aside0.mk ((by rw [hg]; exact Nat.ne_of_lt (blk_lt (g := gb113) (o := .cells #[.int .i64 a0_0, .int .i64 a0_1, .slice (some ad116) l0_2.length c0_2] 31 (0, 0)) bkw) : gb113 ≠ gb121)); have n7_ := Aside0.mk ((by rw [hg]; exact Nat.ne_of_gt (blk_lt (g := gb113) (o := .cells #[.int .i64 a0_0, .int .i64 a0_1, .slice (some ad116) l0_2.length c0_2] 31 (0, 0)) bkw) : gb121 ≠ gb113)); have n8_ := Aside0.mk ((by rw [hg]; exact Nat.ne_of_lt (blk_lt (g := gb117) (o := .cells #[.int .i64 ((rd_T69 l0_2 x26_2).f0), .slice (some ad120) ((rd_T69 l0_2 x26_2).f1).length c116_1] 69 (0, 0)) bkw) : gb117 ≠ gb121)); have n9_ := Aside0.mk ((by rw [hg]; exact Nat.ne_of_gt (blk_lt (g := gb117) (o := .cells #[.int .i64 ((rd_T69 l0_2 x26_2).f0), .slice (some ad120) ((rd_T69 l0_2 x26_2).f1).length c116_1] 69 (0, 0)) bkw) : gb121 ≠ gb117)); clear BK113; clear BK117; clear HB; have BK113 := n0_; have BK117 := n1_; have HB := n2_; have BK121 := n3_; have GW121 := n4_; have GE121 := n5_; have NB113_121 := n6_; have NB121_113 := n7_; have NB117_121 := n8_; have NB121_117 := n9_; clear n0_ n1_ n2_ n3_ n4_ n5_ n6_ n7_ n8_ n9_; clear hb hbox hg; have hnb69 := NB121_113.out; have hnc69 := NB113_121.out; have hnb70 := NB121_117.out; have hnc70 := NB117_121.out; have hcz71_0 : w68.cell? ⟨gb121, 0, none⟩ = some (.string (⟨#[]⟩ : ByteArray)) := (blk_cell BK121.out 0).trans rfl; have hcz71_1 : w68.cell? ⟨gb121, 1, none⟩ = some (.int .i64 0) := (blk_cell BK121.out 1).trans rfl; have hcz71_2 : w68.cell? ⟨gb121, 2, none⟩ = some (.int .i64 0) := (blk_cell BK121.out 2).trans rfl; have hfz71_0 := blk_frozen BK121.out 0; have hfz71_1 := blk_frozen BK121.out 1; have hfz71_2 := blk_frozen BK121.out 2) | (go_at_call 87; (with_reducible refine (spec_GoodName.calls k4 ((rd_T72 ((rd_T69 l0_2 x26_2).f1) x63_4).f0) true _ A45.out).mono ?_); rintro e w' ⟨rfl, ⟨nd, rfl⟩⟩; (try first | exact ⟨rfl, _, World.drewN_drewN _ _ _⟩ | exact ⟨rfl, _, Eq.trans (World.drewN_drewN _ _ _) (congrArg (World.drewN _) (Nat.add_assoc _ _ _))⟩); have hnb72 := NB113_117.out; have hnc72 := NB117_113.out; have hcz73_0 : w68.cell? ⟨gb113, 0, none⟩ = some (.int .i64 a0_0) := (blk_cell BK113.out 0).trans rfl; have hcz73_1 : w68.cell? ⟨gb113, 1, none⟩ = some (.int .i64 a0_1) := (blk_cell BK113.out 1).trans rfl; have hcz73_2 : w68.cell? ⟨gb113, 2, none⟩ = some (.slice (some ad116) l0_2.length c0_2) := (blk_cell BK113.out 2).trans rfl; have hfz73_0 := blk_frozen BK113.out 0; have hfz73_1 := blk_frozen BK113.out 1; have hfz73_2 := blk_frozen BK113.out 2) | (go_at_call 55; (with_reducible refine (spec_l1In.calls ((rd_T72 ((rd_T69 l0_2 x26_2).f1) x63_4).f2) 0 a0_1 true _ A47.out).mono ?_); rintro e w' ⟨rfl, ⟨nd, rfl⟩⟩; (try first | exact ⟨rfl, _, World.drewN_drewN _ _ _⟩ | exact ⟨rfl, _, Eq.trans (World.drewN_drewN _ _ _) (congrArg (World.drewN _) (Nat.add_assoc _ _ _))⟩))))
                    go_roundg k4
                    case measure => have := HJ1.out; have := HK2.out; have := HJ15.out; have := HK4.out; omega
                    case rel => exact ⟨(wrap64 (x63_4 + 1)), (by first | rfl | (simp; done) | (simp [*]; done)), H', ⟨by have := HJ1.out; have := HK2.out; have := HJ15.out; have := HK4.out; omega⟩, ⟨by (with_reducible repeat (first | refine blk_drewN ?_ _ | refine blk_drew ?_ | refine blk_alloc ?_ _)); refine blk_far ?_ NB113_121.out _; (with_reducible repeat (first | refine blk_drewN ?_ _ | refine blk_drew ?_ | refine blk_alloc ?_ _)); refine blk_far ?_ NB113_121.out _; (with_reducible repeat (first | refine blk_drewN ?_ _ | refine blk_drew ?_ | refine blk_alloc ?_ _)); refine blk_far ?_ NB113_121.out _; (with_reducible repeat (first | refine blk_drewN ?_ _ | refine blk_drew ?_ | refine blk_alloc ?_ _)); exact BK113.out⟩, ⟨by (with_reducible repeat (first | refine blk_drewN ?_ _ | refine blk_drew ?_ | refine blk_alloc ?_ _)); refine blk_far ?_ NB117_121.out _; (with_reducible repeat (first | refine blk_drewN ?_ _ | refine blk_drew ?_ | refine blk_alloc ?_ _)); refine blk_far ?_ NB117_121.out _; (with_reducible repeat (first | refine blk_drewN ?_ _ | refine blk_drew ?_ | refine blk_alloc ?_ _)); refine blk_far ?_ NB117_121.out _; (with_reducible repeat (first | refine blk_drewN ?_ _ | refine blk_drew ?_ | refine blk_alloc ?_ _)); exact BK117.out⟩, ⟨blw⟩⟩
                  ·replace c48 := Bool.eq_false_iff.mpr c48
                   subst c48
                   have H1 : (some false) = some r := by rw [if_neg (show ¬ (false = true) by decide)] at H; exact H
                   clear H
                   have H := H1
                   clear H1
                   obtain rfl := Option.some.inj H
                   have p120 : 0 ≤ (x63_4 : Int) := odt
                   have q120 : x63_4 < (((rd_T69 l0_2 x26_2).f1).length : Int) := odt
                   obtain ⟨ad120, e120, hx120_0, hx120_1, hx120_2⟩ := at_T72 HR116_1.out x63_4 p120 q120
                   cases e120
                   replace hx120_0 := (HB.out.cell (World.block_lt_of_cell? w _ hx120_0)).trans hx120_0
                   replace hx120_1 := (HB.out.cell (World.block_lt_of_cell? w _ hx120_1)).trans hx120_1
                   replace hx120_2 := (HB.out.cell (World.block_lt_of_cell? w _ hx120_2)).trans hx120_2
                   replace p120 := eq_true p120
                   replace q120 := eq_true q120
                   go_wp2_with (first | ((with_reducible refine gate_dst (N := 6) rfl ?_); (try (refine gate_guard (by rfl) ?_; dsimp only)); refine box_event ?hg (N := 6) ?hd (cs := #[.string (⟨#[]⟩ : ByteArray), .int .i64 0, .int .i64 0]) (t := 72) ?hr ?_; (case hd => rfl); (case hg => rfl); (case hr => first | (go_simp; done) | (go_simp; rfl)); intro gb121 hg w74 hbox hb; have n0_ := Aside0.mk (blk_below (g := gb113) (o := .cells #[.int .i64 a0_0, .int .i64 a0_1, .slice (some ad116) l0_2.length c0_2] 31 (0, 0)) bkw hb); have n1_ := Aside0.mk (blk_below (g := gb117) (o := .cells #[.int .i64 ((rd_T69 l0_2 x26_2).f0), .slice (some ad120) ((rd_T69 l0_2 x26_2).f1).length c116_1] 69 (0, 0)) bkw hb); have n2_ := Aside0.mk (below_step blw hb); have n3_ := Aside0.mk (hbox); have n4_ := Aside0.mk ((by rw [hg]; exact (below_size blw) : w.heap.size ≤ gb121)); have n5_ := Aside0.mk ((by rw [hg]; exact (below_size blw) : w.heap.size ≤ gb121)); have n6_ := Aside0.mk ((by rw [hg]; exact Nat.ne_of_lt (blk_lt (g := gb113) (o := .cells #[.int .i64 a0_0, .int .i64 a0_1, .slice (some ad116) l0_2.length c0_2] 31 (0, 0)) bkw) : gb113 ≠ gb121)); have n7_ := Aside0.mk ((by rw [hg]; exact Nat.ne_of_gt (blk_lt (g := gb113) (o := .cells #[.int .i64 a0_0, .int .i64 a0_1, .slice (some ad116) l0_2.length c0_2] 31 (0, 0)) bkw) : gb121 ≠ gb113)); have n8_ := Aside0.mk ((by rw [hg]; exact Nat.ne_of_lt (blk_lt (g := gb117) (o := .cells #[.int .i64 ((rd_T69 l0_2 x26_2).f0), .slice (some ad120) ((rd_T69 l0_2 x26_2).f1).length c116_1] 69 (0, 0)) bkw) : gb117 ≠ gb121)); have n9_ := Aside0.mk ((by rw [hg]; exact Nat.ne_of_gt (blk_lt (g := gb117) (o := .cells #[.int .i64 ((rd_T69 l0_2 x26_2).f0), .slice (some ad120) ((rd_T69 l0_2 x26_2).f1).length c116_1] 69 (0, 0)) bkw) : gb121 ≠ gb117)); clear BK113; clear BK117; clear HB; have BK113 := n0_; have BK117 := n1_; have HB := n2_; have BK121 := n3_; have GW121 := n4_; have GE121 := n5_; have NB113_121 := n6_; have NB121_113 := n7_; have NB117_121 := n8_; have NB121_117 := n9_; clear n0_ n1_ n2_ n3_ n4_ n5_ n6_ n7_ n8_ n9_; clear hb hbox hg; have hnb75 := NB121_113.out; have hnc75 := NB113_121.out; have hnb76 := NB121_117.out; have hnc76 := NB117_121.out; have hcz77_0 : w74.cell? ⟨gb121, 0, none⟩ = some (.string (⟨#[]⟩ : ByteArray)) := (blk_cell BK121.out 0).trans rfl; have hcz77_1 : w74.cell? ⟨gb121, 1, none⟩ = some (.int .i64 0) := (blk_cell BK121.out 1).trans rfl; have hcz77_2 : w74.cell? ⟨gb121, 2, none⟩ = some (.int .i64 0) := (blk_cell BK121.out 2).trans rfl; have hfz77_0 := blk_frozen BK121.out 0; have hfz77_1 := blk_frozen BK121.out 1; have hfz77_2 := blk_frozen BK121.out 2; have hnb78 := NB113_117.out; have hnc78 := NB117_113.out; have hcz79_0 : w74.cell? ⟨gb113, 0, none⟩ = some (.int .i64 a0_0) := (blk_cell BK113.out 0).trans rfl; have hcz79_1 : w74.cell? ⟨gb113, 1, none⟩ = some (.int .i64 a0_1) := (blk_cell BK113.out 1).trans rfl; have hcz79_2 : w74.cell? ⟨gb113, 2, none⟩ = some (.slice (some ad116) l0_2.length c0_2) := (blk_cell BK113.out 2).trans rfl; have hfz79_0 := blk_frozen BK113.out 0; have hfz79_1 := blk_frozen BK113.out 1; have hfz79_2 := blk_frozen BK113.out 2) | (go_at_call 87; (with_reducible refine (spec_GoodName.calls k4 ((rd_T72 ((rd_T69 l0_2 x26_2).f1) x63_4).f0) true _ A45.out).mono ?_); rintro e w' ⟨rfl, ⟨nd, rfl⟩⟩; (try first | exact ⟨rfl, _, World.drewN_drewN _ _ _⟩ | exact ⟨rfl, _, Eq.trans (World.drewN_drewN _ _ _) (congrArg (World.drewN _) (Nat.add_assoc _ _ _))⟩)) | (go_at_call 55; (with_reducible refine (spec_l1In.calls ((rd_T72 ((rd_T69 l0_2 x26_2).f1) x63_4).f2) 0 a0_1 false _ A47.out).mono ?_); rintro e w' ⟨rfl, ⟨nd, rfl⟩⟩; (try first | exact ⟨rfl, _, World.drewN_drewN _ _ _⟩ | exact ⟨rfl, _, Eq.trans (World.drewN_drewN _ _ _) (congrArg (World.drewN _) (Nat.add_assoc _ _ _))⟩)))
                   repeat (go_quiet (first | ((with_reducible refine gate_dst (N := 6) rfl ?_); (try (refine gate_guard (by rfl) ?_; dsimp only)); refine box_event ?hg (N := 6) ?hd (cs := #[.string (⟨#[]⟩ : ByteArray), .int .i64 0, .int .i64 0]) (t := 72) ?hr ?_; (case hd => rfl); (case hg => rfl); (case hr => first | (go_simp; done) | (go_simp; rfl)); intro gb121 hg w74 hbox hb; have n0_ := Aside0.mk (blk_below (g := gb113) (o := .cells #[.int .i64 a0_0, .int .i64 a0_1, .slice (some ad116) l0_2.length c0_2] 31 (0, 0)) bkw hb); have n1_ := Aside0.mk (blk_below (g := gb117) (o := .cells #[.int .i64 ((rd_T69 l0_2 x26_2).f0), .slice (some ad120) ((rd_T69 l0_2 x26_2).f1).length c116_1] 69 (0, 0)) bkw hb); have n2_ := Aside0.mk (below_step blw hb); have n3_ := Aside0.mk (hbox); have n4_ := Aside0.mk ((by rw [hg]; exact (below_size blw) : w.heap.size ≤ gb121)); have n5_ := Aside0.mk ((by rw [hg]; exact (below_size blw) : w.heap.size ≤ gb121)); have n6_ := Aside0.mk ((by rw [hg]; exact Nat.ne_of_lt (blk_lt (g := gb113) (o := .cells #[.int .i64 a0_0, .int .i64 a0_1, .slice (some ad116) l0_2.length c0_2] 31 (0, 0)) bkw) : gb113 ≠ gb121)); have n7_ := Aside0.mk ((by rw [hg]; exact Nat.ne_of_gt (blk_lt (g := gb113) (o := .cells #[.int .i64 a0_0, .int .i64 a0_1, .slice (some ad116) l0_2.length c0_2] 31 (0, 0)) bkw) : gb121 ≠ gb113)); have n8_ := Aside0.mk ((by rw [hg]; exact Nat.ne_of_lt (blk_lt (g := gb117) (o := .cells #[.int .i64 ((rd_T69 l0_2 x26_2).f0), .slice (some ad120) ((rd_T69 l0_2 x26_2).f1).length c116_1] 69 (0, 0)) bkw) : gb117 ≠ gb121)); have n9_ := Aside0.mk ((by rw [hg]; exact Nat.ne_of_gt (blk_lt (g := gb117) (o := .cells #[.int .i64 ((rd_T69 l0_2 x26_2).f0), .slice (some ad120) ((rd_T69 l0_2 x26_2).f1).length c116_1] 69 (0, 0)) bkw) : gb121 ≠ gb117)); clear BK113; clear BK117; clear HB; have BK113 := n0_; have BK117 := n1_; have HB := n2_; have BK121 := n3_; have GW121 := n4_; have GE121 := n5_; have NB113_121 := n6_; have NB121_113 := n7_; have NB117_121 := n8_; have NB121_117 := n9_; clear n0_ n1_ n2_ n3_ n4_ n5_ n6_ n7_ n8_ n9_; clear hb hbox hg; have hnb75 := NB121_113.out; have hnc75 := NB113_121.out; have hnb76 := NB121_117.out; have hnc76 := NB117_121.out; have hcz77_0 : w74.cell? ⟨gb121, 0, none⟩ = some (.string (⟨#[]⟩ : ByteArray)) := (blk_cell BK121.out 0).trans rfl; have hcz77_1 : w74.cell? ⟨gb121, 1, none⟩ = some (.int .i64 0) := (blk_cell BK121.out 1).trans rfl; have hcz77_2 : w74.cell? ⟨gb121, 2, none⟩ = some (.int .i64 0) := (blk_cell BK121.out 2).trans rfl; have hfz77_0 := blk_frozen BK121.out 0; have hfz77_1 := blk_frozen BK121.out 1; have hfz77_2 := blk_frozen BK121.out 2; have hnb78 := NB113_117.out; have hnc78 := NB117_113.out; have hcz79_0 : w74.cell? ⟨gb113, 0, none⟩ = some (.int .i64 a0_0) := (blk_cell BK113.out 0).trans rfl; have hcz79_1 : w74.cell? ⟨gb113, 1, none⟩ = some (.int .i64 a0_1) := (blk_cell BK113.out 1).trans rfl; have hcz79_2 : w74.cell? ⟨gb113, 2, none⟩ = some (.slice (some ad116) l0_2.length c0_2) := (blk_cell BK113.out 2).trans rfl; have hfz79_0 := blk_frozen BK113.out 0; have hfz79_1 := blk_frozen BK113.out 1; have hfz79_2 := blk_frozen BK113.out 2) | (go_at_call 87; (with_reducible refine (spec_GoodName.calls k4 ((rd_T72 ((rd_T69 l0_2 x26_2).f1) x63_4).f0) true _ A45.out).mono ?_); rintro e w' ⟨rfl, ⟨nd, rfl⟩⟩; (try first | exact ⟨rfl, _, World.drewN_drewN _ _ _⟩ | exact ⟨rfl, _, Eq.trans (World.drewN_drewN _ _ _) (congrArg (World.drewN _) (Nat.add_assoc _ _ _))⟩)) | (go_at_call 55; (with_reducible refine (spec_l1In.calls ((rd_T72 ((rd_T69 l0_2 x26_2).f1) x63_4).f2) 0 a0_1 false _ A47.out).mono ?_); rintro e w' ⟨rfl, ⟨nd, rfl⟩⟩; (try first | exact ⟨rfl, _, World.drewN_drewN _ _ _⟩ | exact ⟨rfl, _, Eq.trans (World.drewN_drewN _ _ _) (congrArg (World.drewN _) (Nat.add_assoc _ _ _))⟩))); try go_wp2_with (first | ((with_reducible refine gate_dst (N := 6) rfl ?_); (try (refine gate_guard (by rfl) ?_; dsimp only)); refine box_event ?hg (N := 6) ?hd (cs := #[.string (⟨#[]⟩ : ByteArray), .int .i64 0, .int .i64 0]) (t := 72) ?hr ?_; (case hd => rfl); (case hg => rfl); (case hr => first | (go_simp; done) | (go_simp; rfl)); intro gb121 hg w74 hbox hb; have n0_ := Aside0.mk (blk_below (g := gb113) (o := .cells #[.int .i64 a0_0, .int .i64 a0_1, .slice (some ad116) l0_2.length c0_2] 31 (0, 0)) bkw hb); have n1_ := Aside0.mk (blk_below (g := gb117) (o := .cells #[.int .i64 ((rd_T69 l0_2 x26_2).f0), .slice (some ad120) ((rd_T69 l0_2 x26_2).f1).length c116_1] 69 (0, 0)) bkw hb); have n2_ := Aside0.mk (below_step blw hb); have n3_ := Aside0.mk (hbox); have n4_ := Aside0.mk ((by rw [hg]; exact (below_size blw) : w.heap.size ≤ gb121)); have n5_ := Aside0.mk ((by rw [hg]; exact (below_size blw) : w.heap.size ≤ gb121)); have n6_ := Aside0.mk ((by rw [hg]; exact Nat.ne_of_lt (blk_lt (g := gb113) (o := .cells #[.int .i64 a0_0, .int .i64 a0_1, .slice (some ad116) l0_2.length c0_2] 31 (0, 0)) bkw) : gb113 ≠ gb121)); have n7_ := Aside0.mk ((by rw [hg]; exact Nat.ne_of_gt (blk_lt (g := gb113) (o := .cells #[.int .i64 a0_0, .int .i64 a0_1, .slice (some ad116) l0_2.length c0_2] 31 (0, 0)) bkw) : gb121 ≠ gb113)); have n8_ := Aside0.mk ((by rw [hg]; exact Nat.ne_of_lt (blk_lt (g := gb117) (o := .cells #[.int .i64 ((rd_T69 l0_2 x26_2).f0), .slice (some ad120) ((rd_T69 l0_2 x26_2).f1).length c116_1] 69 (0, 0)) bkw) : gb117 ≠ gb121)); have n9_ := Aside0.mk ((by rw [hg]; exact Nat.ne_of_gt (blk_lt (g := gb117) (o := .cells #[.int .i64 ((rd_T69 l0_2 x26_2).f0), .slice (some ad120) ((rd_T69 l0_2 x26_2).f1).length c116_1] 69 (0, 0)) bkw) : gb121 ≠ gb117)); clear BK113; clear BK117; clear HB; have BK113 := n0_; have BK117 := n1_; have HB := n2_; have BK121 := n3_; have GW121 := n4_; have GE121 := n5_; have NB113_121 := n6_; have NB121_113 := n7_; have NB117_121 := n8_; have NB121_117 := n9_; clear n0_ n1_ n2_ n3_ n4_ n5_ n6_ n7_ n8_ n9_; clear hb hbox hg; have hnb75 := NB121_113.out; have hnc75 := NB113_121.out; have hnb76 := NB121_117.out; have hnc76 := NB117_121.out; have hcz77_0 : w74.cell? ⟨gb121, 0, none⟩ = some (.string (⟨#[]⟩ : ByteArray)) := (blk_cell BK121.out 0).trans rfl; have hcz77_1 : w74.cell? ⟨gb121, 1, none⟩ = some (.int .i64 0) := (blk_cell BK121.out 1).trans rfl; have hcz77_2 : w74.cell? ⟨gb121, 2, none⟩ = some (.int .i64 0) := (blk_cell BK121.out 2).trans rfl; have hfz77_0 := blk_frozen BK121.out 0; have hfz77_1 := blk_frozen BK121.out 1; have hfz77_2 := blk_frozen BK121.out 2) | (go_at_call 87; (with_reducible refine (spec_GoodName.calls k4 ((rd_T72 ((rd_T69 l0_2 x26_2).f1) x63_4).f0) true _ A45.out).mono ?_); rintro e w' ⟨rfl, ⟨nd, rfl⟩⟩; (try first | exact ⟨rfl, _, World.drewN_drewN _ _ _⟩ | exact ⟨rfl, _, Eq.trans (World.drewN_drewN _ _ _) (congrArg (World.drewN _) (Nat.add_assoc _ _ _))⟩); have hnb78 := NB113_117.out; have hnc78 := NB117_113.out; have hcz79_0 : w74.cell? ⟨gb113, 0, none⟩ = some (.int .i64 a0_0) := (blk_cell BK113.out 0).trans rfl; have hcz79_1 : w74.cell? ⟨gb113, 1, none⟩ = some (.int .i64 a0_1) := (blk_cell BK113.out 1).trans rfl; have hcz79_2 : w74.cell? ⟨gb113, 2, none⟩ = some (.slice (some ad116) l0_2.length c0_2) := (blk_cell BK113.out 2).trans rfl; have hfz79_0 := blk_frozen BK113.out 0; have hfz79_1 := blk_frozen BK113.out 1; have hfz79_2 := blk_frozen BK113.out 2) | (go_at_call 55; (with_reducible refine (spec_l1In.calls ((rd_T72 ((rd_T69 l0_2 x26_2).f1) x63_4).f2) 0 a0_1 false _ A47.out).mono ?_); rintro e w' ⟨rfl, ⟨nd, rfl⟩⟩; (try first | exact ⟨rfl, _, World.drewN_drewN _ _ _⟩ | exact ⟨rfl, _, Eq.trans (World.drewN_drewN _ _ _) (congrArg (World.drewN _) (Nat.add_assoc _ _ _))⟩))))
                   go_ret
                   exact ⟨by first | rfl | (simp [errW_none, errW_some] <;> rfl) | (simp [*, errW_none, errW_some] <;> rfl), blw⟩
                 ·replace c46 := Bool.eq_false_iff.mpr c46
                  subst c46
                  have H1 : (some false) = some r := by rw [if_neg (show ¬ (false = true) by decide)] at H; exact H
                  clear H
                  have H := H1
                  clear H1
                  obtain rfl := Option.some.inj H
                  have p120 : 0 ≤ (x63_4 : Int) := odt
                  have q120 : x63_4 < (((rd_T69 l0_2 x26_2).f1).length : Int) := odt
                  obtain ⟨ad120, e120, hx120_0, hx120_1, hx120_2⟩ := at_T72 HR116_1.out x63_4 p120 q120
                  cases e120
                  replace hx120_0 := (HB.out.cell (World.block_lt_of_cell? w _ hx120_0)).trans hx120_0
                  replace hx120_1 := (HB.out.cell (World.block_lt_of_cell? w _ hx120_1)).trans hx120_1
                  replace hx120_2 := (HB.out.cell (World.block_lt_of_cell? w _ hx120_2)).trans hx120_2
                  replace p120 := eq_true p120
                  replace q120 := eq_true q120
                  go_wp2_with (first | ((with_reducible refine gate_dst (N := 6) rfl ?_); (try (refine gate_guard (by rfl) ?_; dsimp only)); refine box_event ?hg (N := 6) ?hd (cs := #[.string (⟨#[]⟩ : ByteArray), .int .i64 0, .int .i64 0]) (t := 72) ?hr ?_; (case hd => rfl); (case hg => rfl); (case hr => first | (go_simp; done) | (go_simp; rfl)); intro gb121 hg w80 hbox hb; have n0_ := Aside0.mk (blk_below (g := gb113) (o := .cells #[.int .i64 a0_0, .int .i64 a0_1, .slice (some ad116) l0_2.length c0_2] 31 (0, 0)) bkw hb); have n1_ := Aside0.mk (blk_below (g := gb117) (o := .cells #[.int .i64 ((rd_T69 l0_2 x26_2).f0), .slice (some ad120) ((rd_T69 l0_2 x26_2).f1).length c116_1] 69 (0, 0)) bkw hb); have n2_ := Aside0.mk (below_step blw hb); have n3_ := Aside0.mk (hbox); have n4_ := Aside0.mk ((by rw [hg]; exact (below_size blw) : w.heap.size ≤ gb121)); have n5_ := Aside0.mk ((by rw [hg]; exact (below_size blw) : w.heap.size ≤ gb121)); have n6_ := Aside0.mk ((by rw [hg]; exact Nat.ne_of_lt (blk_lt (g := gb113) (o := .cells #[.int .i64 a0_0, .int .i64 a0_1, .slice (some ad116) l0_2.length c0_2] 31 (0, 0)) bkw) : gb113 ≠ gb121)); have n7_ := Aside0.mk ((by rw [hg]; exact Nat.ne_of_gt (blk_lt (g := gb113) (o := .cells #[.int .i64 a0_0, .int .i64 a0_1, .slice (some ad116) l0_2.length c0_2] 31 (0, 0)) bkw) : gb121 ≠ gb113)); have n8_ := Aside0.mk ((by rw [hg]; exact Nat.ne_of_lt (blk_lt (g := gb117) (o := .cells #[.int .i64 ((rd_T69 l0_2 x26_2).f0), .slice (some ad120) ((rd_T69 l0_2 x26_2).f1).length c116_1] 69 (0, 0)) bkw) : gb117 ≠ gb121)); have n9_ := Aside0.mk ((by rw [hg]; exact Nat.ne_of_gt (blk_lt (g := gb117) (o := .cells #[.int .i64 ((rd_T69 l0_2 x26_2).f0), .slice (some ad120) ((rd_T69 l0_2 x26_2).f1).length c116_1] 69 (0, 0)) bkw) : gb121 ≠ gb117)); clear BK113; clear BK117; clear HB; have BK113 := n0_; have BK117 := n1_; have HB := n2_; have BK121 := n3_; have GW121 := n4_; have GE121 := n5_; have NB113_121 := n6_; have NB121_113 := n7_; have NB117_121 := n8_; have NB121_117 := n9_; clear n0_ n1_ n2_ n3_ n4_ n5_ n6_ n7_ n8_ n9_; clear hb hbox hg; have hnb81 := NB121_113.out; have hnc81 := NB113_121.out; have hnb82 := NB121_117.out; have hnc82 := NB117_121.out; have hcz83_0 : w80.cell? ⟨gb121, 0, none⟩ = some (.string (⟨#[]⟩ : ByteArray)) := (blk_cell BK121.out 0).trans rfl; have hcz83_1 : w80.cell? ⟨gb121, 1, none⟩ = some (.int .i64 0) := (blk_cell BK121.out 1).trans rfl; have hcz83_2 : w80.cell? ⟨gb121, 2, none⟩ = some (.int .i64 0) := (blk_cell BK121.out 2).trans rfl; have hfz83_0 := blk_frozen BK121.out 0; have hfz83_1 := blk_frozen BK121.out 1; have hfz83_2 := blk_frozen BK121.out 2) | (go_at_call 87; (with_reducible refine (spec_GoodName.calls k4 ((rd_T72 ((rd_T69 l0_2 x26_2).f1) x63_4).f0) false _ A45.out).mono ?_); rintro e w' ⟨rfl, ⟨nd, rfl⟩⟩; (try first | exact ⟨rfl, _, World.drewN_drewN _ _ _⟩ | exact ⟨rfl, _, Eq.trans (World.drewN_drewN _ _ _) (congrArg (World.drewN _) (Nat.add_assoc _ _ _))⟩)))
                  repeat (go_quiet (first | ((with_reducible refine gate_dst (N := 6) rfl ?_); (try (refine gate_guard (by rfl) ?_; dsimp only)); refine box_event ?hg (N := 6) ?hd (cs := #[.string (⟨#[]⟩ : ByteArray), .int .i64 0, .int .i64 0]) (t := 72) ?hr ?_; (case hd => rfl); (case hg => rfl); (case hr => first | (go_simp; done) | (go_simp; rfl)); intro gb121 hg w80 hbox hb; have n0_ := Aside0.mk (blk_below (g := gb113) (o := .cells #[.int .i64 a0_0, .int .i64 a0_1, .slice (some ad116) l0_2.length c0_2] 31 (0, 0)) bkw hb); have n1_ := Aside0.mk (blk_below (g := gb117) (o := .cells #[.int .i64 ((rd_T69 l0_2 x26_2).f0), .slice (some ad120) ((rd_T69 l0_2 x26_2).f1).length c116_1] 69 (0, 0)) bkw hb); have n2_ := Aside0.mk (below_step blw hb); have n3_ := Aside0.mk (hbox); have n4_ := Aside0.mk ((by rw [hg]; exact (below_size blw) : w.heap.size ≤ gb121)); have n5_ := Aside0.mk ((by rw [hg]; exact (below_size blw) : w.heap.size ≤ gb121)); have n6_ := Aside0.mk ((by rw [hg]; exact Nat.ne_of_lt (blk_lt (g := gb113) (o := .cells #[.int .i64 a0_0, .int .i64 a0_1, .slice (some ad116) l0_2.length c0_2] 31 (0, 0)) bkw) : gb113 ≠ gb121)); have n7_ := Aside0.mk ((by rw [hg]; exact Nat.ne_of_gt (blk_lt (g := gb113) (o := .cells #[.int .i64 a0_0, .int .i64 a0_1, .slice (some ad116) l0_2.length c0_2] 31 (0, 0)) bkw) : gb121 ≠ gb113)); have n8_ := Aside0.mk ((by rw [hg]; exact Nat.ne_of_lt (blk_lt (g := gb117) (o := .cells #[.int .i64 ((rd_T69 l0_2 x26_2).f0), .slice (some ad120) ((rd_T69 l0_2 x26_2).f1).length c116_1] 69 (0, 0)) bkw) : gb117 ≠ gb121)); have n9_ := Aside0.mk ((by rw [hg]; exact Nat.ne_of_gt (blk_lt (g := gb117) (o := .cells #[.int .i64 ((rd_T69 l0_2 x26_2).f0), .slice (some ad120) ((rd_T69 l0_2 x26_2).f1).length c116_1] 69 (0, 0)) bkw) : gb121 ≠ gb117)); clear BK113; clear BK117; clear HB; have BK113 := n0_; have BK117 := n1_; have HB := n2_; have BK121 := n3_; have GW121 := n4_; have GE121 := n5_; have NB113_121 := n6_; have NB121_113 := n7_; have NB117_121 := n8_; have NB121_117 := n9_; clear n0_ n1_ n2_ n3_ n4_ n5_ n6_ n7_ n8_ n9_; clear hb hbox hg; have hnb81 := NB121_113.out; have hnc81 := NB113_121.out; have hnb82 := NB121_117.out; have hnc82 := NB117_121.out; have hcz83_0 : w80.cell? ⟨gb121, 0, none⟩ = some (.string (⟨#[]⟩ : ByteArray)) := (blk_cell BK121.out 0).trans rfl; have hcz83_1 : w80.cell? ⟨gb121, 1, none⟩ = some (.int .i64 0) := (blk_cell BK121.out 1).trans rfl; have hcz83_2 : w80.cell? ⟨gb121, 2, none⟩ = some (.int .i64 0) := (blk_cell BK121.out 2).trans rfl; have hfz83_0 := blk_frozen BK121.out 0; have hfz83_1 := blk_frozen BK121.out 1; have hfz83_2 := blk_frozen BK121.out 2) | (go_at_call 87; (with_reducible refine (spec_GoodName.calls k4 ((rd_T72 ((rd_T69 l0_2 x26_2).f1) x63_4).f0) false _ A45.out).mono ?_); rintro e w' ⟨rfl, ⟨nd, rfl⟩⟩; (try first | exact ⟨rfl, _, World.drewN_drewN _ _ _⟩ | exact ⟨rfl, _, Eq.trans (World.drewN_drewN _ _ _) (congrArg (World.drewN _) (Nat.add_assoc _ _ _))⟩))); try go_wp2_with (first | ((with_reducible refine gate_dst (N := 6) rfl ?_); (try (refine gate_guard (by rfl) ?_; dsimp only)); refine box_event ?hg (N := 6) ?hd (cs := #[.string (⟨#[]⟩ : ByteArray), .int .i64 0, .int .i64 0]) (t := 72) ?hr ?_; (case hd => rfl); (case hg => rfl); (case hr => first | (go_simp; done) | (go_simp; rfl)); intro gb121 hg w80 hbox hb; have n0_ := Aside0.mk (blk_below (g := gb113) (o := .cells #[.int .i64 a0_0, .int .i64 a0_1, .slice (some ad116) l0_2.length c0_2] 31 (0, 0)) bkw hb); have n1_ := Aside0.mk (blk_below (g := gb117) (o := .cells #[.int .i64 ((rd_T69 l0_2 x26_2).f0), .slice (some ad120) ((rd_T69 l0_2 x26_2).f1).length c116_1] 69 (0, 0)) bkw hb); have n2_ := Aside0.mk (below_step blw hb); have n3_ := Aside0.mk (hbox); have n4_ := Aside0.mk ((by rw [hg]; exact (below_size blw) : w.heap.size ≤ gb121)); have n5_ := Aside0.mk ((by rw [hg]; exact (below_size blw) : w.heap.size ≤ gb121)); have n6_ := Aside0.mk ((by rw [hg]; exact Nat.ne_of_lt (blk_lt (g := gb113) (o := .cells #[.int .i64 a0_0, .int .i64 a0_1, .slice (some ad116) l0_2.length c0_2] 31 (0, 0)) bkw) : gb113 ≠ gb121)); have n7_ := Aside0.mk ((by rw [hg]; exact Nat.ne_of_gt (blk_lt (g := gb113) (o := .cells #[.int .i64 a0_0, .int .i64 a0_1, .slice (some ad116) l0_2.length c0_2] 31 (0, 0)) bkw) : gb121 ≠ gb113)); have n8_ := Aside0.mk ((by rw [hg]; exact Nat.ne_of_lt (blk_lt (g := gb117) (o := .cells #[.int .i64 ((rd_T69 l0_2 x26_2).f0), .slice (some ad120) ((rd_T69 l0_2 x26_2).f1).length c116_1] 69 (0, 0)) bkw) : gb117 ≠ gb121)); have n9_ := Aside0.mk ((by rw [hg]; exact Nat.ne_of_gt (blk_lt (g := gb117) (o := .cells #[.int .i64 ((rd_T69 l0_2 x26_2).f0), .slice (some ad120) ((rd_T69 l0_2 x26_2).f1).length c116_1] 69 (0, 0)) bkw) : gb121 ≠ gb117)); clear BK113; clear BK117; clear HB; have BK113 := n0_; have BK117 := n1_; have HB := n2_; have BK121 := n3_; have GW121 := n4_; have GE121 := n5_; have NB113_121 := n6_; have NB121_113 := n7_; have NB117_121 := n8_; have NB121_117 := n9_; clear n0_ n1_ n2_ n3_ n4_ n5_ n6_ n7_ n8_ n9_; clear hb hbox hg; have hnb81 := NB121_113.out; have hnc81 := NB113_121.out; have hnb82 := NB121_117.out; have hnc82 := NB117_121.out; have hcz83_0 : w80.cell? ⟨gb121, 0, none⟩ = some (.string (⟨#[]⟩ : ByteArray)) := (blk_cell BK121.out 0).trans rfl; have hcz83_1 : w80.cell? ⟨gb121, 1, none⟩ = some (.int .i64 0) := (blk_cell BK121.out 1).trans rfl; have hcz83_2 : w80.cell? ⟨gb121, 2, none⟩ = some (.int .i64 0) := (blk_cell BK121.out 2).trans rfl; have hfz83_0 := blk_frozen BK121.out 0; have hfz83_1 := blk_frozen BK121.out 1; have hfz83_2 := blk_frozen BK121.out 2) | (go_at_call 87; (with_reducible refine (spec_GoodName.calls k4 ((rd_T72 ((rd_T69 l0_2 x26_2).f1) x63_4).f0) false _ A45.out).mono ?_); rintro e w' ⟨rfl, ⟨nd, rfl⟩⟩; (try first | exact ⟨rfl, _, World.drewN_drewN _ _ _⟩ | exact ⟨rfl, _, Eq.trans (World.drewN_drewN _ _ _) (congrArg (World.drewN _) (Nat.add_assoc _ _ _))⟩))))
                  go_ret
                  exact ⟨by first | rfl | (simp [errW_none, errW_some] <;> rfl) | (simp [*, errW_none, errW_some] <;> rfl), blw⟩
                ·rw [if_neg c44] at H
                 exact absurd H (by simp)
               ·rw [if_neg c43] at H
                exact absurd H (by simp)
              ·rw [if_neg c42] at H
               have c42b0 : decide (x63_4 < (((rd_T69 l0_2 x26_2).f1).length : Int)) = false := decide_eq_false c42
               clear c42
               have H' := Aside0.mk H
               clear H
               go_wp2
               repeat (go_quiet (fail); try go_wp2)
               go_roundg k4
               case measure => have := HJ1.out; have := HK2.out; have := HJ15.out; have := HK4.out; omega
               case rel => exact ⟨(wrap64 (x26_2 + 1)), (by first | rfl | (simp; done) | (simp [*]; done)), H', ⟨by have := HJ1.out; have := HK2.out; have := HJ15.out; have := HK4.out; omega⟩, ⟨by (with_reducible repeat (first | refine blk_drewN ?_ _ | refine blk_drew ?_ | refine blk_alloc ?_ _)); exact BK113.out⟩, ⟨blw⟩⟩
        ·rw [if_neg c15] at H
         exact absurd H (by simp)
       ·rw [if_neg c14] at H
        exact absurd H (by simp)
      ·rw [if_neg c13] at H
       have c13b0 : decide (x26_2 < (l0_2.length : Int)) = false := decide_eq_false c13
       clear c13
       obtain rfl := Option.some.inj H
       go_wp2
       repeat (go_quiet (fail); try go_wp2)
       go_ret
       exact ⟨by first | rfl | (simp [errW_none, errW_some] <;> rfl) | (simp [*, errW_none, errW_some] <;> rfl), blw⟩

end Go.Proofs.Ytiaajmnmbjheoaa.PFnExactKindsOf
