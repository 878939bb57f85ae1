/- The machine's side of a law, function by function: a Lean function with the Go function's answers and the proof that the Go code comes to them. No condition. Written by this session's program over the kit's print, this session's own contracts set in. -/
import Derived.Test.YtmabgkhkokckgaaPFnExactCutNodex0
import Derived.Test.YtmabgkhkokckgaaPFnExactCutNodex1
import Derived.Test.YtmabgkhkokckgaaPFnExactCutNodex3
namespace Go.Proofs.Ytmabgkhkokckgaa.PFnExactCutNode
open Go.RowKit Go.Proofs.YtmabgkhkokckgaaW.PrintWords Go.Proofs.YtmabgkhkokckgaaW.PrintLast Go.Proofs.YtmabgkhkokckgaaW.PrintMore
attribute [local go_sem] max2_int min2_int max_two min_two max_three min_three max_four min_four   -- for this text's walks alone
set_option linter.unusedVariables false
set_option linter.unusedSimpArgs false

/-! ### spec_CutNode: function 26 -/
mutual
def spec_CutNode.j0 : Nat → List (S73) → Int → Bool → Option ((List (S73)) × Bool)
  | 0, _, _, _ => none
  | k + 1, x0, x1, x20 => if x20 = true then (some (([] : List (S73)), false)) else (if 0 ≤ (x0.length : Int) then (if ((x0.length : Int) : Int).toNat ≤ 35184372088832 then (spec_CutNode.l0 k x1 (List.replicate ((x0.length : Int) : Int).toNat 0) ([] : List (S73)) x0 (x0.length : Int) 0) else (none)) else (none))
def spec_CutNode.l0 : Nat → Int → List Int → List (S73) → List (S73) → Int → Int → Option ((List (S73)) × Bool)
  | 0, _, _, _, _, _, _ => none
  | k + 1, x1, x6, x7, x24, x25, x26 => if x26 < x25 then (if 0 ≤ x26 then (if x26 < (x24.length : Int) then (if x26 < (x6.length : Int) then ((some (x6.set (x26 : Int).toNat (-1) : List Int)).bind fun y154 => (if x26 = x1 then (spec_CutNode.j2 k x1 y154 x7 x26 x24 x25 x26 true ((rd_T73 x24 x26).f0) ((rd_T73 x24 x26).f1) ((rd_T73 x24 x26).f2) ((rd_T73 x24 x26).f3) ((rd_T73 x24 x26).f4) ((rd_T73 x24 x26).f5)) else (if ((rd_T73 x24 x26).f1) ≥ 0 then (if 0 ≤ ((rd_T73 x24 x26).f1) then (if ((rd_T73 x24 x26).f1) < (x6.length : Int) then (spec_CutNode.j2 k x1 y154 x7 x26 x24 x25 x26 (decide ((rd y154 ((rd_T73 x24 x26).f1)) < 0)) ((rd_T73 x24 x26).f0) ((rd_T73 x24 x26).f1) ((rd_T73 x24 x26).f2) ((rd_T73 x24 x26).f3) ((rd_T73 x24 x26).f4) ((rd_T73 x24 x26).f5)) else (none)) else (none)) else (spec_CutNode.j2 k x1 y154 x7 x26 x24 x25 x26 false ((rd_T73 x24 x26).f0) ((rd_T73 x24 x26).f1) ((rd_T73 x24 x26).f2) ((rd_T73 x24 x26).f3) ((rd_T73 x24 x26).f4) ((rd_T73 x24 x26).f5))))) else (none)) else (none)) else (none)) else (some (x7, true))
def spec_CutNode.j2 : Nat → Int → List Int → List (S73) → Int → List (S73) → Int → Int → Bool → ByteArray → Int → Int → Int → Int → Bool → Option ((List (S73)) × Bool)
  | 0, _, _, _, _, _, _, _, _, _, _, _, _, _, _ => none
  | k + 1, x1, x6, x7, x8, x24, x25, x26, x49, x154000, x154001, x154002, x154003, x154004, x154005 => if x49 = true then (spec_CutNode.l0 k x1 x6 x7 x24 x25 (wrap64 (x26 + 1))) else (if x154001 ≥ 0 then (if 0 ≤ x154001 then (if x154001 < (x6.length : Int) then (if 0 ≤ x8 then (if x8 < (x6.length : Int) then (if x7.length < 2513169434916 then (spec_CutNode.l0 k x1 (x6.set (x8 : Int).toNat (x7.length : Int)) (x7 ++ [(⟨x154000, rd x6 x154001, x154002, x154003, x154004, x154005⟩ : S73)]) x24 x25 (wrap64 (x26 + 1))) else (none)) else (none)) else (none)) else (none)) else (none)) else (if 0 ≤ x8 then (if x8 < (x6.length : Int) then (if x7.length < 2513169434916 then (spec_CutNode.l0 k x1 (x6.set (x8 : Int).toNat (x7.length : Int)) (x7 ++ [(⟨x154000, x154001, x154002, x154003, x154004, x154005⟩ : S73)]) x24 x25 (wrap64 (x26 + 1))) else (none)) else (none)) else (none)))
end
def spec_CutNode.f (k : Nat) (l0 : List (S73)) (a1 : Int) : Option ((List (S73)) × Bool) := (spec_GoodScene.f k l0).bind fun t147 => (if t147 = true then ((spec_l1In.f a1 0 (wrap64 ((l0.length : Int) - 1))).bind fun t148 => (spec_CutNode.j0 k l0 a1 (!t148))) else (spec_CutNode.j0 k l0 a1 true))
theorem spec_CutNode.mono_l : ∀ k, (∀ y0 y1 y2, LeO (spec_CutNode.j0 k y0 y1 y2) (spec_CutNode.j0 (k + 1) y0 y1 y2)) ∧ (∀ y0 y1 y2 y3 y4 y5, LeO (spec_CutNode.l0 k y0 y1 y2 y3 y4 y5) (spec_CutNode.l0 (k + 1) y0 y1 y2 y3 y4 y5)) ∧ (∀ y0 y1 y2 y3 y4 y5 y6 y7 y8 y9 y10 y11 y12 y13, LeO (spec_CutNode.j2 k y0 y1 y2 y3 y4 y5 y6 y7 y8 y9 y10 y11 y12 y13) (spec_CutNode.j2 (k + 1) y0 y1 y2 y3 y4 y5 y6 y7 y8 y9 y10 y11 y12 y13))
  | 0 => ⟨fun _ _ _ r h => by simp [spec_CutNode.j0] at h, fun _ _ _ _ _ _ r h => by simp [spec_CutNode.l0] at h, fun _ _ _ _ _ _ _ _ _ _ _ _ _ _ r h => by simp [spec_CutNode.j2] at h⟩
  | k + 1 => by
    obtain ⟨ih0, ih1, ih2⟩ := spec_CutNode.mono_l k
    refine ⟨?_, ?_, ?_⟩
    · intro y0 y1 y2
      unfold spec_CutNode.j0
      repeat' first
      | (with_reducible exact ih0 _ _ _)
      | (with_reducible exact ih1 _ _ _ _ _ _)
      | (with_reducible exact ih2 _ _ _ _ _ _ _ _ _ _ _ _ _ _)
      | (with_reducible exact spec_GoodScene.mono _ _)
      | (with_reducible exact LeO.refl _)
      | (with_reducible exact LeO.none _)
      | (with_reducible refine LeO.ite ?_ ?_)
      | (with_reducible refine LeO.bind ?_ (fun _ => ?_))
      | exact ih0 _ _ _
      | exact ih1 _ _ _ _ _ _
      | exact ih2 _ _ _ _ _ _ _ _ _ _ _ _ _ _
      | exact spec_GoodScene.mono _ _
      | exact LeO.none _
      | refine LeO.ite ?_ ?_
      | refine LeO.bind ?_ (fun _ => ?_)
    · intro y0 y1 y2 y3 y4 y5
      unfold spec_CutNode.l0
      repeat' first
      | (with_reducible exact ih0 _ _ _)
      | (with_reducible exact ih1 _ _ _ _ _ _)
      | (with_reducible exact ih2 _ _ _ _ _ _ _ _ _ _ _ _ _ _)
      | (with_reducible exact spec_GoodScene.mono _ _)
      | (with_reducible exact LeO.refl _)
      | (with_reducible exact LeO.none _)
      | (with_reducible refine LeO.ite ?_ ?_)
      | (with_reducible refine LeO.bind ?_ (fun _ => ?_))
      | exact ih0 _ _ _
      | exact ih1 _ _ _ _ _ _
      | exact ih2 _ _ _ _ _ _ _ _ _ _ _ _ _ _
      | exact spec_GoodScene.mono _ _
      | exact LeO.none _
      | refine LeO.ite ?_ ?_
      | refine LeO.bind ?_ (fun _ => ?_)
    · intro y0 y1 y2 y3 y4 y5 y6 y7 y8 y9 y10 y11 y12 y13
      unfold spec_CutNode.j2
      repeat' first
      | (with_reducible exact ih0 _ _ _)
      | (with_reducible exact ih1 _ _ _ _ _ _)
      | (with_reducible exact ih2 _ _ _ _ _ _ _ _ _ _ _ _ _ _)
      | (with_reducible exact spec_GoodScene.mono _ _)
      | (with_reducible exact LeO.refl _)
      | (with_reducible exact LeO.none _)
      | (with_reducible refine LeO.ite ?_ ?_)
      | (with_reducible refine LeO.bind ?_ (fun _ => ?_))
      | exact ih0 _ _ _
      | exact ih1 _ _ _ _ _ _
      | exact ih2 _ _ _ _ _ _ _ _ _ _ _ _ _ _
      | exact spec_GoodScene.mono _ _
      | exact LeO.none _
      | refine LeO.ite ?_ ?_
      | refine LeO.bind ?_ (fun _ => ?_)
theorem spec_CutNode.mono : ∀ a0 a1 k, LeO (spec_CutNode.f k a0 a1) (spec_CutNode.f (k + 1) a0 a1) := by
  intro a0 a1 k
  obtain ⟨ih0, ih1, ih2⟩ := spec_CutNode.mono_l k
  unfold spec_CutNode.f
  repeat' first
      | (with_reducible exact ih0 _ _ _)
      | (with_reducible exact ih1 _ _ _ _ _ _)
      | (with_reducible exact ih2 _ _ _ _ _ _ _ _ _ _ _ _ _ _)
      | (with_reducible exact spec_GoodScene.mono _ _)
      | (with_reducible exact LeO.refl _)
      | (with_reducible exact LeO.none _)
      | (with_reducible refine LeO.ite ?_ ?_)
      | (with_reducible refine LeO.bind ?_ (fun _ => ?_))
      | exact ih0 _ _ _
      | exact ih1 _ _ _ _ _ _
      | exact ih2 _ _ _ _ _ _ _ _ _ _ _ _ _ _
      | exact spec_GoodScene.mono _ _
      | exact LeO.none _
      | refine LeO.ite ?_ ?_
      | refine LeO.bind ?_ (fun _ => ?_)
set_option maxHeartbeats 8000000 in
set_option maxRecDepth 100000 in
theorem spec_CutNode.calls (k : Nat) (A0 : Option Addr) (c0 : Nat) (l0 : List (S73)) (a1 : Int) (r1 : List (S73)) (r2 : Bool) (w : World) (hr0 : Kd.C k73 w A0 l0.length l0) (hc0 : l0.length ≤ c0) (h : spec_CutNode.f k l0 a1 = some (r1, r2)) :
    Calls Try.prog 26 #[.slice A0 l0.length c0, .int .i64 a1] w fun e w' => ∃ v0_ : Value, e = .returned (.tuple #[v0_, .bool r2]) ∧ Kd.R k73 73 w' w.heap.size (fun _ => True) v0_ r1 ∧ Below w.heap.size w w' := by
  have hu73 := Try.underlying73
  have HR0 := Aside0.mk hr0
  have HC0 := Aside0.mk hc0
  clear hr0 hc0
  have HB := Aside0.mk (Below.refl w.heap.size w)
  have H : ((spec_GoodScene.f k l0).bind fun t147 => (if t147 = true then ((spec_l1In.f a1 0 (wrap64 ((l0.length : Int) - 1))).bind fun t148 => (spec_CutNode.j0 k l0 a1 (!t148))) else (spec_CutNode.j0 k l0 a1 true))) = some (r1, r2) := h
  clear h
  have HC3 := Aside0.mk H
  clear H
  go_enter Try.func26, Try.ntmps26
  go_upto_region 1 with (fail)
  go_cut [20] (fun v20 wc => ∃ (kq : Nat) (x20_2 : Bool), v20 = .bool x20_2 ∧ Aside0 (spec_CutNode.j0 kq l0 a1 x20_2 = some (r1, r2)) ∧ Aside0 (kq ≤ k) ∧ Aside0 (Below w.heap.size w wc))
  case first =>
    have H := HC3.out
    clear HC3
    replace H := Option.bind_eq_some_iff.mp H
    obtain ⟨t147, A40, H⟩ := H
    replace H : (if t147 = true then ((spec_l1In.f a1 0 (wrap64 ((l0.length : Int) - 1))).bind fun t148 => (spec_CutNode.j0 k l0 a1 (!t148))) else (spec_CutNode.j0 k l0 a1 true)) = some (r1, r2) := H
    have A4 := Aside0.mk A40
    clear A40
    by_cases c5 : t147 = true
    · subst c5
      have H1 : ((spec_l1In.f a1 0 (wrap64 ((l0.length : Int) - 1))).bind fun t148 => (spec_CutNode.j0 k l0 a1 (!t148))) = some (r1, r2) := by rw [if_pos rfl] at H; exact H
      clear H
      have H := H1
      clear H1
      replace H := Option.bind_eq_some_iff.mp H
      obtain ⟨t148, A60, H⟩ := H
      replace H : (spec_CutNode.j0 k l0 a1 (!t148)) = some (r1, r2) := H
      have A6 := Aside0.mk A60
      clear A60
      have H' := Aside0.mk H
      clear H
      go_wp2_with (first | ((with_reducible refine gate_callee (f := 18) rfl ?_); refine goesL_ (some 11) rfl rfl Try.func18 (by kernel_rfl) rfl #[.slice A0 l0.length c0] rfl (by (try simp only [List.map_toArray, List.map_cons, List.map_nil]); first | done | rfl | (simp only [List.length_drop, List.length_take]; rfl)) ?_; (with_reducible refine (spec_GoodScene.calls k _ _ l0 true _ ?side1 ?side2 A4.out).mono ?_); (case side1 => repeat (first | exact (Kd.C_below HR0.out HB.out) | (with_reducible refine Kd.C_alloc ?_ _) | (with_reducible refine Kd.C_drewN ?_ _) | (with_reducible refine Kd.C_drew ?_))); (case side2 => exact HC0.out); rintro e w7 ⟨rfl, hb⟩; refine ⟨_, rfl, ?_⟩; have n0_ := Aside0.mk (below_step (by repeat (first | (with_reducible first | exact HB.out | apply below_alloc | apply pw_below_drewN | apply below_drew1) | exact HB.out)) hb); clear HB; have HB := n0_; clear n0_; (try clear hb); (try clear hb2); (try clear hk); (try clear hi)) | (go_at_call 54; (with_reducible refine (spec_l1In.calls a1 0 (wrap64 ((l0.length : Int) - 1)) t148 _ A6.out).mono ?_); rintro e w' ⟨rfl, ⟨nd, rfl⟩⟩))
      go_meet
      case rel => exact ⟨_, (!t148), (by first | rfl | (simp; done) | (simp [*]; done)), H', ⟨by first | omega | exact Nat.le_refl _⟩, ⟨by repeat (first | (with_reducible first | exact HB.out | apply below_alloc | apply pw_below_drewN | apply below_drew1) | exact HB.out)⟩⟩
    · replace c5 := Bool.eq_false_iff.mpr c5
      subst c5
      have H1 : (spec_CutNode.j0 k l0 a1 true) = some (r1, r2) := by rw [if_neg (show ¬ (false = true) by decide)] at H; exact H
      clear H
      have H := H1
      clear H1
      have H' := Aside0.mk H
      clear H
      go_wp2_with (first | ((with_reducible refine gate_callee (f := 18) rfl ?_); refine goesL_ (some 11) rfl rfl Try.func18 (by kernel_rfl) rfl #[.slice A0 l0.length c0] rfl (by (try simp only [List.map_toArray, List.map_cons, List.map_nil]); first | done | rfl | (simp only [List.length_drop, List.length_take]; rfl)) ?_; (with_reducible refine (spec_GoodScene.calls k _ _ l0 false _ ?side1 ?side2 A4.out).mono ?_); (case side1 => repeat (first | exact (Kd.C_below HR0.out HB.out) | (with_reducible refine Kd.C_alloc ?_ _) | (with_reducible refine Kd.C_drewN ?_ _) | (with_reducible refine Kd.C_drew ?_))); (case side2 => exact HC0.out); rintro e w8 ⟨rfl, hb⟩; refine ⟨_, rfl, ?_⟩; have n0_ := Aside0.mk (below_step (by repeat (first | (with_reducible first | exact HB.out | apply below_alloc | apply pw_below_drewN | apply below_drew1) | exact HB.out)) hb); clear HB; have HB := n0_; clear n0_; (try clear hb); (try clear hb2); (try clear hk); (try clear hi)))
      go_meet
      case rel => exact ⟨_, (true), (by first | rfl | (simp; done) | (simp [*]; done)), H', ⟨by first | omega | exact Nat.le_refl _⟩, ⟨by repeat (first | (with_reducible first | exact HB.out | apply below_alloc | apply pw_below_drewN | apply below_drew1) | exact HB.out)⟩⟩
  case rest =>
    clear HC3
    try clear c1
    try clear c2
    try clear p2
    try clear c5
    try clear p6
    obtain ⟨kq, x20_2, rfl, HA, HJ2, HB⟩ := hcut
    cases kq with
    | zero => exact absurd HA.out (by simp [spec_CutNode.j0])
    | succ kj2 =>
      have H := HA.out
      clear HA
      simp only [spec_CutNode.j0] at H
      by_cases c9 : x20_2 = true
      · subst c9
        have H1 : (some (([] : List (S73)), false)) = some (r1, r2) := by rw [if_pos rfl] at H; exact H
        clear H
        have H := H1
        clear H1
        simp only [Option.some.injEq, Prod.mk.injEq] at H
        obtain ⟨rfl, rfl⟩ := H
        go_wp2
        go_ret2
        exact ⟨_, by first | rfl | (simp [errW_none, errW_some] <;> rfl) | (simp [*, errW_none, errW_some] <;> rfl), by first | exact Kd.R_nil _ _ _ _ _ | exact Kd.N_nil _ _ _ _ _ | exact Kd.V_nil _ _ _ _ _ | exact Kd.Q_nil _ _ _ _ _ | exact Kd.S_nil _ _ _ _ _, by repeat (first | (with_reducible first | exact HB.out | apply below_alloc | apply pw_below_drewN | apply below_drew1) | exact HB.out)⟩
      · replace c9 := Bool.eq_false_iff.mpr c9
        subst c9
        have H1 : (if 0 ≤ (l0.length : Int) then (if ((l0.length : Int) : Int).toNat ≤ 35184372088832 then (spec_CutNode.l0 kj2 a1 (List.replicate ((l0.length : Int) : Int).toNat 0) ([] : List (S73)) l0 (l0.length : Int) 0) else (none)) else (none)) = some (r1, r2) := by rw [if_neg (show ¬ (false = true) by decide)] at H; exact H
        clear H
        have H := H1
        clear H1
        by_cases c10 : 0 ≤ (l0.length : Int)
        · rw [if_pos c10] at H
          have c10b0 := eq_true c10
          have c10b1 : decide (0 ≤ (l0.length : Int)) = true := decide_eq_true c10
          clear c10
          by_cases c11 : ((l0.length : Int) : Int).toNat ≤ 35184372088832
          · rw [if_pos c11] at H
            have c11b0 := eq_true c11
            have c11b1 : decide (((l0.length : Int) : Int).toNat ≤ 35184372088832) = true := decide_eq_true c11
            clear c11
            obtain ⟨y149, hy149⟩ : ∃ y_ : List Int, y_ = (List.replicate ((l0.length : Int) : Int).toNat 0) := ⟨_, rfl⟩
            replace H : (spec_CutNode.l0 kj2 a1 y149 ([] : List (S73)) l0 (l0.length : Int) 0) = some (r1, r2) := by first | (rw [hy149]; with_reducible exact H) | (have H2_ := (Option.bind_some _ _).symm.trans H; rw [hy149]; with_reducible exact H2_) | (have H2_ := (Option.bind_some _ _).symm.trans H; with_reducible exact H2_) | with_reducible exact H | (rw [hy149]; exact H) | exact H
            have Ny149 := Aside0.mk hy149
            clear hy149
            have H' := Aside0.mk H
            clear H
            go_wp2_with (first | ((with_reducible refine gate_dst (N := 23) rfl ?_); (try (refine gate_guard (by rfl) ?_; dsimp only)); refine Kd.R_make (Kd.int .i64) _ 3 rfl (N := 23) rfl 83 _ _ rfl (l0.length : Int) rfl rfl Try.underlying83 (.int .i64 0) 8 info3 rfl (by decide) (by omega) 0 (ok := fun _ => True) (okp := fun _ => True) rfl (fun _ hk => hk) trivial (of_decide_eq_true (by first | (with_reducible assumption) | assumption)) (Nat.le_trans (Nat.mul_le_mul_right _ (of_decide_eq_true (by first | (with_reducible assumption) | assumption) : (l0.length : Int).toNat ≤ 35184372088832)) (by omega)) (Below.refl _ _) (Nat.le_refl _) ?_; intro v150 w12 ho13 hb hg_ hnew_; clear hg_ hnew_; (first | rw [← Ny149.out] at ho13 | (simp only [Int.reduceToNat] at ho13; rw [← Ny149.out] at ho13)); have n0_ := Aside0.mk (Kd.R_lower ho13 (below_size (by repeat (first | (with_reducible first | exact HB.out | apply below_alloc | apply pw_below_drewN | apply below_drew1) | exact HB.out)))); have n1_ := Aside0.mk (below_step (by repeat (first | (with_reducible first | exact HB.out | apply below_alloc | apply pw_below_drewN | apply below_drew1) | exact HB.out)) hb); clear HB; have HO151 := n0_; have HB := n1_; clear n0_ n1_; clear hb ho13))
            go_loopg [7, 26] kj2 (fun kq v7 v26 w' => ∃ (x6_2 : List Int) (x7_2 : List (S73)) (x26_2 : Int), v26 = .int .i64 x26_2 ∧ Aside0 (spec_CutNode.l0 kq a1 x6_2 x7_2 l0 (l0.length : Int) x26_2 = some (r1, r2)) ∧ Aside0 (kq ≤ kj2) ∧ Aside0 (Kd.R (Kd.int .i64) 3 w' w.heap.size (fun _ => True) v150 x6_2) ∧ Aside0 (Kd.R k73 73 w' w.heap.size (fun _ => True) v7 x7_2) ∧ Aside0 (Below w.heap.size w w'))
            case atStart => exact ⟨(y149), (([] : List (S73))), (0), (by first | rfl | (simp; done) | (simp [*]; done)), H', ⟨Nat.le_refl _⟩, ⟨by (with_reducible repeat (first | apply Kd.R_alloc | apply Kd.R_drewN | apply Kd.R_drew)); exact HO151.out⟩, ⟨by first | exact Kd.R_nil _ _ _ _ _ | exact Kd.N_nil _ _ _ _ _ | exact Kd.V_nil _ _ _ _ _ | exact Kd.Q_nil _ _ _ _ _ | exact Kd.S_nil _ _ _ _ _⟩, ⟨by repeat (first | (with_reducible first | exact HB.out | apply below_alloc | apply pw_below_drewN | apply below_drew1) | exact HB.out)⟩⟩
            case round =>
              clear H'
              try clear c1
              try clear c2
              try clear p2
              try clear c5
              try clear p6
              try clear c9
              try clear c10
              try clear c10b0
              try clear c10b1
              try clear c11
              try clear c11b0
              try clear c11b1
              try clear p2
              try clear p6
              obtain ⟨x6_2, x7_2, x26_2, rfl, HA, HK2, HO_6, HO_7, HB⟩ := hrel
              cases gk with
              | zero => exact absurd HA.out (by simp [spec_CutNode.l0])
              | succ k2 =>
                have H := HA.out
                clear HA
                simp only [spec_CutNode.l0] at H
                by_cases c14 : x26_2 < (l0.length : Int)
                · rw [if_pos c14] at H
                  have c14b0 : decide (x26_2 < (l0.length : Int)) = true := decide_eq_true c14
                  clear c14
                  by_cases c15 : 0 ≤ x26_2
                  · rw [if_pos c15] at H
                    have c15b0 : decide (0 ≤ x26_2) = true := decide_eq_true c15
                    clear c15
                    by_cases c16 : x26_2 < (l0.length : Int)
                    · rw [if_pos c16] at H
                      have c16b0 : decide (x26_2 < (l0.length : Int)) = true := decide_eq_true c16
                      clear c16
                      by_cases c17 : x26_2 < (x6_2.length : Int)
                      · rw [if_pos c17] at H
                        have c17b0 : decide (x26_2 < (x6_2.length : Int)) = true := decide_eq_true c17
                        clear c17
                        obtain ⟨y154, hy154⟩ : ∃ y_ : List Int, y_ = (x6_2.set (x26_2 : Int).toNat (-1)) := ⟨_, rfl⟩
                        replace H : (if x26_2 = a1 then (spec_CutNode.j2 k2 a1 y154 x7_2 x26_2 l0 (l0.length : Int) x26_2 true ((rd_T73 l0 x26_2).f0) ((rd_T73 l0 x26_2).f1) ((rd_T73 l0 x26_2).f2) ((rd_T73 l0 x26_2).f3) ((rd_T73 l0 x26_2).f4) ((rd_T73 l0 x26_2).f5)) else (if ((rd_T73 l0 x26_2).f1) ≥ 0 then (if 0 ≤ ((rd_T73 l0 x26_2).f1) then (if ((rd_T73 l0 x26_2).f1) < (x6_2.length : Int) then (spec_CutNode.j2 k2 a1 y154 x7_2 x26_2 l0 (l0.length : Int) x26_2 (decide ((rd y154 ((rd_T73 l0 x26_2).f1)) < 0)) ((rd_T73 l0 x26_2).f0) ((rd_T73 l0 x26_2).f1) ((rd_T73 l0 x26_2).f2) ((rd_T73 l0 x26_2).f3) ((rd_T73 l0 x26_2).f4) ((rd_T73 l0 x26_2).f5)) else (none)) else (none)) else (spec_CutNode.j2 k2 a1 y154 x7_2 x26_2 l0 (l0.length : Int) x26_2 false ((rd_T73 l0 x26_2).f0) ((rd_T73 l0 x26_2).f1) ((rd_T73 l0 x26_2).f2) ((rd_T73 l0 x26_2).f3) ((rd_T73 l0 x26_2).f4) ((rd_T73 l0 x26_2).f5)))) = some (r1, r2) := by first | (rw [hy154]; with_reducible exact H) | (have H2_ := (Option.bind_some _ _).symm.trans H; rw [hy154]; with_reducible exact H2_) | (have H2_ := (Option.bind_some _ _).symm.trans H; with_reducible exact H2_) | with_reducible exact H | (rw [hy154]; exact H) | exact H
                        have Ny154 := Aside0.mk hy154
                        clear hy154
                        have HC19 := Aside0.mk H
                        clear H
                        have p152 : 0 ≤ (x26_2 : Int) := of_decide_eq_true (by first | (with_reducible assumption) | assumption)
                        have q152 : x26_2 < (l0.length : Int) := of_decide_eq_true (by first | (with_reducible assumption) | assumption)
                        obtain ⟨ad152, e152, hx152_0, hx152_1, hx152_2, hx152_3, hx152_4, hx152_5⟩ := at_T73 HR0.out x26_2 p152 q152
                        cases e152
                        replace hx152_0 := (HB.out.cell (World.block_lt_of_cell? w _ hx152_0)).trans hx152_0
                        replace hx152_1 := (HB.out.cell (World.block_lt_of_cell? w _ hx152_1)).trans hx152_1
                        replace hx152_2 := (HB.out.cell (World.block_lt_of_cell? w _ hx152_2)).trans hx152_2
                        replace hx152_3 := (HB.out.cell (World.block_lt_of_cell? w _ hx152_3)).trans hx152_3
                        replace hx152_4 := (HB.out.cell (World.block_lt_of_cell? w _ hx152_4)).trans hx152_4
                        replace hx152_5 := (HB.out.cell (World.block_lt_of_cell? w _ hx152_5)).trans hx152_5
                        replace p152 := eq_true p152
                        replace q152 := eq_true q152
                        go_upto_region 9 with (first | ((with_reducible refine gate_dst (N := 9) rfl ?_); (try (refine gate_guard (by rfl) ?_; dsimp only)); refine box_event ?hg (N := 9) ?hd (cs := #[.string (⟨#[]⟩ : ByteArray), .int .i64 0, .int .i64 0, .int .i64 0, .int .i64 0, .bool false]) (t := 73) ?hr ?_; (case hd => rfl); (case hg => rfl); (case hr => first | (go_simp; done) | (go_simp; rfl)); intro gb153 hg w20 hbox hb; have n0_ := Aside0.mk (Kd.R_below (by (with_reducible repeat (first | apply Kd.R_alloc | apply Kd.R_drewN | apply Kd.R_drew)); exact HO_6.out) hb); have n1_ := Aside0.mk (Kd.R_below (Kd.R_elderB (by (with_reducible repeat (first | apply Kd.R_alloc | apply Kd.R_drewN | apply Kd.R_drew)); exact HO_7.out) gb153 (Nat.le_of_eq hg.symm)) hb); have n2_ := Aside0.mk (below_step (by repeat (first | (with_reducible first | exact HB.out | apply below_alloc | apply pw_below_drewN | apply below_drew1) | exact HB.out)) hb); have n3_ := Aside0.mk (hbox); have n4_ := Aside0.mk ((by rw [hg]; exact (below_size (by repeat (first | (with_reducible first | exact HB.out | apply below_alloc | apply pw_below_drewN | apply below_drew1) | exact HB.out))) : w.heap.size ≤ gb153)); have n5_ := Aside0.mk ((by rw [hg]; exact (below_size (by repeat (first | (with_reducible first | exact HB.out | apply below_alloc | apply pw_below_drewN | apply below_drew1) | exact HB.out))) : w.heap.size ≤ gb153)); clear HO_6; clear HO_7; clear HB; have HO_6 := n0_; have HO_7 := n1_; have HB := n2_; have BK153 := n3_; have GW153 := n4_; have GE153 := n5_; clear n0_ n1_ n2_ n3_ n4_ n5_; clear hb hbox hg; have hcz21_0 : w20.cell? ⟨gb153, 0, none⟩ = some (.string (⟨#[]⟩ : ByteArray)) := (blk_cell BK153.out 0).trans rfl; have hcz21_1 : w20.cell? ⟨gb153, 1, none⟩ = some (.int .i64 0) := (blk_cell BK153.out 1).trans rfl; have hcz21_2 : w20.cell? ⟨gb153, 2, none⟩ = some (.int .i64 0) := (blk_cell BK153.out 2).trans rfl; have hcz21_3 : w20.cell? ⟨gb153, 3, none⟩ = some (.int .i64 0) := (blk_cell BK153.out 3).trans rfl; have hcz21_4 : w20.cell? ⟨gb153, 4, none⟩ = some (.int .i64 0) := (blk_cell BK153.out 4).trans rfl; have hcz21_5 : w20.cell? ⟨gb153, 5, none⟩ = some (.bool false) := (blk_cell BK153.out 5).trans rfl; have hfz21_0 := blk_frozen BK153.out 0; have hfz21_1 := blk_frozen BK153.out 1; have hfz21_2 := blk_frozen BK153.out 2; have hfz21_3 := blk_frozen BK153.out 3; have hfz21_4 := blk_frozen BK153.out 4; have hfz21_5 := blk_frozen BK153.out 5) | ((with_reducible refine gate_store (t := 73) (p := 9) rfl ?_); refine store_event (t := 73) (p := 9) (v := ?vo_w22) (w1 := ((((((w20.setCell ⟨gb153, 0, none⟩ (.string ((rd_T73 l0 x26_2).f0))).setCell ⟨gb153, 1, none⟩ (.int .i64 ((rd_T73 l0 x26_2).f1))).setCell ⟨gb153, 2, none⟩ (.int .i64 ((rd_T73 l0 x26_2).f2))).setCell ⟨gb153, 3, none⟩ (.int .i64 ((rd_T73 l0 x26_2).f3))).setCell ⟨gb153, 4, none⟩ (.int .i64 ((rd_T73 l0 x26_2).f4))).setCell ⟨gb153, 5, none⟩ (.bool ((rd_T73 l0 x26_2).f5)))) ?hg ?ho ?hn ?hr ?_; (case ho => rfl); (case hg => rfl); (case hn => rfl); (case hr => first | (go_simp; done) | (go_simp; rfl)); intro w22 hw; have n0_ : Aside0 (Kd.R (Kd.int .i64) 3 w22 w.heap.size (fun _ => True) v150 x6_2) := ⟨(by rw [hw]; exact (by (with_reducible repeat (first | apply Kd.R_alloc | apply Kd.R_drewN | apply Kd.R_drew)); exact Kd.R_mono (Kd.R_far (p := ⟨gb153, 5, none⟩) (Kd.R_far (p := ⟨gb153, 4, none⟩) (Kd.R_far (p := ⟨gb153, 3, none⟩) (Kd.R_far (p := ⟨gb153, 2, none⟩) (Kd.R_far (p := ⟨gb153, 1, none⟩) (Kd.R_far (p := ⟨gb153, 0, none⟩) (Kd.R_types HO_6.out BK153.out (by decide)) (fun _ hk => hk.2) (.string ((rd_T73 l0 x26_2).f0))) (fun _ hk => hk.2) (.int .i64 ((rd_T73 l0 x26_2).f1))) (fun _ hk => hk.2) (.int .i64 ((rd_T73 l0 x26_2).f2))) (fun _ hk => hk.2) (.int .i64 ((rd_T73 l0 x26_2).f3))) (fun _ hk => hk.2) (.int .i64 ((rd_T73 l0 x26_2).f4))) (fun _ hk => hk.2) (.bool ((rd_T73 l0 x26_2).f5))) (fun _ hk => trivial)))⟩; have n1_ : Aside0 (Kd.R k73 73 w22 w.heap.size (fun k_ => k_ ≠ gb153) u7 x7_2) := ⟨(by rw [hw]; exact (by (with_reducible repeat (first | apply Kd.R_alloc | apply Kd.R_drewN | apply Kd.R_drew)); exact Kd.R_mono (Kd.R_far (p := ⟨gb153, 5, none⟩) (Kd.R_far (p := ⟨gb153, 4, none⟩) (Kd.R_far (p := ⟨gb153, 3, none⟩) (Kd.R_far (p := ⟨gb153, 2, none⟩) (Kd.R_far (p := ⟨gb153, 1, none⟩) (Kd.R_far (p := ⟨gb153, 0, none⟩) (Kd.R_mono HO_7.out (fun k_ hk => (⟨hk, hk.2⟩ : _ ∧ k_ ≠ gb153))) (fun _ hk => hk.2) (.string ((rd_T73 l0 x26_2).f0))) (fun _ hk => hk.2) (.int .i64 ((rd_T73 l0 x26_2).f1))) (fun _ hk => hk.2) (.int .i64 ((rd_T73 l0 x26_2).f2))) (fun _ hk => hk.2) (.int .i64 ((rd_T73 l0 x26_2).f3))) (fun _ hk => hk.2) (.int .i64 ((rd_T73 l0 x26_2).f4))) (fun _ hk => hk.2) (.bool ((rd_T73 l0 x26_2).f5))) (fun _ hk => hk.1.2)))⟩; have n2_ : Aside0 (w22.heap[gb153]? = some (.cells #[.string ((rd_T73 l0 x26_2).f0), .int .i64 ((rd_T73 l0 x26_2).f1), .int .i64 ((rd_T73 l0 x26_2).f2), .int .i64 ((rd_T73 l0 x26_2).f3), .int .i64 ((rd_T73 l0 x26_2).f4), .bool ((rd_T73 l0 x26_2).f5)] 73 (0, 0))) := ⟨(by rw [hw]; exact (by (with_reducible repeat (first | refine blk_drewN ?_ _ | refine blk_drew ?_ | refine blk_alloc ?_ _)); refine blk_put (cs := #[.string ((rd_T73 l0 x26_2).f0), .int .i64 ((rd_T73 l0 x26_2).f1), .int .i64 ((rd_T73 l0 x26_2).f2), .int .i64 ((rd_T73 l0 x26_2).f3), .int .i64 ((rd_T73 l0 x26_2).f4), .bool false]) ?_ 5 _ rfl; (with_reducible repeat (first | refine blk_drewN ?_ _ | refine blk_drew ?_ | refine blk_alloc ?_ _)); refine blk_put (cs := #[.string ((rd_T73 l0 x26_2).f0), .int .i64 ((rd_T73 l0 x26_2).f1), .int .i64 ((rd_T73 l0 x26_2).f2), .int .i64 ((rd_T73 l0 x26_2).f3), .int .i64 0, .bool false]) ?_ 4 _ rfl; (with_reducible repeat (first | refine blk_drewN ?_ _ | refine blk_drew ?_ | refine blk_alloc ?_ _)); refine blk_put (cs := #[.string ((rd_T73 l0 x26_2).f0), .int .i64 ((rd_T73 l0 x26_2).f1), .int .i64 ((rd_T73 l0 x26_2).f2), .int .i64 0, .int .i64 0, .bool false]) ?_ 3 _ rfl; (with_reducible repeat (first | refine blk_drewN ?_ _ | refine blk_drew ?_ | refine blk_alloc ?_ _)); refine blk_put (cs := #[.string ((rd_T73 l0 x26_2).f0), .int .i64 ((rd_T73 l0 x26_2).f1), .int .i64 0, .int .i64 0, .int .i64 0, .bool false]) ?_ 2 _ rfl; (with_reducible repeat (first | refine blk_drewN ?_ _ | refine blk_drew ?_ | refine blk_alloc ?_ _)); refine blk_put (cs := #[.string ((rd_T73 l0 x26_2).f0), .int .i64 0, .int .i64 0, .int .i64 0, .int .i64 0, .bool false]) ?_ 1 _ rfl; (with_reducible repeat (first | refine blk_drewN ?_ _ | refine blk_drew ?_ | refine blk_alloc ?_ _)); refine blk_put (cs := #[.string (⟨#[]⟩ : ByteArray), .int .i64 0, .int .i64 0, .int .i64 0, .int .i64 0, .bool false]) ?_ 0 _ rfl; (with_reducible repeat (first | refine blk_drewN ?_ _ | refine blk_drew ?_ | refine blk_alloc ?_ _)); exact BK153.out))⟩; have n3_ : Aside0 (Below w.heap.size w w22) := ⟨(by rw [hw]; exact (by repeat (first | (with_reducible first | exact HB.out | apply below_alloc | apply pw_below_drewN | apply below_drew1 | refine below_set ?_ GE153.out) | exact HB.out)))⟩; clear hw; clear HO_6; clear HO_7; clear BK153; clear HB; have HO_6 := n0_; have HO_7 := n1_; have BK153 := n2_; have HB := n3_; clear n0_ n1_ n2_ n3_; have p18 : 0 ≤ (x26_2 : Int) := of_decide_eq_true (by first | (with_reducible assumption) | assumption); have q18 : (x26_2 : Int) < ((x6_2.length : Int) : Int) := of_decide_eq_true (by first | (with_reducible assumption) | assumption); obtain ⟨go18, co18, eo18, gb18, gl18, cl18, HG18⟩ := Kd.R_form HO_6.out (by omega); (first | cases eo18 | (injection eo18 with ea_ en_ ec_; (first | subst ea_ | (injection ea_ with ea_; subst ea_)); subst ec_; clear en_)); have GB18 := Aside0.mk gb18; have GG18 := Aside0.mk HG18; clear gb18 gl18 HG18; obtain ⟨hx18_0, hf18_0⟩ := Kd.R_celln 0 HO_6.out (x26_2 : Int) p18 q18; replace p18 := eq_true p18; replace q18 := eq_true q18; obtain ⟨hy23_, hz23_⟩ := Kd.R_celln 0 HO_6.out (x26_2 : Int) (of_decide_eq_true (by first | (with_reducible assumption) | assumption)) (of_decide_eq_true (by first | (with_reducible assumption) | assumption)); have HP23 := Kd.R_putg HO_6.out (x26_2 : Int) (-1)) | ((with_reducible refine gate_store (t := 3) (p := 33) rfl ?_); refine store_event (t := 3) (p := 33) (v := ?vo_w24) (w1 := (w22.setCell ⟨go18, (x26_2 : Int).toNat, none⟩ (.int .i64 (-1)))) ?hg ?ho ?hn ?hr ?_; (case ho => rfl); (case hg => rfl); (case hn => rfl); (case hr => first | (go_simp; done) | (go_simp; rfl)); intro w24 hw; have hg : w22.grownBy w24 (some go18) := (by rw [hw]; exact HP23.2); have hp_ : Kd.R (Kd.int .i64) 3 w24 w.heap.size (fun _ => True) (.slice (some ⟨go18, 0, none⟩) x6_2.length co18) y154 := (by rw [hw, Ny154.out]; exact HP23.1); clear HP23; have n0_ := Aside0.mk (hp_); have n1_ := Aside0.mk (Kd.R_over' (v := (.slice (some ⟨go18, 0, none⟩) x6_2.length co18)) (by (with_reducible repeat (first | apply Kd.R_alloc | apply Kd.R_drewN | apply Kd.R_drew)); exact HO_7.out) (Kd.R_typed HO_6.out) (by decide) hg); have n2_ := Aside0.mk (blk_grown (g := gb153) (o := .cells #[.string ((rd_T73 l0 x26_2).f0), .int .i64 ((rd_T73 l0 x26_2).f1), .int .i64 ((rd_T73 l0 x26_2).f2), .int .i64 ((rd_T73 l0 x26_2).f3), .int .i64 ((rd_T73 l0 x26_2).f4), .bool ((rd_T73 l0 x26_2).f5)] 73 (0, 0)) (by (with_reducible repeat (first | refine blk_drewN ?_ _ | refine blk_drew ?_ | refine blk_alloc ?_ _)); exact BK153.out) hg (Kd.R_ne HO_6.out BK153.out (by decide))); have n3_ := Aside0.mk ((by rw [hw]; exact below_set (HB.out) GB18.out : Below w.heap.size w w24)); clear HO_6; clear HO_7; clear BK153; clear HB; have HO_6 := n0_; have HO_7 := n1_; have BK153 := n2_; have HB := n3_; clear n0_ n1_ n2_ n3_; clear hg hw hp_))
                        (try simp only [Act.put, List.setIfInBounds_toArray, List.set_cons_zero, List.set_cons_succ])
                        go_cut [49] (fun v49 wc => ∃ (kq : Nat) (x49_18 : Bool), v49 = .bool x49_18 ∧ Aside0 (spec_CutNode.j2 kq a1 y154 x7_2 x26_2 l0 (l0.length : Int) x26_2 x49_18 ((rd_T73 l0 x26_2).f0) ((rd_T73 l0 x26_2).f1) ((rd_T73 l0 x26_2).f2) ((rd_T73 l0 x26_2).f3) ((rd_T73 l0 x26_2).f4) ((rd_T73 l0 x26_2).f5) = some (r1, r2)) ∧ Aside0 (kq ≤ k2) ∧ Aside0 (Kd.R (Kd.int .i64) 3 wc w.heap.size (fun _ => True) (.slice (some ⟨go18, 0, none⟩) x6_2.length co18) y154) ∧ Aside0 (Kd.R k73 73 wc w.heap.size (fun k_ => k_ ≠ gb153) u7 x7_2) ∧ Aside0 (wc.heap[gb153]? = some (.cells #[.string ((rd_T73 l0 x26_2).f0), .int .i64 ((rd_T73 l0 x26_2).f1), .int .i64 ((rd_T73 l0 x26_2).f2), .int .i64 ((rd_T73 l0 x26_2).f3), .int .i64 ((rd_T73 l0 x26_2).f4), .bool ((rd_T73 l0 x26_2).f5)] 73 (0, 0))) ∧ Aside0 (Below w.heap.size w wc))
                        case first =>
                          have H := HC19.out
                          clear HC19
                          by_cases c25 : x26_2 = a1
                          · rw [if_pos c25] at H
                            have c25b0 : (x26_2 == a1) = true := beq_iff_eq.mpr c25
                            have c25b1 : (x26_2 != a1) = false := bne_eq_false_iff_eq.mpr c25
                            clear c25
                            (first | rw [c25b0] | (simp only [i64_w, i32_w]; rw [c25b0]) | skip)
                            have H' := Aside0.mk H
                            clear H
                            go_wp2
                            go_meet
                            case rel => exact ⟨_, (true), (by first | rfl | (simp; done) | (simp [*]; done)), H', ⟨by have := HJ2.out; have := HK2.out; first | omega | exact Nat.le_refl _⟩, ⟨by (with_reducible repeat (first | apply Kd.R_alloc | apply Kd.R_drewN | apply Kd.R_drew)); exact HO_6.out⟩, ⟨by (with_reducible repeat (first | apply Kd.R_alloc | apply Kd.R_drewN | apply Kd.R_drew)); exact HO_7.out⟩, ⟨by (with_reducible repeat (first | refine blk_drewN ?_ _ | refine blk_drew ?_ | refine blk_alloc ?_ _)); exact BK153.out⟩, ⟨by repeat (first | (with_reducible first | exact HB.out | apply below_alloc | apply pw_below_drewN | apply below_drew1 | refine below_set ?_ GE153.out) | exact HB.out)⟩⟩
                          · rw [if_neg c25] at H
                            have c25b0 : (x26_2 == a1) = false := beq_eq_false_iff_ne.mpr c25
                            have c25b1 : (x26_2 != a1) = true := bne_iff_ne.mpr c25
                            (first | rw [c25b0] | (simp only [i64_w, i32_w]; rw [c25b0]) | skip)
                            by_cases c26 : ((rd_T73 l0 x26_2).f1) ≥ 0
                            · rw [if_pos c26] at H
                              have c26b0 : decide (0 ≤ ((rd_T73 l0 x26_2).f1)) = true := decide_eq_true c26
                              clear c26
                              by_cases c27 : 0 ≤ ((rd_T73 l0 x26_2).f1)
                              · rw [if_pos c27] at H
                                have c27b0 : decide (0 ≤ ((rd_T73 l0 x26_2).f1)) = true := decide_eq_true c27
                                clear c27
                                by_cases c28 : ((rd_T73 l0 x26_2).f1) < (x6_2.length : Int)
                                · rw [if_pos c28] at H
                                  have c28b0 : decide (((rd_T73 l0 x26_2).f1) < (x6_2.length : Int)) = true := decide_eq_true c28
                                  clear c28
                                  have H' := Aside0.mk H
                                  clear H
                                  have hcz29_0 : w24.cell? ⟨gb153, 0, none⟩ = some (.string ((rd_T73 l0 x26_2).f0)) := (blk_cell BK153.out 0).trans rfl
                                  have hcz29_1 : w24.cell? ⟨gb153, 1, none⟩ = some (.int .i64 ((rd_T73 l0 x26_2).f1)) := (blk_cell BK153.out 1).trans rfl
                                  have hcz29_2 : w24.cell? ⟨gb153, 2, none⟩ = some (.int .i64 ((rd_T73 l0 x26_2).f2)) := (blk_cell BK153.out 2).trans rfl
                                  have hcz29_3 : w24.cell? ⟨gb153, 3, none⟩ = some (.int .i64 ((rd_T73 l0 x26_2).f3)) := (blk_cell BK153.out 3).trans rfl
                                  have hcz29_4 : w24.cell? ⟨gb153, 4, none⟩ = some (.int .i64 ((rd_T73 l0 x26_2).f4)) := (blk_cell BK153.out 4).trans rfl
                                  have hcz29_5 : w24.cell? ⟨gb153, 5, none⟩ = some (.bool ((rd_T73 l0 x26_2).f5)) := (blk_cell BK153.out 5).trans rfl
                                  have hfz29_0 := blk_frozen BK153.out 0
                                  have hfz29_1 := blk_frozen BK153.out 1
                                  have hfz29_2 := blk_frozen BK153.out 2
                                  have hfz29_3 := blk_frozen BK153.out 3
                                  have hfz29_4 := blk_frozen BK153.out 4
                                  have hfz29_5 := blk_frozen BK153.out 5
                                  have p155 : 0 ≤ (((rd_T73 l0 x26_2).f1) : Int) := of_decide_eq_true (by first | (with_reducible assumption) | assumption)
                                  have q155 : ((rd_T73 l0 x26_2).f1) < (y154.length : Int) := (by have h_ : (((rd_T73 l0 x26_2).f1) : Int) < ((x6_2.length : Int) : Int) := of_decide_eq_true (by first | (with_reducible assumption) | assumption); first | (have e_ := (Kd.R_reads' HO_6.out).1; omega) | simpa only [Ny154.out, List.length_set] using h_)
                                  have ql155 : ((((rd_T73 l0 x26_2).f1) : Int) < ((x6_2.length : Int) : Int)) = True := eq_true (of_decide_eq_true (by first | (with_reducible assumption) | assumption))
                                  obtain ⟨ad155, e155, hx155_0⟩ := Kd.at_int (Kd.R_reads' HO_6.out).2.2 ((rd_T73 l0 x26_2).f1) p155 q155
                                  obtain rfl : (⟨go18, 0, none⟩ : Addr) = ad155 := (by injection e155)
                                  (first | simp only [add_plain] at hx155_0 | simp only [add_at] at hx155_0 | simp only [Addr.add, Nat.zero_add] at hx155_0 | skip)
                                  replace p155 := eq_true p155
                                  replace q155 := eq_true q155
                                  go_wp2
                                  go_meet
                                  case rel => exact ⟨_, (decide ((rd y154 ((rd_T73 l0 x26_2).f1)) < 0)), (by first | rfl | (simp; done) | (simp [*]; done)), H', ⟨by have := HJ2.out; have := HK2.out; first | omega | exact Nat.le_refl _⟩, ⟨by (with_reducible repeat (first | apply Kd.R_alloc | apply Kd.R_drewN | apply Kd.R_drew)); exact HO_6.out⟩, ⟨by (with_reducible repeat (first | apply Kd.R_alloc | apply Kd.R_drewN | apply Kd.R_drew)); exact HO_7.out⟩, ⟨by (with_reducible repeat (first | refine blk_drewN ?_ _ | refine blk_drew ?_ | refine blk_alloc ?_ _)); exact BK153.out⟩, ⟨by repeat (first | (with_reducible first | exact HB.out | apply below_alloc | apply pw_below_drewN | apply below_drew1 | refine below_set ?_ GE153.out) | exact HB.out)⟩⟩
                                · rw [if_neg c28] at H
                                  exact absurd H (by simp)
                              · rw [if_neg c27] at H
                                exact absurd H (by simp)
                            · rw [if_neg c26] at H
                              have c26b0 : decide (0 ≤ ((rd_T73 l0 x26_2).f1)) = false := decide_eq_false c26
                              clear c26
                              have H' := Aside0.mk H
                              clear H
                              have hcz30_0 : w24.cell? ⟨gb153, 0, none⟩ = some (.string ((rd_T73 l0 x26_2).f0)) := (blk_cell BK153.out 0).trans rfl
                              have hcz30_1 : w24.cell? ⟨gb153, 1, none⟩ = some (.int .i64 ((rd_T73 l0 x26_2).f1)) := (blk_cell BK153.out 1).trans rfl
                              have hcz30_2 : w24.cell? ⟨gb153, 2, none⟩ = some (.int .i64 ((rd_T73 l0 x26_2).f2)) := (blk_cell BK153.out 2).trans rfl
                              have hcz30_3 : w24.cell? ⟨gb153, 3, none⟩ = some (.int .i64 ((rd_T73 l0 x26_2).f3)) := (blk_cell BK153.out 3).trans rfl
                              have hcz30_4 : w24.cell? ⟨gb153, 4, none⟩ = some (.int .i64 ((rd_T73 l0 x26_2).f4)) := (blk_cell BK153.out 4).trans rfl
                              have hcz30_5 : w24.cell? ⟨gb153, 5, none⟩ = some (.bool ((rd_T73 l0 x26_2).f5)) := (blk_cell BK153.out 5).trans rfl
                              have hfz30_0 := blk_frozen BK153.out 0
                              have hfz30_1 := blk_frozen BK153.out 1
                              have hfz30_2 := blk_frozen BK153.out 2
                              have hfz30_3 := blk_frozen BK153.out 3
                              have hfz30_4 := blk_frozen BK153.out 4
                              have hfz30_5 := blk_frozen BK153.out 5
                              go_wp2
                              go_meet
                              case rel => exact ⟨_, (false), (by first | rfl | (simp; done) | (simp [*]; done)), H', ⟨by have := HJ2.out; have := HK2.out; first | omega | exact Nat.le_refl _⟩, ⟨by (with_reducible repeat (first | apply Kd.R_alloc | apply Kd.R_drewN | apply Kd.R_drew)); exact HO_6.out⟩, ⟨by (with_reducible repeat (first | apply Kd.R_alloc | apply Kd.R_drewN | apply Kd.R_drew)); exact HO_7.out⟩, ⟨by (with_reducible repeat (first | refine blk_drewN ?_ _ | refine blk_drew ?_ | refine blk_alloc ?_ _)); exact BK153.out⟩, ⟨by repeat (first | (with_reducible first | exact HB.out | apply below_alloc | apply pw_below_drewN | apply below_drew1 | refine below_set ?_ GE153.out) | exact HB.out)⟩⟩
                        case rest =>
                          clear HC19
                          try clear c1
                          try clear p1
                          try clear q1
                          try clear hx1
                          try clear c2
                          try clear p2
                          try clear c5
                          try clear p6
                          try clear c9
                          try clear c10
                          try clear c10b0
                          try clear c10b1
                          try clear c11
                          try clear c11b0
                          try clear c11b1
                          try clear c14
                          try clear c14b0
                          try clear c15
                          try clear c15b0
                          try clear p15
                          try clear q15
                          try clear hx15
                          try clear c16
                          try clear c16b0
                          try clear c17
                          try clear c17b0
                          try clear c18
                          try clear p18
                          try clear q18
                          try clear hx18
                          try clear hf18
                          try clear c25
                          try clear c25b0
                          try clear c25b1
                          try clear c26
                          try clear c26b0
                          try clear c27
                          try clear c27b0
                          try clear c28
                          try clear c28b0
                          try clear hcz21_0
                          try clear hcz21_1
                          try clear hcz21_2
                          try clear hcz21_3
                          try clear hcz21_4
                          try clear hcz21_5
                          try clear hcz29_0
                          try clear hcz29_1
                          try clear hcz29_2
                          try clear hcz29_3
                          try clear hcz29_4
                          try clear hcz29_5
                          try clear hcz30_0
                          try clear hcz30_1
                          try clear hcz30_2
                          try clear hcz30_3
                          try clear hcz30_4
                          try clear hcz30_5
                          try clear hfz21_0
                          try clear hfz21_1
                          try clear hfz21_2
                          try clear hfz21_3
                          try clear hfz21_4
                          try clear hfz21_5
                          try clear hfz29_0
                          try clear hfz29_1
                          try clear hfz29_2
                          try clear hfz29_3
                          try clear hfz29_4
                          try clear hfz29_5
                          try clear hfz30_0
                          try clear hfz30_1
                          try clear hfz30_2
                          try clear hfz30_3
                          try clear hfz30_4
                          try clear hfz30_5
                          try clear hx152_0
                          try clear hx152_1
                          try clear hx152_2
                          try clear hx152_3
                          try clear hx152_4
                          try clear hx152_5
                          try clear hx155_0
                          try clear hx18_0
                          try clear p152
                          try clear p155
                          try clear p18
                          try clear p2
                          try clear p6
                          try clear q152
                          try clear q155
                          try clear q18
                          obtain ⟨kq, x49_18, rfl, HA, HJ18, HO_6, HO_7, BK153, HB⟩ := hcut
                          have hl6_18 := (Kd.R_reads' HO_6.out).1
                          rw [hl6_18] at HO_6
                          (try simp only [hl6_18])
                          (try simp only [hl6_18] at BK153)
                          (try simp only [hl6_18] at HO_7)
                          cases kq with
                          | zero => exact absurd HA.out (by simp [spec_CutNode.j2])
                          | succ kj18 =>
                            have H := HA.out
                            clear HA
                            simp only [spec_CutNode.j2] at H
                            by_cases c31 : x49_18 = true
                            · subst c31
                              have H1 : (spec_CutNode.l0 kj18 a1 y154 x7_2 l0 (l0.length : Int) (wrap64 (x26_2 + 1))) = some (r1, r2) := by rw [if_pos rfl] at H; exact H
                              clear H
                              have H := H1
                              clear H1
                              have H' := Aside0.mk H
                              clear H
                              go_wp2
                              (try simp only [← hl6_18])
                              go_roundg kj18
                              case measure => have := HJ2.out; have := HK2.out; have := HJ18.out; omega
                              case rel => exact ⟨(y154), (x7_2), (wrap64 (x26_2 + 1)), (by first | rfl | (simp; done) | (simp [*]; done)), H', ⟨by have := HJ2.out; have := HK2.out; have := HJ18.out; omega⟩, ⟨by (try simp only [hl6_18]); (with_reducible repeat (first | apply Kd.R_alloc | apply Kd.R_drewN | apply Kd.R_drew)); exact HO_6.out⟩, ⟨by (try simp only [hl6_18]); (with_reducible repeat (first | apply Kd.R_alloc | apply Kd.R_drewN | apply Kd.R_drew)); exact Kd.R_mono HO_7.out (fun _ hk => trivial)⟩, ⟨by repeat (first | (with_reducible first | exact HB.out | apply below_alloc | apply pw_below_drewN | apply below_drew1 | refine below_set ?_ GE153.out) | exact HB.out)⟩⟩
                            · replace c31 := Bool.eq_false_iff.mpr c31
                              subst c31
                              have H1 : (if ((rd_T73 l0 x26_2).f1) ≥ 0 then (if 0 ≤ ((rd_T73 l0 x26_2).f1) then (if ((rd_T73 l0 x26_2).f1) < (y154.length : Int) then (if 0 ≤ x26_2 then (if x26_2 < (y154.length : Int) then (if x7_2.length < 2513169434916 then (spec_CutNode.l0 kj18 a1 (y154.set (x26_2 : Int).toNat (x7_2.length : Int)) (x7_2 ++ [(⟨((rd_T73 l0 x26_2).f0), rd y154 ((rd_T73 l0 x26_2).f1), ((rd_T73 l0 x26_2).f2), ((rd_T73 l0 x26_2).f3), ((rd_T73 l0 x26_2).f4), ((rd_T73 l0 x26_2).f5)⟩ : S73)]) l0 (l0.length : Int) (wrap64 (x26_2 + 1))) else (none)) else (none)) else (none)) else (none)) else (none)) else (if 0 ≤ x26_2 then (if x26_2 < (y154.length : Int) then (if x7_2.length < 2513169434916 then (spec_CutNode.l0 kj18 a1 (y154.set (x26_2 : Int).toNat (x7_2.length : Int)) (x7_2 ++ [(⟨((rd_T73 l0 x26_2).f0), ((rd_T73 l0 x26_2).f1), ((rd_T73 l0 x26_2).f2), ((rd_T73 l0 x26_2).f3), ((rd_T73 l0 x26_2).f4), ((rd_T73 l0 x26_2).f5)⟩ : S73)]) l0 (l0.length : Int) (wrap64 (x26_2 + 1))) else (none)) else (none)) else (none))) = some (r1, r2) := by rw [if_neg (show ¬ (false = true) by decide)] at H; exact H
                              clear H
                              have H := H1
                              clear H1
                              by_cases c32 : ((rd_T73 l0 x26_2).f1) ≥ 0
                              · rw [if_pos c32] at H
                                have c32b0 : decide (0 ≤ ((rd_T73 l0 x26_2).f1)) = true := decide_eq_true c32
                                clear c32
                                by_cases c33 : 0 ≤ ((rd_T73 l0 x26_2).f1)
                                · rw [if_pos c33] at H
                                  have c33b0 : decide (0 ≤ ((rd_T73 l0 x26_2).f1)) = true := decide_eq_true c33
                                  clear c33
                                  by_cases c34 : ((rd_T73 l0 x26_2).f1) < (y154.length : Int)
                                  · rw [if_pos c34] at H
                                    have c34b0 : decide (((rd_T73 l0 x26_2).f1) < (y154.length : Int)) = true := decide_eq_true c34
                                    clear c34
                                    by_cases c35 : 0 ≤ x26_2
                                    · rw [if_pos c35] at H
                                      have c35b0 : decide (0 ≤ x26_2) = true := decide_eq_true c35
                                      clear c35
                                      by_cases c36 : x26_2 < (y154.length : Int)
                                      · rw [if_pos c36] at H
                                        have c36b0 : decide (x26_2 < (y154.length : Int)) = true := decide_eq_true c36
                                        clear c36
                                        obtain ⟨y157, hy157⟩ : ∃ y_ : List Int, y_ = (y154.set (x26_2 : Int).toNat (x7_2.length : Int)) := ⟨_, rfl⟩
                                        replace H : (if x7_2.length < 2513169434916 then (spec_CutNode.l0 kj18 a1 y157 (x7_2 ++ [(⟨((rd_T73 l0 x26_2).f0), rd y154 ((rd_T73 l0 x26_2).f1), ((rd_T73 l0 x26_2).f2), ((rd_T73 l0 x26_2).f3), ((rd_T73 l0 x26_2).f4), ((rd_T73 l0 x26_2).f5)⟩ : S73)]) l0 (l0.length : Int) (wrap64 (x26_2 + 1))) else (none)) = some (r1, r2) := by first | (rw [hy157]; with_reducible exact H) | (have H2_ := (Option.bind_some _ _).symm.trans H; rw [hy157]; with_reducible exact H2_) | (have H2_ := (Option.bind_some _ _).symm.trans H; with_reducible exact H2_) | with_reducible exact H | (rw [hy157]; exact H) | exact H
                                        have Ny157 := Aside0.mk hy157
                                        clear hy157
                                        by_cases c38 : x7_2.length < 2513169434916
                                        · rw [if_pos c38] at H
                                          have LMc38 := Aside0.mk c38
                                          clear c38
                                          obtain ⟨y158, hy158⟩ : ∃ y_ : List (S73), y_ = (x7_2 ++ [(⟨((rd_T73 l0 x26_2).f0), rd y154 ((rd_T73 l0 x26_2).f1), ((rd_T73 l0 x26_2).f2), ((rd_T73 l0 x26_2).f3), ((rd_T73 l0 x26_2).f4), ((rd_T73 l0 x26_2).f5)⟩ : S73)]) := ⟨_, rfl⟩
                                          replace H : (spec_CutNode.l0 kj18 a1 y157 y158 l0 (l0.length : Int) (wrap64 (x26_2 + 1))) = some (r1, r2) := by first | (rw [hy158]; with_reducible exact H) | (have H2_ := (Option.bind_some _ _).symm.trans H; rw [hy158]; with_reducible exact H2_) | (have H2_ := (Option.bind_some _ _).symm.trans H; with_reducible exact H2_) | with_reducible exact H | (rw [hy158]; exact H) | exact H
                                          have Ny158 := Aside0.mk hy158
                                          clear hy158
                                          have H' := Aside0.mk H
                                          clear H
                                          have hcz39_0 : wc.cell? ⟨gb153, 0, none⟩ = some (.string ((rd_T73 l0 x26_2).f0)) := (blk_cell BK153.out 0).trans rfl
                                          have hcz39_1 : wc.cell? ⟨gb153, 1, none⟩ = some (.int .i64 ((rd_T73 l0 x26_2).f1)) := (blk_cell BK153.out 1).trans rfl
                                          have hcz39_2 : wc.cell? ⟨gb153, 2, none⟩ = some (.int .i64 ((rd_T73 l0 x26_2).f2)) := (blk_cell BK153.out 2).trans rfl
                                          have hcz39_3 : wc.cell? ⟨gb153, 3, none⟩ = some (.int .i64 ((rd_T73 l0 x26_2).f3)) := (blk_cell BK153.out 3).trans rfl
                                          have hcz39_4 : wc.cell? ⟨gb153, 4, none⟩ = some (.int .i64 ((rd_T73 l0 x26_2).f4)) := (blk_cell BK153.out 4).trans rfl
                                          have hcz39_5 : wc.cell? ⟨gb153, 5, none⟩ = some (.bool ((rd_T73 l0 x26_2).f5)) := (blk_cell BK153.out 5).trans rfl
                                          have hfz39_0 := blk_frozen BK153.out 0
                                          have hfz39_1 := blk_frozen BK153.out 1
                                          have hfz39_2 := blk_frozen BK153.out 2
                                          have hfz39_3 := blk_frozen BK153.out 3
                                          have hfz39_4 := blk_frozen BK153.out 4
                                          have hfz39_5 := blk_frozen BK153.out 5
                                          have p156 : 0 ≤ (((rd_T73 l0 x26_2).f1) : Int) := of_decide_eq_true (by first | (with_reducible assumption) | assumption)
                                          have q156 : ((rd_T73 l0 x26_2).f1) < (y154.length : Int) := of_decide_eq_true (by first | (with_reducible assumption) | assumption)
                                          obtain ⟨ad156, e156, hx156_0⟩ := Kd.at_int (Kd.R_reads' HO_6.out).2.2 ((rd_T73 l0 x26_2).f1) p156 q156
                                          obtain rfl : (⟨go18, 0, none⟩ : Addr) = ad156 := (by injection e156)
                                          (first | simp only [add_plain] at hx156_0 | simp only [add_at] at hx156_0 | simp only [Addr.add, Nat.zero_add] at hx156_0 | skip)
                                          replace p156 := eq_true p156
                                          replace q156 := eq_true q156
                                          go_wp2_with (first | ((with_reducible refine gate_store (t := 3) (p := 58) rfl ?_); refine store_event (t := 3) (p := 58) (v := ?vo_w40) (w1 := (wc.setCell ⟨gb153, 1, none⟩ (.int .i64 (rd y154 ((rd_T73 l0 x26_2).f1))))) ?hg ?ho ?hn ?hr ?_; (case ho => rfl); (case hg => rfl); (case hn => rfl); (case hr => first | (go_simp; done) | (go_simp; rfl)); intro w40 hw; have n0_ : Aside0 (Kd.R (Kd.int .i64) 3 w40 w.heap.size (fun _ => True) (.slice (some ⟨go18, 0, none⟩) y154.length co18) y154) := ⟨(by rw [hw]; exact (by (with_reducible repeat (first | apply Kd.R_alloc | apply Kd.R_drewN | apply Kd.R_drew)); exact Kd.R_mono (Kd.R_far (p := ⟨gb153, 1, none⟩) (Kd.R_types HO_6.out BK153.out (by decide)) (fun _ hk => hk.2) (.int .i64 (rd y154 ((rd_T73 l0 x26_2).f1)))) (fun _ hk => trivial)))⟩; have n1_ : Aside0 (Kd.R k73 73 w40 w.heap.size (fun k_ => k_ ≠ gb153) u7 x7_2) := ⟨(by rw [hw]; exact (by (with_reducible repeat (first | apply Kd.R_alloc | apply Kd.R_drewN | apply Kd.R_drew)); exact Kd.R_mono (Kd.R_far (p := ⟨gb153, 1, none⟩) (Kd.R_mono HO_7.out (fun k_ hk => (⟨hk, hk⟩ : _ ∧ k_ ≠ gb153))) (fun _ hk => hk.2) (.int .i64 (rd y154 ((rd_T73 l0 x26_2).f1)))) (fun _ hk => hk.1)))⟩; have n2_ : Aside0 (w40.heap[gb153]? = some (.cells #[.string ((rd_T73 l0 x26_2).f0), .int .i64 (rd y154 ((rd_T73 l0 x26_2).f1)), .int .i64 ((rd_T73 l0 x26_2).f2), .int .i64 ((rd_T73 l0 x26_2).f3), .int .i64 ((rd_T73 l0 x26_2).f4), .bool ((rd_T73 l0 x26_2).f5)] 73 (0, 0))) := ⟨(by rw [hw]; exact (by (with_reducible repeat (first | refine blk_drewN ?_ _ | refine blk_drew ?_ | refine blk_alloc ?_ _)); refine blk_put (cs := #[.string ((rd_T73 l0 x26_2).f0), .int .i64 ((rd_T73 l0 x26_2).f1), .int .i64 ((rd_T73 l0 x26_2).f2), .int .i64 ((rd_T73 l0 x26_2).f3), .int .i64 ((rd_T73 l0 x26_2).f4), .bool ((rd_T73 l0 x26_2).f5)]) ?_ 1 _ rfl; (with_reducible repeat (first | refine blk_drewN ?_ _ | refine blk_drew ?_ | refine blk_alloc ?_ _)); exact BK153.out))⟩; have n3_ : Aside0 (Below w.heap.size w w40) := ⟨(by rw [hw]; exact (by repeat (first | (with_reducible first | exact HB.out | apply below_alloc | apply pw_below_drewN | apply below_drew1 | refine below_set ?_ GE153.out) | exact HB.out)))⟩; clear hw; clear HO_6; clear HO_7; clear BK153; clear HB; have HO_6 := n0_; have HO_7 := n1_; have BK153 := n2_; have HB := n3_; clear n0_ n1_ n2_ n3_; obtain ⟨Ao41, co41, eo41⟩ := Kd.R_slice HO_7.out; subst eo41; have p37 : 0 ≤ (x26_2 : Int) := of_decide_eq_true (by first | (with_reducible assumption) | assumption); have q37 : (x26_2 : Int) < ((y154.length : Int) : Int) := of_decide_eq_true (by first | (with_reducible assumption) | assumption); obtain ⟨hx37_0, hf37_0⟩ := Kd.R_celln 0 HO_6.out (x26_2 : Int) p37 q37; replace p37 := eq_true p37; replace q37 := eq_true q37; obtain ⟨hy42_, hz42_⟩ := Kd.R_celln 0 HO_6.out (x26_2 : Int) (of_decide_eq_true (by first | (with_reducible assumption) | assumption)) (of_decide_eq_true (by first | (with_reducible assumption) | assumption)); have HP42 := Kd.R_putg HO_6.out (x26_2 : Int) (x7_2.length : Int)) | ((with_reducible refine gate_store (t := 3) (p := 63) rfl ?_); refine store_event (t := 3) (p := 63) (v := ?vo_w43) (w1 := (w40.setCell ⟨go18, (x26_2 : Int).toNat, none⟩ (.int .i64 (x7_2.length : Int)))) ?hg ?ho ?hn ?hr ?_; (case ho => rfl); (case hg => rfl); (case hn => rfl); (case hr => first | (go_simp; done) | (go_simp; rfl)); intro w43 hw; have hg : w40.grownBy w43 (some go18) := (by rw [hw]; exact HP42.2); have hp_ : Kd.R (Kd.int .i64) 3 w43 w.heap.size (fun _ => True) (.slice (some ⟨go18, 0, none⟩) y154.length co18) y157 := (by rw [hw, Ny157.out]; exact HP42.1); clear HP42; have n0_ := Aside0.mk (hp_); have n1_ := Aside0.mk (Kd.R_over' (v := (.slice (some ⟨go18, 0, none⟩) y154.length co18)) (by (with_reducible repeat (first | apply Kd.R_alloc | apply Kd.R_drewN | apply Kd.R_drew)); exact HO_7.out) (Kd.R_typed HO_6.out) (by decide) hg); have n2_ := Aside0.mk (blk_grown (g := gb153) (o := .cells #[.string ((rd_T73 l0 x26_2).f0), .int .i64 (rd y154 ((rd_T73 l0 x26_2).f1)), .int .i64 ((rd_T73 l0 x26_2).f2), .int .i64 ((rd_T73 l0 x26_2).f3), .int .i64 ((rd_T73 l0 x26_2).f4), .bool ((rd_T73 l0 x26_2).f5)] 73 (0, 0)) (by (with_reducible repeat (first | refine blk_drewN ?_ _ | refine blk_drew ?_ | refine blk_alloc ?_ _)); exact BK153.out) hg (Kd.R_ne HO_6.out BK153.out (by decide))); have n3_ := Aside0.mk ((by rw [hw]; exact below_set (HB.out) GB18.out : Below w.heap.size w w43)); clear HO_6; clear HO_7; clear BK153; clear HB; have HO_6 := n0_; have HO_7 := n1_; have BK153 := n2_; have HB := n3_; clear n0_ n1_ n2_ n3_; clear hg hw hp_; have hcz44_0 : w43.cell? ⟨gb153, 0, none⟩ = some (.string ((rd_T73 l0 x26_2).f0)) := (blk_cell BK153.out 0).trans rfl; have hcz44_1 : w43.cell? ⟨gb153, 1, none⟩ = some (.int .i64 (rd y154 ((rd_T73 l0 x26_2).f1))) := (blk_cell BK153.out 1).trans rfl; have hcz44_2 : w43.cell? ⟨gb153, 2, none⟩ = some (.int .i64 ((rd_T73 l0 x26_2).f2)) := (blk_cell BK153.out 2).trans rfl; have hcz44_3 : w43.cell? ⟨gb153, 3, none⟩ = some (.int .i64 ((rd_T73 l0 x26_2).f3)) := (blk_cell BK153.out 3).trans rfl; have hcz44_4 : w43.cell? ⟨gb153, 4, none⟩ = some (.int .i64 ((rd_T73 l0 x26_2).f4)) := (blk_cell BK153.out 4).trans rfl; have hcz44_5 : w43.cell? ⟨gb153, 5, none⟩ = some (.bool ((rd_T73 l0 x26_2).f5)) := (blk_cell BK153.out 5).trans rfl; have hfz44_0 := blk_frozen BK153.out 0; have hfz44_1 := blk_frozen BK153.out 1; have hfz44_2 := blk_frozen BK153.out 2; have hfz44_3 := blk_frozen BK153.out 3; have hfz44_4 := blk_frozen BK153.out 4; have hfz44_5 := blk_frozen BK153.out 5) | ((with_reducible refine gate_builtin (b := .append) (xs := #[.tmp 64, .tmp 66]) rfl ?_); (try (refine gate_guard (by rfl) ?_; dsimp only)); at_builtin; refine Kd.R_append k73 (w0 := w) w.heap.size rfl (.tmp 64) (.tmp 66) 33 73 (.agg #[(.string ⟨#[]⟩), (.int .i64 0), (.int .i64 0), (.int .i64 0), (.int .i64 0), (.bool false)]) 56 rfl Try.underlying33 info73 rfl (by decide) (by omega) (.slice Ao41 x7_2.length co41) x7_2 (⟨((rd_T73 l0 x26_2).f0), rd y154 ((rd_T73 l0 x26_2).f1), ((rd_T73 l0 x26_2).f2), ((rd_T73 l0 x26_2).f3), ((rd_T73 l0 x26_2).f4), ((rd_T73 l0 x26_2).f5)⟩ : S73) [.string ((rd_T73 l0 x26_2).f0), .int .i64 (rd y154 ((rd_T73 l0 x26_2).f1)), .int .i64 ((rd_T73 l0 x26_2).f2), .int .i64 ((rd_T73 l0 x26_2).f3), .int .i64 ((rd_T73 l0 x26_2).f4), .bool ((rd_T73 l0 x26_2).f5)] (fun k_ => k_ ≠ gb153) (fun _ => False) rfl rfl ?aP (fun _ hk => hk.elim) ?aF ?aO ?aB ?aS ?aL ?_; (case aP => exact k73_mkM _ _ _ (⟨((rd_T73 l0 x26_2).f0), rd y154 ((rd_T73 l0 x26_2).f1), ((rd_T73 l0 x26_2).f2), ((rd_T73 l0 x26_2).f3), ((rd_T73 l0 x26_2).f4), ((rd_T73 l0 x26_2).f5)⟩ : S73)); (case aB => exact (by repeat (first | (with_reducible first | exact HB.out | apply below_alloc | apply pw_below_drewN | apply below_drew1 | refine below_set ?_ GE153.out) | exact HB.out))); (case aF => exact (fun k_ hk => Kd.freshB (g := gb153) (o := .cells #[.string ((rd_T73 l0 x26_2).f0), .int .i64 (rd y154 ((rd_T73 l0 x26_2).f1)), .int .i64 ((rd_T73 l0 x26_2).f2), .int .i64 ((rd_T73 l0 x26_2).f3), .int .i64 ((rd_T73 l0 x26_2).f4), .bool ((rd_T73 l0 x26_2).f5)] 73 (0, 0)) (by (with_reducible repeat (first | refine blk_drewN ?_ _ | refine blk_drew ?_ | refine blk_alloc ?_ _)); exact BK153.out) k_ hk)); (case aO => exact (by (with_reducible repeat (first | apply Kd.R_alloc | apply Kd.R_drewN | apply Kd.R_drew)); exact HO_7.out)); (case aS => exact (below_size (by repeat (first | (with_reducible first | exact HB.out | apply below_alloc | apply pw_below_drewN | apply below_drew1 | refine below_set ?_ GE153.out) | exact HB.out)))); (case aL => have := LMc38.out; omega); intro v159 w45 ho hb hg hat; rw [← Ny158.out] at ho; have n0_ := Aside0.mk (Kd.R_over' (by (with_reducible repeat (first | apply Kd.R_alloc | apply Kd.R_drewN | apply Kd.R_drew)); exact HO_6.out) (Kd.R_typed (by (with_reducible repeat (first | apply Kd.R_alloc | apply Kd.R_drewN | apply Kd.R_drew)); exact HO_7.out)) (by decide) hg); have n1_ := Aside0.mk (blk_grown (g := gb153) (o := .cells #[.string ((rd_T73 l0 x26_2).f0), .int .i64 (rd y154 ((rd_T73 l0 x26_2).f1)), .int .i64 ((rd_T73 l0 x26_2).f2), .int .i64 ((rd_T73 l0 x26_2).f3), .int .i64 ((rd_T73 l0 x26_2).f4), .bool ((rd_T73 l0 x26_2).f5)] 73 (0, 0)) (by (with_reducible repeat (first | refine blk_drewN ?_ _ | refine blk_drew ?_ | refine blk_alloc ?_ _)); exact BK153.out) hg (Kd.R_away HO_7.out (fun _ hk => hk))); have n2_ := Aside0.mk (hb); have n3_ := Aside0.mk (ho); clear HO_6; clear BK153; clear HB; clear HO_7; have HO_6 := n0_; have BK153 := n1_; have HB := n2_; have HO160 := n3_; clear n0_ n1_ n2_ n3_; clear ho hb hg hat))
                                          (try simp only [← hl6_18])
                                          go_roundg kj18
                                          case measure => have := HJ2.out; have := HK2.out; have := HJ18.out; omega
                                          case rel => exact ⟨(y157), (y158), (wrap64 (x26_2 + 1)), (by first | rfl | (simp; done) | (simp [*]; done)), H', ⟨by have := HJ2.out; have := HK2.out; have := HJ18.out; omega⟩, ⟨by (try simp only [hl6_18]); (with_reducible repeat (first | apply Kd.R_alloc | apply Kd.R_drewN | apply Kd.R_drew)); exact HO_6.out⟩, ⟨by (try simp only [hl6_18]); (with_reducible repeat (first | apply Kd.R_alloc | apply Kd.R_drewN | apply Kd.R_drew)); exact Kd.R_mono HO160.out (fun _ hk => trivial)⟩, ⟨by repeat (first | (with_reducible first | exact HB.out | apply below_alloc | apply pw_below_drewN | apply below_drew1 | refine below_set ?_ GE153.out) | exact HB.out)⟩⟩
                                        · rw [if_neg c38] at H
                                          exact absurd H (by simp)
                                      · rw [if_neg c36] at H
                                        exact absurd H (by simp)
                                    · rw [if_neg c35] at H
                                      exact absurd H (by simp)
                                  · rw [if_neg c34] at H
                                    exact absurd H (by simp)
                                · rw [if_neg c33] at H
                                  exact absurd H (by simp)
                              · rw [if_neg c32] at H
                                have c32b0 : decide (0 ≤ ((rd_T73 l0 x26_2).f1)) = false := decide_eq_false c32
                                clear c32
                                by_cases c46 : 0 ≤ x26_2
                                · rw [if_pos c46] at H
                                  have c46b0 : decide (0 ≤ x26_2) = true := decide_eq_true c46
                                  clear c46
                                  by_cases c47 : x26_2 < (y154.length : Int)
                                  · rw [if_pos c47] at H
                                    have c47b0 : decide (x26_2 < (y154.length : Int)) = true := decide_eq_true c47
                                    clear c47
                                    obtain ⟨y161, hy161⟩ : ∃ y_ : List Int, y_ = (y154.set (x26_2 : Int).toNat (x7_2.length : Int)) := ⟨_, rfl⟩
                                    replace H : (if x7_2.length < 2513169434916 then (spec_CutNode.l0 kj18 a1 y161 (x7_2 ++ [(⟨((rd_T73 l0 x26_2).f0), ((rd_T73 l0 x26_2).f1), ((rd_T73 l0 x26_2).f2), ((rd_T73 l0 x26_2).f3), ((rd_T73 l0 x26_2).f4), ((rd_T73 l0 x26_2).f5)⟩ : S73)]) l0 (l0.length : Int) (wrap64 (x26_2 + 1))) else (none)) = some (r1, r2) := by first | (rw [hy161]; with_reducible exact H) | (have H2_ := (Option.bind_some _ _).symm.trans H; rw [hy161]; with_reducible exact H2_) | (have H2_ := (Option.bind_some _ _).symm.trans H; with_reducible exact H2_) | with_reducible exact H | (rw [hy161]; exact H) | exact H
                                    have Ny161 := Aside0.mk hy161
                                    clear hy161
                                    by_cases c49 : x7_2.length < 2513169434916
                                    · rw [if_pos c49] at H
                                      have LMc49 := Aside0.mk c49
                                      clear c49
                                      obtain ⟨y162, hy162⟩ : ∃ y_ : List (S73), y_ = (x7_2 ++ [(⟨((rd_T73 l0 x26_2).f0), ((rd_T73 l0 x26_2).f1), ((rd_T73 l0 x26_2).f2), ((rd_T73 l0 x26_2).f3), ((rd_T73 l0 x26_2).f4), ((rd_T73 l0 x26_2).f5)⟩ : S73)]) := ⟨_, rfl⟩
                                      replace H : (spec_CutNode.l0 kj18 a1 y161 y162 l0 (l0.length : Int) (wrap64 (x26_2 + 1))) = some (r1, r2) := by first | (rw [hy162]; with_reducible exact H) | (have H2_ := (Option.bind_some _ _).symm.trans H; rw [hy162]; with_reducible exact H2_) | (have H2_ := (Option.bind_some _ _).symm.trans H; with_reducible exact H2_) | with_reducible exact H | (rw [hy162]; exact H) | exact H
                                      have Ny162 := Aside0.mk hy162
                                      clear hy162
                                      have H' := Aside0.mk H
                                      clear H
                                      have hcz50_0 : wc.cell? ⟨gb153, 0, none⟩ = some (.string ((rd_T73 l0 x26_2).f0)) := (blk_cell BK153.out 0).trans rfl
                                      have hcz50_1 : wc.cell? ⟨gb153, 1, none⟩ = some (.int .i64 ((rd_T73 l0 x26_2).f1)) := (blk_cell BK153.out 1).trans rfl
                                      have hcz50_2 : wc.cell? ⟨gb153, 2, none⟩ = some (.int .i64 ((rd_T73 l0 x26_2).f2)) := (blk_cell BK153.out 2).trans rfl
                                      have hcz50_3 : wc.cell? ⟨gb153, 3, none⟩ = some (.int .i64 ((rd_T73 l0 x26_2).f3)) := (blk_cell BK153.out 3).trans rfl
                                      have hcz50_4 : wc.cell? ⟨gb153, 4, none⟩ = some (.int .i64 ((rd_T73 l0 x26_2).f4)) := (blk_cell BK153.out 4).trans rfl
                                      have hcz50_5 : wc.cell? ⟨gb153, 5, none⟩ = some (.bool ((rd_T73 l0 x26_2).f5)) := (blk_cell BK153.out 5).trans rfl
                                      have hfz50_0 := blk_frozen BK153.out 0
                                      have hfz50_1 := blk_frozen BK153.out 1
                                      have hfz50_2 := blk_frozen BK153.out 2
                                      have hfz50_3 := blk_frozen BK153.out 3
                                      have hfz50_4 := blk_frozen BK153.out 4
                                      have hfz50_5 := blk_frozen BK153.out 5
                                      obtain ⟨Ao51, co51, eo51⟩ := Kd.R_slice HO_7.out
                                      subst eo51
                                      have p48 : 0 ≤ (x26_2 : Int) := of_decide_eq_true (by first | (with_reducible assumption) | assumption)
                                      have q48 : (x26_2 : Int) < ((y154.length : Int) : Int) := of_decide_eq_true (by first | (with_reducible assumption) | assumption)
                                      obtain ⟨hx48_0, hf48_0⟩ := Kd.R_celln 0 HO_6.out (x26_2 : Int) p48 q48
                                      replace p48 := eq_true p48
                                      replace q48 := eq_true q48
                                      have HP52 := Kd.R_putg HO_6.out (x26_2 : Int) (x7_2.length : Int)
                                      go_wp2_with (first | ((with_reducible refine gate_store (t := 3) (p := 63) rfl ?_); refine store_event (t := 3) (p := 63) (v := ?vo_w53) (w1 := (wc.setCell ⟨go18, (x26_2 : Int).toNat, none⟩ (.int .i64 (x7_2.length : Int)))) ?hg ?ho ?hn ?hr ?_; (case ho => rfl); (case hg => rfl); (case hn => rfl); (case hr => first | (go_simp; done) | (go_simp; rfl)); intro w53 hw; have hg : wc.grownBy w53 (some go18) := (by rw [hw]; exact HP52.2); have hp_ : Kd.R (Kd.int .i64) 3 w53 w.heap.size (fun _ => True) (.slice (some ⟨go18, 0, none⟩) y154.length co18) y161 := (by rw [hw, Ny161.out]; exact HP52.1); clear HP52; have n0_ := Aside0.mk (hp_); have n1_ := Aside0.mk (Kd.R_over' (v := (.slice (some ⟨go18, 0, none⟩) y154.length co18)) (by (with_reducible repeat (first | apply Kd.R_alloc | apply Kd.R_drewN | apply Kd.R_drew)); exact HO_7.out) (Kd.R_typed HO_6.out) (by decide) hg); have n2_ := Aside0.mk (blk_grown (g := gb153) (o := .cells #[.string ((rd_T73 l0 x26_2).f0), .int .i64 ((rd_T73 l0 x26_2).f1), .int .i64 ((rd_T73 l0 x26_2).f2), .int .i64 ((rd_T73 l0 x26_2).f3), .int .i64 ((rd_T73 l0 x26_2).f4), .bool ((rd_T73 l0 x26_2).f5)] 73 (0, 0)) (by (with_reducible repeat (first | refine blk_drewN ?_ _ | refine blk_drew ?_ | refine blk_alloc ?_ _)); exact BK153.out) hg (Kd.R_ne HO_6.out BK153.out (by decide))); have n3_ := Aside0.mk ((by rw [hw]; exact below_set (HB.out) GB18.out : Below w.heap.size w w53)); clear HO_6; clear HO_7; clear BK153; clear HB; have HO_6 := n0_; have HO_7 := n1_; have BK153 := n2_; have HB := n3_; clear n0_ n1_ n2_ n3_; clear hg hw hp_; have hcz54_0 : w53.cell? ⟨gb153, 0, none⟩ = some (.string ((rd_T73 l0 x26_2).f0)) := (blk_cell BK153.out 0).trans rfl; have hcz54_1 : w53.cell? ⟨gb153, 1, none⟩ = some (.int .i64 ((rd_T73 l0 x26_2).f1)) := (blk_cell BK153.out 1).trans rfl; have hcz54_2 : w53.cell? ⟨gb153, 2, none⟩ = some (.int .i64 ((rd_T73 l0 x26_2).f2)) := (blk_cell BK153.out 2).trans rfl; have hcz54_3 : w53.cell? ⟨gb153, 3, none⟩ = some (.int .i64 ((rd_T73 l0 x26_2).f3)) := (blk_cell BK153.out 3).trans rfl; have hcz54_4 : w53.cell? ⟨gb153, 4, none⟩ = some (.int .i64 ((rd_T73 l0 x26_2).f4)) := (blk_cell BK153.out 4).trans rfl; have hcz54_5 : w53.cell? ⟨gb153, 5, none⟩ = some (.bool ((rd_T73 l0 x26_2).f5)) := (blk_cell BK153.out 5).trans rfl; have hfz54_0 := blk_frozen BK153.out 0; have hfz54_1 := blk_frozen BK153.out 1; have hfz54_2 := blk_frozen BK153.out 2; have hfz54_3 := blk_frozen BK153.out 3; have hfz54_4 := blk_frozen BK153.out 4; have hfz54_5 := blk_frozen BK153.out 5) | ((with_reducible refine gate_builtin (b := .append) (xs := #[.tmp 64, .tmp 66]) rfl ?_); (try (refine gate_guard (by rfl) ?_; dsimp only)); at_builtin; refine Kd.R_append k73 (w0 := w) w.heap.size rfl (.tmp 64) (.tmp 66) 33 73 (.agg #[(.string ⟨#[]⟩), (.int .i64 0), (.int .i64 0), (.int .i64 0), (.int .i64 0), (.bool false)]) 56 rfl Try.underlying33 info73 rfl (by decide) (by omega) (.slice Ao51 x7_2.length co51) x7_2 (⟨((rd_T73 l0 x26_2).f0), ((rd_T73 l0 x26_2).f1), ((rd_T73 l0 x26_2).f2), ((rd_T73 l0 x26_2).f3), ((rd_T73 l0 x26_2).f4), ((rd_T73 l0 x26_2).f5)⟩ : S73) [.string ((rd_T73 l0 x26_2).f0), .int .i64 ((rd_T73 l0 x26_2).f1), .int .i64 ((rd_T73 l0 x26_2).f2), .int .i64 ((rd_T73 l0 x26_2).f3), .int .i64 ((rd_T73 l0 x26_2).f4), .bool ((rd_T73 l0 x26_2).f5)] (fun k_ => k_ ≠ gb153) (fun _ => False) rfl rfl ?aP (fun _ hk => hk.elim) ?aF ?aO ?aB ?aS ?aL ?_; (case aP => exact k73_mkM _ _ _ (⟨((rd_T73 l0 x26_2).f0), ((rd_T73 l0 x26_2).f1), ((rd_T73 l0 x26_2).f2), ((rd_T73 l0 x26_2).f3), ((rd_T73 l0 x26_2).f4), ((rd_T73 l0 x26_2).f5)⟩ : S73)); (case aB => exact (by repeat (first | (with_reducible first | exact HB.out | apply below_alloc | apply pw_below_drewN | apply below_drew1 | refine below_set ?_ GE153.out) | exact HB.out))); (case aF => exact (fun k_ hk => Kd.freshB (g := gb153) (o := .cells #[.string ((rd_T73 l0 x26_2).f0), .int .i64 ((rd_T73 l0 x26_2).f1), .int .i64 ((rd_T73 l0 x26_2).f2), .int .i64 ((rd_T73 l0 x26_2).f3), .int .i64 ((rd_T73 l0 x26_2).f4), .bool ((rd_T73 l0 x26_2).f5)] 73 (0, 0)) (by (with_reducible repeat (first | refine blk_drewN ?_ _ | refine blk_drew ?_ | refine blk_alloc ?_ _)); exact BK153.out) k_ hk)); (case aO => exact (by (with_reducible repeat (first | apply Kd.R_alloc | apply Kd.R_drewN | apply Kd.R_drew)); exact HO_7.out)); (case aS => exact (below_size (by repeat (first | (with_reducible first | exact HB.out | apply below_alloc | apply pw_below_drewN | apply below_drew1 | refine below_set ?_ GE153.out) | exact HB.out)))); (case aL => have := LMc49.out; omega); intro v163 w55 ho hb hg hat; rw [← Ny162.out] at ho; have n0_ := Aside0.mk (Kd.R_over' (by (with_reducible repeat (first | apply Kd.R_alloc | apply Kd.R_drewN | apply Kd.R_drew)); exact HO_6.out) (Kd.R_typed (by (with_reducible repeat (first | apply Kd.R_alloc | apply Kd.R_drewN | apply Kd.R_drew)); exact HO_7.out)) (by decide) hg); have n1_ := Aside0.mk (blk_grown (g := gb153) (o := .cells #[.string ((rd_T73 l0 x26_2).f0), .int .i64 ((rd_T73 l0 x26_2).f1), .int .i64 ((rd_T73 l0 x26_2).f2), .int .i64 ((rd_T73 l0 x26_2).f3), .int .i64 ((rd_T73 l0 x26_2).f4), .bool ((rd_T73 l0 x26_2).f5)] 73 (0, 0)) (by (with_reducible repeat (first | refine blk_drewN ?_ _ | refine blk_drew ?_ | refine blk_alloc ?_ _)); exact BK153.out) hg (Kd.R_away HO_7.out (fun _ hk => hk))); have n2_ := Aside0.mk (hb); have n3_ := Aside0.mk (ho); clear HO_6; clear BK153; clear HB; clear HO_7; have HO_6 := n0_; have BK153 := n1_; have HB := n2_; have HO164 := n3_; clear n0_ n1_ n2_ n3_; clear ho hb hg hat))
                                      (try simp only [← hl6_18])
                                      go_roundg kj18
                                      case measure => have := HJ2.out; have := HK2.out; have := HJ18.out; omega
                                      case rel => exact ⟨(y161), (y162), (wrap64 (x26_2 + 1)), (by first | rfl | (simp; done) | (simp [*]; done)), H', ⟨by have := HJ2.out; have := HK2.out; have := HJ18.out; omega⟩, ⟨by (try simp only [hl6_18]); (with_reducible repeat (first | apply Kd.R_alloc | apply Kd.R_drewN | apply Kd.R_drew)); exact HO_6.out⟩, ⟨by (try simp only [hl6_18]); (with_reducible repeat (first | apply Kd.R_alloc | apply Kd.R_drewN | apply Kd.R_drew)); exact Kd.R_mono HO164.out (fun _ hk => trivial)⟩, ⟨by repeat (first | (with_reducible first | exact HB.out | apply below_alloc | apply pw_below_drewN | apply below_drew1 | refine below_set ?_ GE153.out) | exact HB.out)⟩⟩
                                    · rw [if_neg c49] at H
                                      exact absurd H (by simp)
                                  · rw [if_neg c47] at H
                                    exact absurd H (by simp)
                                · rw [if_neg c46] at H
                                  exact absurd H (by simp)
                      · rw [if_neg c17] at H
                        exact absurd H (by simp)
                    · rw [if_neg c16] at H
                      exact absurd H (by simp)
                  · rw [if_neg c15] at H
                    exact absurd H (by simp)
                · rw [if_neg c14] at H
                  have c14b0 : decide (x26_2 < (l0.length : Int)) = false := decide_eq_false c14
                  clear c14
                  simp only [Option.some.injEq, Prod.mk.injEq] at H
                  obtain ⟨rfl, rfl⟩ := H
                  go_wp2
                  go_ret2
                  exact ⟨_, by first | rfl | (simp [errW_none, errW_some] <;> rfl) | (simp [*, errW_none, errW_some] <;> rfl), by (with_reducible repeat (first | apply Kd.R_alloc | apply Kd.R_drewN | apply Kd.R_drew)); exact HO_7.out, by repeat (first | (with_reducible first | exact HB.out | apply below_alloc | apply pw_below_drewN | apply below_drew1) | exact HB.out)⟩
          · rw [if_neg c11] at H
            exact absurd H (by simp)
        · rw [if_neg c10] at H
          exact absurd H (by simp)

/-! ### impl_inRange: function 58 -/
def impl_inRange.f (a0 : Int) (a1 : Int) (a2 : Int) : Option (Bool) := if a1 ≤ a0 then (some (decide (a0 ≤ a2))) else (some false)
set_option maxHeartbeats 8000000 in
set_option maxRecDepth 100000 in
theorem impl_inRange.calls (a0 : Int) (a1 : Int) (a2 : Int) (r : Bool) (w : World) (h : impl_inRange.f a0 a1 a2 = some r) :
    Calls Try.prog 58 #[.int .i64 a0, .int .i64 a1, .int .i64 a2] w fun e w' => e = .returned (.bool r) ∧ Drawn0 w w' := by
  have H : (if a1 ≤ a0 then (some (decide (a0 ≤ a2))) else (some false)) = some r := h
  clear h
  by_cases c4 : a1 ≤ a0
  · rw [if_pos c4] at H
    have c4b0 : decide (a1 ≤ a0) = true := decide_eq_true c4
    clear c4
    obtain rfl := Option.some.inj H
    go_enter Try.func58, Try.ntmps58
    go_wp2
    go_ret
    exact ⟨by first | rfl | (simp; done) | (simp [*]; done), by repeat (first | exact Drawn0.refl _ | apply Drawn0.step)⟩
  · rw [if_neg c4] at H
    have c4b0 : decide (a1 ≤ a0) = false := decide_eq_false c4
    clear c4
    obtain rfl := Option.some.inj H
    go_enter Try.func58, Try.ntmps58
    go_wp2
    go_ret
    exact ⟨by first | rfl | (simp; done) | (simp [*]; done), by repeat (first | exact Drawn0.refl _ | apply Drawn0.step)⟩

/-! ### impl_isSpot: function 50 -/
def impl_isSpot.f (a0_0 : Int) (a0_1 : Int) (a0_2 : Int) (a0_3 : Bool) : Option (Bool) := (impl_inRange.f a0_0 (-1000000) 1000000).bind fun t166 => (if t166 = true then ((impl_inRange.f a0_1 (-1000000) 1000000).bind fun t167 => (if t167 = true then ((impl_inRange.f a0_2 0 3).bind fun t168 => (some t168)) else (some false))) else (some false))
set_option maxHeartbeats 8000000 in
set_option maxRecDepth 100000 in
theorem impl_isSpot.calls (a0_0 : Int) (a0_1 : Int) (a0_2 : Int) (a0_3 : Bool) (r : Bool) (w : World) (h : impl_isSpot.f a0_0 a0_1 a0_2 a0_3 = some r) :
    Calls Try.prog 50 #[.agg #[.int .i64 a0_0, .int .i64 a0_1, .int .i64 a0_2, .bool a0_3]] w fun e w' => e = .returned (.bool r) ∧ Below w.heap.size w w' := by
  have hu24 := Try.underlying24
  have HB := Aside0.mk (Below.refl w.heap.size w)
  have H : ((impl_inRange.f a0_0 (-1000000) 1000000).bind fun t166 => (if t166 = true then ((impl_inRange.f a0_1 (-1000000) 1000000).bind fun t167 => (if t167 = true then ((impl_inRange.f a0_2 0 3).bind fun t168 => (some t168)) else (some false))) else (some false))) = some r := h
  clear h
  replace H := Option.bind_eq_some_iff.mp H
  obtain ⟨t166, A20, H⟩ := H
  replace H : (if t166 = true then ((impl_inRange.f a0_1 (-1000000) 1000000).bind fun t167 => (if t167 = true then ((impl_inRange.f a0_2 0 3).bind fun t168 => (some t168)) else (some false))) else (some false)) = some r := H
  have A2 := Aside0.mk A20
  clear A20
  by_cases c3 : t166 = true
  · subst c3
    have H1 : ((impl_inRange.f a0_1 (-1000000) 1000000).bind fun t167 => (if t167 = true then ((impl_inRange.f a0_2 0 3).bind fun t168 => (some t168)) else (some false))) = some r := by rw [if_pos rfl] at H; exact H
    clear H
    have H := H1
    clear H1
    replace H := Option.bind_eq_some_iff.mp H
    obtain ⟨t167, A40, H⟩ := H
    replace H : (if t167 = true then ((impl_inRange.f a0_2 0 3).bind fun t168 => (some t168)) else (some false)) = some r := H
    have A4 := Aside0.mk A40
    clear A40
    by_cases c5 : t167 = true
    · subst c5
      have H1 : ((impl_inRange.f a0_2 0 3).bind fun t168 => (some t168)) = some r := by rw [if_pos rfl] at H; exact H
      clear H
      have H := H1
      clear H1
      replace H := Option.bind_eq_some_iff.mp H
      obtain ⟨t168, A60, H⟩ := H
      replace H : (some t168) = some r := H
      have A6 := Aside0.mk A60
      clear A60
      obtain rfl := Option.some.inj H
      go_enter Try.func50, Try.ntmps50
      go_wp2_with (first | ((with_reducible refine gate_dst (N := 1) rfl ?_); refine box_event ?hg (N := 1) ?hd (cs := #[.int .i64 a0_0, .int .i64 a0_1, .int .i64 a0_2, .bool a0_3]) (t := 24) ?hr ?_; (case hd => rfl); (case hg => rfl); (case hr => first | (go_simp; done) | (go_simp; rfl)); intro gb165 hg w7 hbox hb; have n0_ := Aside0.mk (below_step (by repeat (first | (with_reducible first | exact HB.out | apply below_alloc | apply pw_below_drewN | apply below_drew1) | exact HB.out)) hb); have n1_ := Aside0.mk (hbox); have n2_ := Aside0.mk ((by rw [hg]; exact (below_size (by repeat (first | (with_reducible first | exact HB.out | apply below_alloc | apply pw_below_drewN | apply below_drew1) | exact HB.out))) : w.heap.size ≤ gb165)); have n3_ := Aside0.mk ((by rw [hg]; exact (below_size (by repeat (first | (with_reducible first | exact HB.out | apply below_alloc | apply pw_below_drewN | apply below_drew1) | exact HB.out))) : w.heap.size ≤ gb165)); clear HB; have HB := n0_; have BK165 := n1_; have GW165 := n2_; have GE165 := n3_; clear n0_ n1_ n2_ n3_; clear hb hbox hg; have hcz8_0 : w7.cell? ⟨gb165, 0, none⟩ = some (.int .i64 a0_0) := (blk_cell BK165.out 0).trans rfl; have hcz8_1 : w7.cell? ⟨gb165, 1, none⟩ = some (.int .i64 a0_1) := (blk_cell BK165.out 1).trans rfl; have hcz8_2 : w7.cell? ⟨gb165, 2, none⟩ = some (.int .i64 a0_2) := (blk_cell BK165.out 2).trans rfl; have hcz8_3 : w7.cell? ⟨gb165, 3, none⟩ = some (.bool a0_3) := (blk_cell BK165.out 3).trans rfl; have hfz8_0 := blk_frozen BK165.out 0; have hfz8_1 := blk_frozen BK165.out 1; have hfz8_2 := blk_frozen BK165.out 2; have hfz8_3 := blk_frozen BK165.out 3) | ((with_reducible refine gate_callee (f := 58) rfl ?_); refine goesL_ (some 5) rfl rfl Try.func58 (by kernel_rfl) rfl #[.int .i64 a0_0, .int .i64 (-1000000), .int .i64 1000000] rfl (by (try simp only [List.map_toArray, List.map_cons, List.map_nil]); first | done | rfl | (simp only [List.length_drop, List.length_take]; rfl)) ?_; (with_reducible refine (impl_inRange.calls a0_0 (-1000000) 1000000 true _ A2.out).mono ?_); rintro e w' ⟨rfl, ⟨nd, rfl⟩⟩; refine ⟨_, rfl, ?_⟩) | (go_at_call 58; (with_reducible refine (impl_inRange.calls a0_1 (-1000000) 1000000 true _ A4.out).mono ?_); rintro e w' ⟨rfl, ⟨nd, rfl⟩⟩) | (go_at_call 58; (with_reducible refine (impl_inRange.calls a0_2 0 3 t168 _ A6.out).mono ?_); rintro e w' ⟨rfl, ⟨nd, rfl⟩⟩))
      go_ret
      exact ⟨by first | rfl | (simp [errW_none, errW_some] <;> rfl) | (simp [*, errW_none, errW_some] <;> rfl), by repeat (first | (with_reducible first | exact HB.out | apply below_alloc | apply pw_below_drewN | apply below_drew1 | refine below_set ?_ GE165.out) | exact HB.out)⟩
    · replace c5 := Bool.eq_false_iff.mpr c5
      subst c5
      have H1 : (some false) = some r := by rw [if_neg (show ¬ (false = true) by decide)] at H; exact H
      clear H
      have H := H1
      clear H1
      obtain rfl := Option.some.inj H
      go_enter Try.func50, Try.ntmps50
      go_wp2_with (first | ((with_reducible refine gate_dst (N := 1) rfl ?_); refine box_event ?hg (N := 1) ?hd (cs := #[.int .i64 a0_0, .int .i64 a0_1, .int .i64 a0_2, .bool a0_3]) (t := 24) ?hr ?_; (case hd => rfl); (case hg => rfl); (case hr => first | (go_simp; done) | (go_simp; rfl)); intro gb165 hg w9 hbox hb; have n0_ := Aside0.mk (below_step (by repeat (first | (with_reducible first | exact HB.out | apply below_alloc | apply pw_below_drewN | apply below_drew1) | exact HB.out)) hb); have n1_ := Aside0.mk (hbox); have n2_ := Aside0.mk ((by rw [hg]; exact (below_size (by repeat (first | (with_reducible first | exact HB.out | apply below_alloc | apply pw_below_drewN | apply below_drew1) | exact HB.out))) : w.heap.size ≤ gb165)); have n3_ := Aside0.mk ((by rw [hg]; exact (below_size (by repeat (first | (with_reducible first | exact HB.out | apply below_alloc | apply pw_below_drewN | apply below_drew1) | exact HB.out))) : w.heap.size ≤ gb165)); clear HB; have HB := n0_; have BK165 := n1_; have GW165 := n2_; have GE165 := n3_; clear n0_ n1_ n2_ n3_; clear hb hbox hg; have hcz10_0 : w9.cell? ⟨gb165, 0, none⟩ = some (.int .i64 a0_0) := (blk_cell BK165.out 0).trans rfl; have hcz10_1 : w9.cell? ⟨gb165, 1, none⟩ = some (.int .i64 a0_1) := (blk_cell BK165.out 1).trans rfl; have hcz10_2 : w9.cell? ⟨gb165, 2, none⟩ = some (.int .i64 a0_2) := (blk_cell BK165.out 2).trans rfl; have hcz10_3 : w9.cell? ⟨gb165, 3, none⟩ = some (.bool a0_3) := (blk_cell BK165.out 3).trans rfl; have hfz10_0 := blk_frozen BK165.out 0; have hfz10_1 := blk_frozen BK165.out 1; have hfz10_2 := blk_frozen BK165.out 2; have hfz10_3 := blk_frozen BK165.out 3) | ((with_reducible refine gate_callee (f := 58) rfl ?_); refine goesL_ (some 5) rfl rfl Try.func58 (by kernel_rfl) rfl #[.int .i64 a0_0, .int .i64 (-1000000), .int .i64 1000000] rfl (by (try simp only [List.map_toArray, List.map_cons, List.map_nil]); first | done | rfl | (simp only [List.length_drop, List.length_take]; rfl)) ?_; (with_reducible refine (impl_inRange.calls a0_0 (-1000000) 1000000 true _ A2.out).mono ?_); rintro e w' ⟨rfl, ⟨nd, rfl⟩⟩; refine ⟨_, rfl, ?_⟩) | (go_at_call 58; (with_reducible refine (impl_inRange.calls a0_1 (-1000000) 1000000 false _ A4.out).mono ?_); rintro e w' ⟨rfl, ⟨nd, rfl⟩⟩))
      go_ret
      exact ⟨by first | rfl | (simp [errW_none, errW_some] <;> rfl) | (simp [*, errW_none, errW_some] <;> rfl), by repeat (first | (with_reducible first | exact HB.out | apply below_alloc | apply pw_below_drewN | apply below_drew1 | refine below_set ?_ GE165.out) | exact HB.out)⟩
  · replace c3 := Bool.eq_false_iff.mpr c3
    subst c3
    have H1 : (some false) = some r := by rw [if_neg (show ¬ (false = true) by decide)] at H; exact H
    clear H
    have H := H1
    clear H1
    obtain rfl := Option.some.inj H
    go_enter Try.func50, Try.ntmps50
    go_wp2_with (first | ((with_reducible refine gate_dst (N := 1) rfl ?_); refine box_event ?hg (N := 1) ?hd (cs := #[.int .i64 a0_0, .int .i64 a0_1, .int .i64 a0_2, .bool a0_3]) (t := 24) ?hr ?_; (case hd => rfl); (case hg => rfl); (case hr => first | (go_simp; done) | (go_simp; rfl)); intro gb165 hg w11 hbox hb; have n0_ := Aside0.mk (below_step (by repeat (first | (with_reducible first | exact HB.out | apply below_alloc | apply pw_below_drewN | apply below_drew1) | exact HB.out)) hb); have n1_ := Aside0.mk (hbox); have n2_ := Aside0.mk ((by rw [hg]; exact (below_size (by repeat (first | (with_reducible first | exact HB.out | apply below_alloc | apply pw_below_drewN | apply below_drew1) | exact HB.out))) : w.heap.size ≤ gb165)); have n3_ := Aside0.mk ((by rw [hg]; exact (below_size (by repeat (first | (with_reducible first | exact HB.out | apply below_alloc | apply pw_below_drewN | apply below_drew1) | exact HB.out))) : w.heap.size ≤ gb165)); clear HB; have HB := n0_; have BK165 := n1_; have GW165 := n2_; have GE165 := n3_; clear n0_ n1_ n2_ n3_; clear hb hbox hg; have hcz12_0 : w11.cell? ⟨gb165, 0, none⟩ = some (.int .i64 a0_0) := (blk_cell BK165.out 0).trans rfl; have hcz12_1 : w11.cell? ⟨gb165, 1, none⟩ = some (.int .i64 a0_1) := (blk_cell BK165.out 1).trans rfl; have hcz12_2 : w11.cell? ⟨gb165, 2, none⟩ = some (.int .i64 a0_2) := (blk_cell BK165.out 2).trans rfl; have hcz12_3 : w11.cell? ⟨gb165, 3, none⟩ = some (.bool a0_3) := (blk_cell BK165.out 3).trans rfl; have hfz12_0 := blk_frozen BK165.out 0; have hfz12_1 := blk_frozen BK165.out 1; have hfz12_2 := blk_frozen BK165.out 2; have hfz12_3 := blk_frozen BK165.out 3) | ((with_reducible refine gate_callee (f := 58) rfl ?_); refine goesL_ (some 5) rfl rfl Try.func58 (by kernel_rfl) rfl #[.int .i64 a0_0, .int .i64 (-1000000), .int .i64 1000000] rfl (by (try simp only [List.map_toArray, List.map_cons, List.map_nil]); first | done | rfl | (simp only [List.length_drop, List.length_take]; rfl)) ?_; (with_reducible refine (impl_inRange.calls a0_0 (-1000000) 1000000 false _ A2.out).mono ?_); rintro e w' ⟨rfl, ⟨nd, rfl⟩⟩; refine ⟨_, rfl, ?_⟩))
    go_ret
    exact ⟨by first | rfl | (simp [errW_none, errW_some] <;> rfl) | (simp [*, errW_none, errW_some] <;> rfl), by repeat (first | (with_reducible first | exact HB.out | apply below_alloc | apply pw_below_drewN | apply below_drew1 | refine below_set ?_ GE165.out) | exact HB.out)⟩

/-! ### impl_isLetter: function 93 -/
def impl_isLetter.f (a0 : Int) : Option (Bool) := if a0 ≥ 97 then (if a0 ≤ 122 then (some true) else (if a0 ≥ 65 then (some (decide (a0 ≤ 90))) else (some false))) else (if a0 ≥ 65 then (some (decide (a0 ≤ 90))) else (some false))
set_option maxHeartbeats 8000000 in
set_option maxRecDepth 100000 in
theorem impl_isLetter.calls (a0 : Int) (r : Bool) (w : World) (h : impl_isLetter.f a0 = some r) :
    Calls Try.prog 93 #[.int .u8 a0] w fun e w' => e = .returned (.bool r) ∧ Drawn0 w w' := by
  have H : (if a0 ≥ 97 then (if a0 ≤ 122 then (some true) else (if a0 ≥ 65 then (some (decide (a0 ≤ 90))) else (some false))) else (if a0 ≥ 65 then (some (decide (a0 ≤ 90))) else (some false))) = some r := h
  clear h
  by_cases c2 : a0 ≥ 97
  · rw [if_pos c2] at H
    have c2b0 : decide (97 ≤ a0) = true := decide_eq_true c2
    clear c2
    by_cases c3 : a0 ≤ 122
    · rw [if_pos c3] at H
      have c3b0 : decide (a0 ≤ 122) = true := decide_eq_true c3
      clear c3
      obtain rfl := Option.some.inj H
      go_enter Try.func93, Try.ntmps93
      go_wp2
      go_ret
      exact ⟨by first | rfl | (simp; done) | (simp [*]; done), by repeat (first | exact Drawn0.refl _ | apply Drawn0.step)⟩
    · rw [if_neg c3] at H
      have c3b0 : decide (a0 ≤ 122) = false := decide_eq_false c3
      clear c3
      by_cases c4 : a0 ≥ 65
      · rw [if_pos c4] at H
        have c4b0 : decide (65 ≤ a0) = true := decide_eq_true c4
        clear c4
        obtain rfl := Option.some.inj H
        go_enter Try.func93, Try.ntmps93
        go_wp2
        go_ret
        exact ⟨by first | rfl | (simp; done) | (simp [*]; done), by repeat (first | exact Drawn0.refl _ | apply Drawn0.step)⟩
      · rw [if_neg c4] at H
        have c4b0 : decide (65 ≤ a0) = false := decide_eq_false c4
        clear c4
        obtain rfl := Option.some.inj H
        go_enter Try.func93, Try.ntmps93
        go_wp2
        go_ret
        exact ⟨by first | rfl | (simp; done) | (simp [*]; done), by repeat (first | exact Drawn0.refl _ | apply Drawn0.step)⟩
  · rw [if_neg c2] at H
    have c2b0 : decide (97 ≤ a0) = false := decide_eq_false c2
    clear c2
    by_cases c5 : a0 ≥ 65
    · rw [if_pos c5] at H
      have c5b0 : decide (65 ≤ a0) = true := decide_eq_true c5
      clear c5
      obtain rfl := Option.some.inj H
      go_enter Try.func93, Try.ntmps93
      go_wp2
      go_ret
      exact ⟨by first | rfl | (simp; done) | (simp [*]; done), by repeat (first | exact Drawn0.refl _ | apply Drawn0.step)⟩
    · rw [if_neg c5] at H
      have c5b0 : decide (65 ≤ a0) = false := decide_eq_false c5
      clear c5
      obtain rfl := Option.some.inj H
      go_enter Try.func93, Try.ntmps93
      go_wp2
      go_ret
      exact ⟨by first | rfl | (simp; done) | (simp [*]; done), by repeat (first | exact Drawn0.refl _ | apply Drawn0.step)⟩

/-! ### impl_isDigit: function 94 -/
def impl_isDigit.f (a0 : Int) : Option (Bool) := if a0 ≥ 48 then (some (decide (a0 ≤ 57))) else (some false)
set_option maxHeartbeats 8000000 in
set_option maxRecDepth 100000 in
theorem impl_isDigit.calls (a0 : Int) (r : Bool) (w : World) (h : impl_isDigit.f a0 = some r) :
    Calls Try.prog 94 #[.int .u8 a0] w fun e w' => e = .returned (.bool r) ∧ Drawn0 w w' := by
  have H : (if a0 ≥ 48 then (some (decide (a0 ≤ 57))) else (some false)) = some r := h
  clear h
  by_cases c2 : a0 ≥ 48
  · rw [if_pos c2] at H
    have c2b0 : decide (48 ≤ a0) = true := decide_eq_true c2
    clear c2
    obtain rfl := Option.some.inj H
    go_enter Try.func94, Try.ntmps94
    go_wp2
    go_ret
    exact ⟨by first | rfl | (simp; done) | (simp [*]; done), by repeat (first | exact Drawn0.refl _ | apply Drawn0.step)⟩
  · rw [if_neg c2] at H
    have c2b0 : decide (48 ≤ a0) = false := decide_eq_false c2
    clear c2
    obtain rfl := Option.some.inj H
    go_enter Try.func94, Try.ntmps94
    go_wp2
    go_ret
    exact ⟨by first | rfl | (simp; done) | (simp [*]; done), by repeat (first | exact Drawn0.refl _ | apply Drawn0.step)⟩

end Go.Proofs.Ytmabgkhkokckgaa.PFnExactCutNode
