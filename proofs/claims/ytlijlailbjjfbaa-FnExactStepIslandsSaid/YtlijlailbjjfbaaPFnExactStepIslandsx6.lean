/- The machine's side of a law, function by function: a Lean function with the Go function's answers and the proof that the Go code comes to them. No condition. Written by this session's program over the kit's print, this session's own contracts set in. -/
import Derived.Test.YtlijlailbjjfbaaPFnExactStepIslandsx0
import Derived.Test.YtlijlailbjjfbaaPFnExactStepIslandsx1
import Derived.Test.YtlijlailbjjfbaaPFnExactStepIslandsx2
import Derived.Test.YtlijlailbjjfbaaPFnExactStepIslandsx4
import Derived.Test.YtlijlailbjjfbaaPFnExactStepIslandsx5
namespace Go.Proofs.Ytlijlailbjjfbaa.PFnExactStepIslands
open Go.RowKit Go.Proofs.YtlijlailbjjfbaaW.PrintWords Go.Proofs.YtlijlailbjjfbaaW.PrintLast Go.Proofs.YtlijlailbjjfbaaW.PrintMore
attribute [local go_sem] max2_int min2_int max_two min_two max_three min_three max_four min_four   -- for this text's walks alone
set_option linter.unusedVariables false
set_option linter.unusedSimpArgs false

/-! ### spec_l10Push: function 90 -/
mutual
def spec_l10Push.j0 : Nat → List (S31) → Int → Int → Bool → Option ((List (S31)) × Bool)
 | 0, _, _, _, _ => none
 | k + 1, x0, x1, x2, x24 => if x24 = true then (some (([] : List (S31)), false)) else ((some (([] : List (S31)) : List (S31))).bind fun y150 => (if y150.length + x0.length < 4398046511104 then (spec_l10Push.l0 k x1 x2 (y150 ++ x0)) else (none)))
def spec_l10Push.l0 : Nat → Int → Int → List (S31) → Option ((List (S31)) × Bool)
 | 0, _, _, _ => none
 | k + 1, x1, x2, x8 => if x2 > 0 then (spec_l10Push.l1 k x1 x2 x8 0) else (some (x8, true))
def spec_l10Push.l1 : Nat → Int → Int → List (S31) → Int → Option ((List (S31)) × Bool)
 | 0, _, _, _, _ => none
 | k + 1, x1, x2, x8, x9 => if (wrap64 (x9 + 1)) < (x8.length : Int) then (if 0 ≤ x9 then (if x9 < (x8.length : Int) then (if 0 ≤ (wrap64 (x9 + 1)) then ((spec_l10Pair.f k ((rd_T31 x8 x9).f0) ((rd_T31 x8 x9).f1) ((rd_T31 x8 x9).f2) ((rd_T31 x8 x9).f3) ((rd_T31 x8 (wrap64 (x9 + 1))).f0) ((rd_T31 x8 (wrap64 (x9 + 1))).f1) ((rd_T31 x8 (wrap64 (x9 + 1))).f2) ((rd_T31 x8 (wrap64 (x9 + 1))).f3) x1).bind fun bt158 => ((spec_l10Body.f bt158.1 bt158.2.1 bt158.2.2.1 bt158.2.2.2.1).bind fun t168 => (if t168 = true then ((spec_l10Body.f bt158.2.2.2.2.1 bt158.2.2.2.2.2.1 bt158.2.2.2.2.2.2.1 bt158.2.2.2.2.2.2.2).bind fun t169 => (if t169 = true then (spec_l10Push.l1 k x1 x2 ((x8.set (x9 : Int).toNat (⟨bt158.1, bt158.2.1, bt158.2.2.1, bt158.2.2.2.1⟩ : S31)).set ((wrap64 (x9 + 1)) : Int).toNat (⟨bt158.2.2.2.2.1, bt158.2.2.2.2.2.1, bt158.2.2.2.2.2.2.1, bt158.2.2.2.2.2.2.2⟩ : S31)) (wrap64 (x9 + 1))) else (some (([] : List (S31)), false)))) else (some (([] : List (S31)), false))))) else (none)) else (none)) else (none)) else (spec_l10Push.l0 k x1 (wrap64 (x2 - 1)) x8)
end
def spec_l10Push.f (k : Nat) (l0 : List (S31)) (a1 : Int) (a2 : Int) : Option ((List (S31)) × Bool) := (spec_GoodLine.f k l0).bind fun t147 => (if t147 = true then ((spec_l10Bounce.f a1).bind fun t148 => (if t148 = true then ((spec_l1In.f a2 0 50).bind fun t149 => (spec_l10Push.j0 k l0 a1 a2 (!t149))) else (spec_l10Push.j0 k l0 a1 a2 true))) else (spec_l10Push.j0 k l0 a1 a2 true))
theorem spec_l10Push.mono_l : ∀ k, (∀ y0 y1 y2 y3, LeO (spec_l10Push.j0 k y0 y1 y2 y3) (spec_l10Push.j0 (k + 1) y0 y1 y2 y3)) ∧ (∀ y0 y1 y2, LeO (spec_l10Push.l0 k y0 y1 y2) (spec_l10Push.l0 (k + 1) y0 y1 y2)) ∧ (∀ y0 y1 y2 y3, LeO (spec_l10Push.l1 k y0 y1 y2 y3) (spec_l10Push.l1 (k + 1) y0 y1 y2 y3))
 | 0 => ⟨fun _ _ _ _ r h => by simp [spec_l10Push.j0] at h, fun _ _ _ r h => by simp [spec_l10Push.l0] at h, fun _ _ _ _ r h => by simp [spec_l10Push.l1] at h⟩
 | k + 1 => by
  obtain ⟨ih0, ih1, ih2⟩ := spec_l10Push.mono_l k
  refine ⟨?_, ?_, ?_⟩
  ·intro y0 y1 y2 y3
   unfold spec_l10Push.j0
   repeat' first
   | (with_reducible exact ih0 _ _ _ _)
   | (with_reducible exact ih1 _ _ _)
   | (with_reducible exact ih2 _ _ _ _)
   | (with_reducible exact spec_GoodLine.mono _ _)
   | (with_reducible exact spec_l10Pair.mono _ _ _ _ _ _ _ _ _ _)
   | (with_reducible exact LeO.refl _)
   | (with_reducible exact LeO.none _)
   | (with_reducible refine LeO.ite ?_ ?_)
   | (with_reducible refine LeO.bind ?_ (fun _ => ?_))
   | exact ih0 _ _ _ _
   | exact ih1 _ _ _
   | exact ih2 _ _ _ _
   | exact spec_GoodLine.mono _ _
   | exact spec_l10Pair.mono _ _ _ _ _ _ _ _ _ _
   | exact LeO.none _
   | refine LeO.ite ?_ ?_
   | refine LeO.bind ?_ (fun _ => ?_)
  ·intro y0 y1 y2
   unfold spec_l10Push.l0
   repeat' first
   | (with_reducible exact ih0 _ _ _ _)
   | (with_reducible exact ih1 _ _ _)
   | (with_reducible exact ih2 _ _ _ _)
   | (with_reducible exact spec_GoodLine.mono _ _)
   | (with_reducible exact spec_l10Pair.mono _ _ _ _ _ _ _ _ _ _)
   | (with_reducible exact LeO.refl _)
   | (with_reducible exact LeO.none _)
   | (with_reducible refine LeO.ite ?_ ?_)
   | (with_reducible refine LeO.bind ?_ (fun _ => ?_))
   | exact ih0 _ _ _ _
   | exact ih1 _ _ _
   | exact ih2 _ _ _ _
   | exact spec_GoodLine.mono _ _
   | exact spec_l10Pair.mono _ _ _ _ _ _ _ _ _ _
   | exact LeO.none _
   | refine LeO.ite ?_ ?_
   | refine LeO.bind ?_ (fun _ => ?_)
  ·intro y0 y1 y2 y3
   unfold spec_l10Push.l1
   repeat' first
   | (with_reducible exact ih0 _ _ _ _)
   | (with_reducible exact ih1 _ _ _)
   | (with_reducible exact ih2 _ _ _ _)
   | (with_reducible exact spec_GoodLine.mono _ _)
   | (with_reducible exact spec_l10Pair.mono _ _ _ _ _ _ _ _ _ _)
   | (with_reducible exact LeO.refl _)
   | (with_reducible exact LeO.none _)
   | (with_reducible refine LeO.ite ?_ ?_)
   | (with_reducible refine LeO.bind ?_ (fun _ => ?_))
   | exact ih0 _ _ _ _
   | exact ih1 _ _ _
   | exact ih2 _ _ _ _
   | exact spec_GoodLine.mono _ _
   | exact spec_l10Pair.mono _ _ _ _ _ _ _ _ _ _
   | exact LeO.none _
   | refine LeO.ite ?_ ?_
   | refine LeO.bind ?_ (fun _ => ?_)
theorem spec_l10Push.mono : ∀ a0 a1 a2 k, LeO (spec_l10Push.f k a0 a1 a2) (spec_l10Push.f (k + 1) a0 a1 a2) := by
 intro a0 a1 a2 k
 obtain ⟨ih0, ih1, ih2⟩ := spec_l10Push.mono_l k
 unfold spec_l10Push.f
 repeat' first
   | (with_reducible exact ih0 _ _ _ _)
   | (with_reducible exact ih1 _ _ _)
   | (with_reducible exact ih2 _ _ _ _)
   | (with_reducible exact spec_GoodLine.mono _ _)
   | (with_reducible exact spec_l10Pair.mono _ _ _ _ _ _ _ _ _ _)
   | (with_reducible exact LeO.refl _)
   | (with_reducible exact LeO.none _)
   | (with_reducible refine LeO.ite ?_ ?_)
   | (with_reducible refine LeO.bind ?_ (fun _ => ?_))
   | exact ih0 _ _ _ _
   | exact ih1 _ _ _
   | exact ih2 _ _ _ _
   | exact spec_GoodLine.mono _ _
   | exact spec_l10Pair.mono _ _ _ _ _ _ _ _ _ _
   | exact LeO.none _
   | refine LeO.ite ?_ ?_
   | refine LeO.bind ?_ (fun _ => ?_)
def spec_l10Push.T9 : Bool × List (List Nat × List Nat) := (true, [([], []), ([], []), ([0, 1], [0, 1]), ([2], [2]), ([], []), ([], []), ([5], [5]), ([4, 6], [4, 6]), ([7], [7]), ([], []), ([3, 8, 9], [3, 8, 9]), ([10], [10]), ([11], [11]), ([11], [11]), ([], []), ([], []), ([14, 12, 10, 0, 1, 2, 3, 4, 5, 6, 7, 8, 9, 10, 11, 12, 14, 15], [12, 14]), ([15, 13, 16, 0, 1, 2, 3, 4, 5, 6, 7, 8, 9, 10, 11, 12, 13, 14, 15, 16], [13, 15])])
def spec_l10Push.B9 : List Nat := [0, 0, 3, 7, 0, 0, 32, 112, 240, 0, 1023, 2047, 4095, 4095, 0, 0, 57343, 131071]
theorem spec_l10Push.tab9 : rtab .any (opsOf Try.f90 9) = spec_l10Push.T9 := by kernel_rfl
theorem spec_l10Push.bits9 : waitsOk spec_l10Push.T9.2 spec_l10Push.B9 = true := by kernel_rfl
set_option maxHeartbeats 8000000 in
set_option maxRecDepth 100000 in
theorem spec_l10Push.calls (k : Nat) (A0 : Option Addr) (c0 : Nat) (l0 : List (S31)) (a1 : Int) (a2 : Int) (r1 : List (S31)) (r2 : Bool) (w : World) (hr0 : Kd.C k31 w A0 l0.length l0) (hc0 : l0.length ≤ c0) (h : spec_l10Push.f k l0 a1 a2 = some (r1, r2)) :
  Calls Try.prog 90 #[.slice A0 l0.length c0, .int .i64 a1, .int .i64 a2] w fun e w' => ∃ v0_ : Value, e = .returned (.tuple #[v0_, .bool r2]) ∧ Kd.R k31 31 w' w.heap.size (fun _ => True) v0_ r1 ∧ Below w.heap.size w w' := by
 have hu31 := Try.underlying31
 have HR0 := Aside0.mk hr0
 have HC0 := Aside0.mk hc0
 clear hr0 hc0
 have HB := Aside0.mk (Below.refl w.heap.size w)
 have H : ((spec_GoodLine.f k l0).bind fun t147 => (if t147 = true then ((spec_l10Bounce.f a1).bind fun t148 => (if t148 = true then ((spec_l1In.f a2 0 50).bind fun t149 => (spec_l10Push.j0 k l0 a1 a2 (!t149))) else (spec_l10Push.j0 k l0 a1 a2 true))) else (spec_l10Push.j0 k l0 a1 a2 true))) = some (r1, r2) := h
 clear h
 have HC4 := Aside0.mk H
 clear H
 go_enter Try.func90, Try.ntmps90
 go_upto_region 1 with (fail)
 go_cut [24] (fun v24 wc => ∃ (kq : Nat) (x24_3 : Bool), v24 = .bool x24_3 ∧ Aside0 (spec_l10Push.j0 kq l0 a1 a2 x24_3 = some (r1, r2)) ∧ Aside0 (kq ≤ k) ∧ Aside0 (Below w.heap.size w wc))
 case first =>
  have H := HC4.out
  clear HC4
  replace H := Option.bind_eq_some_iff.mp H
  obtain ⟨t147, A50, H⟩ := H
  replace H : (if t147 = true then ((spec_l10Bounce.f a1).bind fun t148 => (if t148 = true then ((spec_l1In.f a2 0 50).bind fun t149 => (spec_l10Push.j0 k l0 a1 a2 (!t149))) else (spec_l10Push.j0 k l0 a1 a2 true))) else (spec_l10Push.j0 k l0 a1 a2 true)) = some (r1, r2) := H
  have A5 := Aside0.mk A50
  clear A50
  by_cases c6 : t147 = true
  ·subst c6
   have H1 : ((spec_l10Bounce.f a1).bind fun t148 => (if t148 = true then ((spec_l1In.f a2 0 50).bind fun t149 => (spec_l10Push.j0 k l0 a1 a2 (!t149))) else (spec_l10Push.j0 k l0 a1 a2 true))) = some (r1, r2) := by rw [if_pos rfl] at H; exact H
   clear H
   have H := H1
   clear H1
   replace H := Option.bind_eq_some_iff.mp H
   obtain ⟨t148, A70, H⟩ := H
   replace H : (if t148 = true then ((spec_l1In.f a2 0 50).bind fun t149 => (spec_l10Push.j0 k l0 a1 a2 (!t149))) else (spec_l10Push.j0 k l0 a1 a2 true)) = some (r1, r2) := H
   have A7 := Aside0.mk A70
   clear A70
   by_cases c8 : t148 = true
   ·subst c8
    have H1 : ((spec_l1In.f a2 0 50).bind fun t149 => (spec_l10Push.j0 k l0 a1 a2 (!t149))) = some (r1, r2) := by rw [if_pos rfl] at H; exact H
    clear H
    have H := H1
    clear H1
    replace H := Option.bind_eq_some_iff.mp H
    obtain ⟨t149, A90, H⟩ := H
    replace H : (spec_l10Push.j0 k l0 a1 a2 (!t149)) = some (r1, r2) := H
    have A9 := Aside0.mk A90
    clear A90
    have H' := Aside0.mk H
    clear H
    go_wp2_with (first | ((with_reducible refine gate_callee (f := 16) rfl ?_); refine goesL_ (some 13) rfl rfl Try.func16 (by kernel_rfl) rfl #[.slice A0 l0.length c0] rfl (by (try simp only [List.map_toArray, List.map_cons, List.map_nil]); first | done | rfl | (simp only [List.length_drop, List.length_take]; rfl)) ?_; (with_reducible refine (spec_GoodLine.calls k _ _ l0 true _ ?side1 ?side2 A5.out).mono ?_); (case side1 => repeat (first | exact (Kd.C_below HR0.out HB.out) | (with_reducible refine Kd.C_alloc ?_ _) | (with_reducible refine Kd.C_drewN ?_ _) | (with_reducible refine Kd.C_drew ?_))); (case side2 => exact HC0.out); rintro e w10 ⟨rfl, hb⟩; refine ⟨_, rfl, ?_⟩; have n0_ := z_bs HB hb; clear HB; have HB := n0_; clear n0_; (try clear hb); (try clear hb2); (try clear hk); (try clear hi)) | (go_at_call 73; (with_reducible refine (spec_l10Bounce.calls a1 true _ A7.out).mono ?_); rintro e w' ⟨rfl, ⟨nd, rfl⟩⟩) | (go_at_call 79; (with_reducible refine (spec_l1In.calls a2 0 50 t149 _ A9.out).mono ?_); rintro e w' ⟨rfl, ⟨nd, rfl⟩⟩))
    go_meet
    case rel => exact ⟨_, (!t149), (by first | rfl | (simp; done) | (simp [*]; done)), H', ⟨by first | omega | exact Nat.le_refl _⟩, ⟨blw⟩⟩
   ·replace c8 := Bool.eq_false_iff.mpr c8
    subst c8
    have H1 : (spec_l10Push.j0 k l0 a1 a2 true) = some (r1, r2) := by rw [if_neg (show ¬ (false = true) by decide)] at H; exact H
    clear H
    have H := H1
    clear H1
    have H' := Aside0.mk H
    clear H
    go_wp2_with (first | ((with_reducible refine gate_callee (f := 16) rfl ?_); refine goesL_ (some 13) rfl rfl Try.func16 (by kernel_rfl) rfl #[.slice A0 l0.length c0] rfl (by (try simp only [List.map_toArray, List.map_cons, List.map_nil]); first | done | rfl | (simp only [List.length_drop, List.length_take]; rfl)) ?_; (with_reducible refine (spec_GoodLine.calls k _ _ l0 true _ ?side1 ?side2 A5.out).mono ?_); (case side1 => repeat (first | exact (Kd.C_below HR0.out HB.out) | (with_reducible refine Kd.C_alloc ?_ _) | (with_reducible refine Kd.C_drewN ?_ _) | (with_reducible refine Kd.C_drew ?_))); (case side2 => exact HC0.out); rintro e w11 ⟨rfl, hb⟩; refine ⟨_, rfl, ?_⟩; have n0_ := z_bs HB hb; clear HB; have HB := n0_; clear n0_; (try clear hb); (try clear hb2); (try clear hk); (try clear hi)) | (go_at_call 73; (with_reducible refine (spec_l10Bounce.calls a1 false _ A7.out).mono ?_); rintro e w' ⟨rfl, ⟨nd, rfl⟩⟩))
    go_meet
    case rel => exact ⟨_, (true), (by first | rfl | (simp; done) | (simp [*]; done)), H', ⟨by first | omega | exact Nat.le_refl _⟩, ⟨blw⟩⟩
  ·replace c6 := Bool.eq_false_iff.mpr c6
   subst c6
   have H1 : (spec_l10Push.j0 k l0 a1 a2 true) = some (r1, r2) := by rw [if_neg (show ¬ (false = true) by decide)] at H; exact H
   clear H
   have H := H1
   clear H1
   have H' := Aside0.mk H
   clear H
   go_wp2_with (first | ((with_reducible refine gate_callee (f := 16) rfl ?_); refine goesL_ (some 13) rfl rfl Try.func16 (by kernel_rfl) rfl #[.slice A0 l0.length c0] rfl (by (try simp only [List.map_toArray, List.map_cons, List.map_nil]); first | done | rfl | (simp only [List.length_drop, List.length_take]; rfl)) ?_; (with_reducible refine (spec_GoodLine.calls k _ _ l0 false _ ?side1 ?side2 A5.out).mono ?_); (case side1 => repeat (first | exact (Kd.C_below HR0.out HB.out) | (with_reducible refine Kd.C_alloc ?_ _) | (with_reducible refine Kd.C_drewN ?_ _) | (with_reducible refine Kd.C_drew ?_))); (case side2 => exact HC0.out); rintro e w12 ⟨rfl, hb⟩; refine ⟨_, rfl, ?_⟩; have n0_ := z_bs HB hb; clear HB; have HB := n0_; clear n0_; (try clear hb); (try clear hb2); (try clear hk); (try clear hi)))
   go_meet
   case rel => exact ⟨_, (true), (by first | rfl | (simp; done) | (simp [*]; done)), H', ⟨by first | omega | exact Nat.le_refl _⟩, ⟨blw⟩⟩
 case rest =>
  clear HC4
  try clear c1
  try clear p2
  try clear c6
  try clear c8
  try clear c9
  obtain ⟨kq, x24_3, rfl, HA, HJ3, HB⟩ := hcut
  cases kq with
  | zero => exact absurd HA.out (by simp [spec_l10Push.j0])
  | succ kj3 =>
   have H := HA.out
   clear HA
   simp only [spec_l10Push.j0] at H
   by_cases c13 : x24_3 = true
   ·subst c13
    have H1 : (some (([] : List (S31)), false)) = some (r1, r2) := by rw [if_pos rfl] at H; exact H
    clear H
    have H := H1
    clear H1
    simp only [Option.some.injEq, Prod.mk.injEq] at H
    obtain ⟨rfl, rfl⟩ := H
    go_wp2
    go_ret2
    exact ⟨_, by first | rfl | (simp [errW_none, errW_some] <;> rfl) | (simp [*, errW_none, errW_some] <;> rfl), by first | exact Kd.R_nil _ _ _ _ _ | exact Kd.N_nil _ _ _ _ _ | exact Kd.V_nil _ _ _ _ _ | exact Kd.Q_nil _ _ _ _ _ | exact Kd.S_nil _ _ _ _ _, blw⟩
   ·replace c13 := Bool.eq_false_iff.mpr c13
    subst c13
    have H1 : ((some (([] : List (S31)) : List (S31))).bind fun y150 => (if y150.length + l0.length < 4398046511104 then (spec_l10Push.l0 kj3 a1 a2 (y150 ++ l0)) else (none))) = some (r1, r2) := by rw [if_neg (show ¬ (false = true) by decide)] at H; exact H
    clear H
    have H := H1
    clear H1
    obtain ⟨y150, hy150⟩ : ∃ y_ : List (S31), y_ = (([] : List (S31))) := ⟨_, rfl⟩
    replace H : (if y150.length + l0.length < 4398046511104 then (spec_l10Push.l0 kj3 a1 a2 (y150 ++ l0)) else (none)) = some (r1, r2) := by first | (rw [hy150]; with_reducible exact H) | (have H2_ := (Option.bind_some _ _).symm.trans H; rw [hy150]; with_reducible exact H2_) | (have H2_ := (Option.bind_some _ _).symm.trans H; with_reducible exact H2_) | with_reducible exact H | (rw [hy150]; exact H) | exact H
    have Ny150 := Aside0.mk hy150
    clear hy150
    by_cases c14 : y150.length + l0.length < 4398046511104
    ·rw [if_pos c14] at H
     have LMc14 := Aside0.mk c14
     clear c14
     obtain ⟨y153, hy153⟩ : ∃ y_ : List (S31), y_ = (y150 ++ l0) := ⟨_, rfl⟩
     replace H : (spec_l10Push.l0 kj3 a1 a2 y153) = some (r1, r2) := by first | (rw [hy153]; with_reducible exact H) | (have H2_ := (Option.bind_some _ _).symm.trans H; rw [hy153]; with_reducible exact H2_) | (have H2_ := (Option.bind_some _ _).symm.trans H; with_reducible exact H2_) | with_reducible exact H | (rw [hy153]; exact H) | exact H
     have Ny153 := Aside0.mk hy153
     clear hy153
     have H' := Aside0.mk H
     clear H
     go_wp2_with (first | ((with_reducible refine gate_dst (N := 25) rfl ?_); refine Kd.R_lit k31 _ 31 ?hg (N := 25) ?hd (xs := ([] : List (S31))) (inner := []) (ok := fun _ => True) (okp := fun _ => True) ?hr ?hp (fun _ hk => hk) trivial (Below.refl _ _) (Nat.le_refl _) (by simp) ?_; (case hd => rfl); (case hg => rfl); (case hr => first | (go_simp; done) | (go_simp; rfl)); (case hp => exact (Reps.none _ _)); intro v151 w15 ho16 hb hg_ hnew_; clear hg_ hnew_; (first | rw [← Ny150.out] at ho16 | (simp only [Int.reduceToNat] at ho16; rw [← Ny150.out] at ho16)); have n0_ := Aside0.mk (Kd.R_lower ho16 (below_size blw)); have n1_ := z_bs HB hb; clear HB; have HO152 := n0_; have HB := n1_; clear n0_ n1_; clear hb ho16) | ((with_reducible refine gate_builtin (b := .append) (xs := #[.tmp 25, .tmp 26]) rfl ?_); at_builtin; refine Kd.R_append_rows k31 (w0 := w) w.heap.size rfl (.tmp 25) (.tmp 26) 25 31 (.agg #[(.int .i64 0), (.int .i64 0), (.int .i64 0), (.int .i64 0)]) 32 rfl Try.underlying25 info31 rfl (by decide) (by omega) v151 y150 l0 _ _ _ (fun _ => True) (fun _ => False) rfl rfl ?aO ?aR (fun _ _ h => h) (fun _ h => h.elim) ?aF ?aB ?aS ?aL ?_; (case aR => repeat (first | exact (Kd.C_below HR0.out HB.out) | (with_reducible refine Kd.C_alloc ?_ _) | (with_reducible refine Kd.C_drewN ?_ _) | (with_reducible refine Kd.C_drew ?_))); (case aB => exact blw); (case aF => exact (fun _ _ => trivial)); (case aO => exact (by (with_reducible repeat (first | apply Kd.R_alloc | apply Kd.R_drewN | apply Kd.R_drew)); exact HO152.out)); (case aS => exact (below_size blw)); (case aL => have := LMc14.out; omega); intro v154 w17 ho hb hg hat; rw [← Ny153.out] at ho; have n0_ := Aside0.mk (hb); have n1_ := Aside0.mk (ho); clear HB; clear HO152; have HB := n0_; have HO155 := n1_; clear n0_ n1_; clear ho hb hg hat))
     go_loopg [2] kj3 (fun kq v2 w' => ∃ (x2_2 : Int) (x8_2 : List (S31)), v2 = .int .i64 x2_2 ∧ Aside0 (spec_l10Push.l0 kq a1 x2_2 x8_2 = some (r1, r2)) ∧ Aside0 (kq ≤ kj3) ∧ Aside0 (Kd.R k31 31 w' w.heap.size (fun _ => True) v154 x8_2) ∧ Aside0 (Below w.heap.size w w'))
     case atStart => exact ⟨(a2), (y153), (by first | rfl | (simp; done) | (simp [*]; done)), H', ⟨Nat.le_refl _⟩, ⟨by (with_reducible repeat (first | apply Kd.R_alloc | apply Kd.R_drewN | apply Kd.R_drew)); exact HO155.out⟩, ⟨blw⟩⟩
     case round =>
      clear H'
      try clear c1
      try clear p2
      try clear c6
      try clear c8
      try clear c9
      try clear c13
      try clear c14
      try clear c16
      try clear p2
      obtain ⟨x2_2, x8_2, rfl, HA, HK2, HO_8, HB⟩ := hrel
      cases gk with
      | zero => exact absurd HA.out (by simp [spec_l10Push.l0])
      | succ k2 =>
       have H := HA.out
       clear HA
       simp only [spec_l10Push.l0] at H
       by_cases c18 : x2_2 > 0
       ·rw [if_pos c18] at H
        have c18b0 : decide (0 < x2_2) = true := decide_eq_true c18
        clear c18
        have H' := Aside0.mk H
        clear H
        go_wp2
        go_loopg [9] k2 (fun kq v9 w' => ∃ (x8_3 : List (S31)) (x9_3 : Int), v9 = .int .i64 x9_3 ∧ Aside0 (spec_l10Push.l1 kq a1 x2_2 x8_3 x9_3 = some (r1, r2)) ∧ Aside0 (kq ≤ k2) ∧ Aside0 (Kd.R k31 31 w' w.heap.size (fun _ => True) v154 x8_3) ∧ Aside0 (Below w.heap.size w w'))
        case atStart => exact ⟨(x8_2), (0), (by first | rfl | (simp; done) | (simp [*]; done)), H', ⟨Nat.le_refl _⟩, ⟨by (with_reducible repeat (first | apply Kd.R_alloc | apply Kd.R_drewN | apply Kd.R_drew)); exact HO_8.out⟩, ⟨blw⟩⟩
        case round =>
         clear H'
         try clear c1
         try clear p2
         try clear c6
         try clear c8
         try clear c9
         try clear c13
         try clear c14
         try clear c16
         try clear c18
         try clear c18b0
         try clear p2
         obtain ⟨x8_3, x9_3, rfl, HA, HK3, HO_8, HB⟩ := hrel
         cases gk with
         | zero => exact absurd HA.out (by simp [spec_l10Push.l1])
         | succ k3 =>
          have H := HA.out
          clear HA
          simp only [spec_l10Push.l1] at H
          by_cases c19 : (wrap64 (x9_3 + 1)) < (x8_3.length : Int)
          ·rw [if_pos c19] at H
           have c19b0 : decide ((wrap64 (x9_3 + 1)) < (x8_3.length : Int)) = true := decide_eq_true c19
           clear c19
           by_cases c20 : 0 ≤ x9_3
           ·rw [if_pos c20] at H
            have c20b0 : decide (0 ≤ x9_3) = true := decide_eq_true c20
            clear c20
            by_cases c21 : x9_3 < (x8_3.length : Int)
            ·rw [if_pos c21] at H
             have c21b0 : decide (x9_3 < (x8_3.length : Int)) = true := decide_eq_true c21
             clear c21
             obtain ⟨ji22, hji22⟩ : ∃ j_ : Int, (wrap64 (x9_3 + 1)) = j_ := ⟨_, rfl⟩
             replace H : (if 0 ≤ (ji22) then ((spec_l10Pair.f k3 ((rd_T31 x8_3 x9_3).f0) ((rd_T31 x8_3 x9_3).f1) ((rd_T31 x8_3 x9_3).f2) ((rd_T31 x8_3 x9_3).f3) ((rd_T31 x8_3 (ji22)).f0) ((rd_T31 x8_3 (ji22)).f1) ((rd_T31 x8_3 (ji22)).f2) ((rd_T31 x8_3 (ji22)).f3) a1).bind fun bt158 => ((spec_l10Body.f bt158.1 bt158.2.1 bt158.2.2.1 bt158.2.2.2.1).bind fun t168 => (if t168 = true then ((spec_l10Body.f bt158.2.2.2.2.1 bt158.2.2.2.2.2.1 bt158.2.2.2.2.2.2.1 bt158.2.2.2.2.2.2.2).bind fun t169 => (if t169 = true then (spec_l10Push.l1 k3 a1 x2_2 ((x8_3.set (x9_3 : Int).toNat (⟨bt158.1, bt158.2.1, bt158.2.2.1, bt158.2.2.2.1⟩ : S31)).set ((ji22) : Int).toNat (⟨bt158.2.2.2.2.1, bt158.2.2.2.2.2.1, bt158.2.2.2.2.2.2.1, bt158.2.2.2.2.2.2.2⟩ : S31)) ji22) else (some (([] : List (S31)), false)))) else (some (([] : List (S31)), false))))) else (none)) = some (r1, r2) := by first | (rw [hji22] at H; exact H) | (simp only [hji22] at H ⊢; exact H)
             (try rw [hji22] at c19b0)
             have hji22w : (IntKind.i64.wrap (x9_3 + 1)) = ji22 := (i64_w _).trans hji22
             by_cases c23 : 0 ≤ (ji22)
             ·rw [if_pos c23] at H
              have c23b0 : decide (0 ≤ (ji22)) = true := decide_eq_true c23
              clear c23
              replace H := Option.bind_eq_some_iff.mp H
              obtain ⟨⟨t158, t159, t160, t161, t162, t163, t164, t165⟩, A240, H⟩ := H
              replace H : ((spec_l10Body.f t158 t159 t160 t161).bind fun t168 => (if t168 = true then ((spec_l10Body.f t162 t163 t164 t165).bind fun t169 => (if t169 = true then (spec_l10Push.l1 k3 a1 x2_2 ((x8_3.set (x9_3 : Int).toNat (⟨t158, t159, t160, t161⟩ : S31)).set ((ji22) : Int).toNat (⟨t162, t163, t164, t165⟩ : S31)) ji22) else (some (([] : List (S31)), false)))) else (some (([] : List (S31)), false)))) = some (r1, r2) := H
              have A24 := Aside0.mk A240
              clear A240
              replace H := Option.bind_eq_some_iff.mp H
              obtain ⟨t168, A250, H⟩ := H
              replace H : (if t168 = true then ((spec_l10Body.f t162 t163 t164 t165).bind fun t169 => (if t169 = true then (spec_l10Push.l1 k3 a1 x2_2 ((x8_3.set (x9_3 : Int).toNat (⟨t158, t159, t160, t161⟩ : S31)).set ((ji22) : Int).toNat (⟨t162, t163, t164, t165⟩ : S31)) ji22) else (some (([] : List (S31)), false)))) else (some (([] : List (S31)), false))) = some (r1, r2) := H
              have A25 := Aside0.mk A250
              clear A250
              have HQ_ := Aside0.mk H
              clear H
              obtain ⟨Ao31, co31, eo31⟩ := Kd.R_slice HO_8.out
              subst eo31
              try go_wp2
              have n0_ := Aside0.mk (Kd.R_drew HO_8.out)
              have n1_ := Aside0.mk (below_drew1 HB.out)
              clear HO_8
              clear HB
              have HO_8 := n0_
              have HB := n1_
              clear n0_ n1_
              have p156 : 0 ≤ (x9_3 : Int) := odt
              have q156 : x9_3 < (x8_3.length : Int) := odt
              obtain ⟨ad156, e156, hx156_0, hx156_1, hx156_2, hx156_3⟩ := at_T31 (Kd.R_reads' HO_8.out).2.2 x9_3 p156 q156
              cases e156
              replace p156 := eq_true p156
              replace q156 := eq_true q156
              have p157 : 0 ≤ ((ji22) : Int) := odt
              have q157 : (ji22) < (x8_3.length : Int) := odt
              obtain ⟨ad157, e157, hx157_0, hx157_1, hx157_2, hx157_3⟩ := at_T31 (Kd.R_reads' HO_8.out).2.2 (ji22) p157 q157
              obtain rfl : ad156 = ad157 := (by injection e157)
              replace p157 := eq_true p157
              replace q157 := eq_true q157
              refine start_ (n := 18) (S := fun w' => w'.cell? (ad156.add ((x9_3).toNat * 4)) = some (.int .i64 ((rd_T31 x8_3 x9_3).f0)) ∧ w'.cell? ⟨(ad156.add ((x9_3).toNat * 4)).block, (ad156.add ((x9_3).toNat * 4)).off + 1, none⟩ = some (.int .i64 ((rd_T31 x8_3 x9_3).f1)) ∧ w'.cell? ⟨(ad156.add ((x9_3).toNat * 4)).block, (ad156.add ((x9_3).toNat * 4)).off + 2, none⟩ = some (.int .i64 ((rd_T31 x8_3 x9_3).f2)) ∧ w'.cell? ⟨(ad156.add ((x9_3).toNat * 4)).block, (ad156.add ((x9_3).toNat * 4)).off + 3, none⟩ = some (.int .i64 ((rd_T31 x8_3 x9_3).f3)) ∧ w'.cell? (ad156.add (((ji22)).toNat * 4)) = some (.int .i64 ((rd_T31 x8_3 (ji22)).f0)) ∧ w'.cell? ⟨(ad156.add (((ji22)).toNat * 4)).block, (ad156.add (((ji22)).toNat * 4)).off + 1, none⟩ = some (.int .i64 ((rd_T31 x8_3 (ji22)).f1)) ∧ w'.cell? ⟨(ad156.add (((ji22)).toNat * 4)).block, (ad156.add (((ji22)).toNat * 4)).off + 2, none⟩ = some (.int .i64 ((rd_T31 x8_3 (ji22)).f2)) ∧ w'.cell? ⟨(ad156.add (((ji22)).toNat * 4)).block, (ad156.add (((ji22)).toNat * 4)).off + 3, none⟩ = some (.int .i64 ((rd_T31 x8_3 (ji22)).f3))) (ds := []) #[false, false, false, false, false, false, false, false, false, false, false, false, false, false, false, false, false, false] (by kernel_rfl) rfl rfl ⟨hx156_0, hx156_1, hx156_2, hx156_3, hx157_0, hx157_1, hx157_2, hx157_3⟩ (fun hHeld => ?_); refine with_tabW spec_l10Push.tab9 spec_l10Push.bits9 (fun HT_ HW_ => ?_)
              generalize wr.drew = w32 at HO_8 HB hx156_0 hx156_1 hx156_2 hx156_3 hx157_0 hx157_1 hx157_2 hx157_3 hHeld ⊢
              refine pure_ (i := 0) (N := some 40) (v := ?_) (a' := ?_) #[true, false, false, false, false, false, false, false, false, false, false, false, false, false, false, false, false, false] rfl rfl (any_of HT_.out (by kernel_rfl)) (fun _ _ _ h => h) (Or.inl ⟨by rfl, ?_⟩) ?_ ?_
              rotate_left; (· (intro w'; go_simp; with_reducible rfl)); rotate_left; (· (simp only [Act.put, sp1, sp2, sp3, i64_w, i32_w]; rfl))
              refine pure_ (i := 1) (N := some 41) (v := ?_) (a' := ?_) #[true, true, false, false, false, false, false, false, false, false, false, false, false, false, false, false, false, false] rfl rfl (any_of HT_.out (by kernel_rfl)) (fun _ _ _ h => h) (Or.inl ⟨by rfl, ?_⟩) ?_ ?_
              rotate_left; (· (intro w'; go_simp; with_reducible rfl)); rotate_left; (· (simp only [Act.put, sp1, sp2, sp3, i64_w, i32_w]; rfl))
              refine pure_ (i := 2) (N := some 42) (v := ?_) (a' := ?_) #[true, true, true, false, false, false, false, false, false, false, false, false, false, false, false, false, false, false] rfl rfl (any_of HT_.out (by kernel_rfl)) (fun _ _ _ h => h) (Or.inl ⟨by rfl, ?_⟩) ?_ ?_
              rotate_left; (· (intro w'; go_simp; with_reducible rfl)); rotate_left; (· (simp only [Act.put, sp1, sp2, sp3, i64_w, i32_w]; rfl))
              refine pure_ (i := 4) (N := some 44) (v := ?_) (a' := ?_) #[true, true, true, false, true, false, false, false, false, false, false, false, false, false, false, false, false, false] rfl rfl (any_of HT_.out (by kernel_rfl)) (fun _ _ _ h => h) (Or.inl ⟨by rfl, ?_⟩) ?_ ?_
              rotate_left; (· (intro w'; go_simp; with_reducible rfl)); rotate_left; (· (simp only [Act.put, sp1, sp2, sp3, i64_w, i32_w]; rfl))
              refine pure_ (i := 5) (N := some 45) (v := ?_) (a' := ?_) #[true, true, true, false, true, true, false, false, false, false, false, false, false, false, false, false, false, false] rfl rfl (any_of HT_.out (by kernel_rfl)) (fun _ _ _ h => h) (Or.inl ⟨by rfl, ?_⟩) ?_ ?_
              rotate_left; (· (intro w'; go_simp; with_reducible rfl)); rotate_left; (· (simp only [Act.put, sp1, sp2, sp3, i64_w, i32_w]; rfl))
              refine pure_ (i := 6) (N := some 46) (v := ?_) (a' := ?_) #[true, true, true, false, true, true, true, false, false, false, false, false, false, false, false, false, false, false] rfl rfl (any_of HT_.out (by kernel_rfl)) (fun _ _ _ h => h) (Or.inl ⟨by rfl, ?_⟩) ?_ ?_
              rotate_left; (· (intro w'; go_simp; with_reducible rfl)); rotate_left; (· (simp only [Act.put, sp1, sp2, sp3, i64_w, i32_w]; rfl))
              refine pure_ (i := 7) (N := some 47) (v := ?_) (a' := ?_) #[true, true, true, false, true, true, true, true, false, false, false, false, false, false, false, false, false, false] rfl rfl (any_of HT_.out (by kernel_rfl)) (fun _ _ _ h => h) (Or.inl ⟨by rfl, ?_⟩) ?_ ?_
              rotate_left; (· (intro w'; go_simp; with_reducible rfl)); rotate_left; (· (simp only [Act.put, sp1, sp2, sp3, i64_w, i32_w]; rfl))
              refine pure_ (i := 9) (N := some 49) (v := ?_) (a' := ?_) #[true, true, true, false, true, true, true, true, false, true, false, false, false, false, false, false, false, false] rfl rfl (any_of HT_.out (by kernel_rfl)) (fun _ _ _ h => h) (Or.inl ⟨by rfl, ?_⟩) ?_ ?_
              rotate_left; (· (intro w'; go_simp; with_reducible rfl)); rotate_left; (· (simp only [Act.put, sp1, sp2, sp3, i64_w, i32_w]; rfl))
              refine take_ (i := 3) (N := some 43) (v := ?_) (a' := ?_) #[true, true, true, true, true, true, true, true, false, true, false, false, false, false, false, false, false, false] rfl rfl (take_ofW HT_.out HW_.out (by kernel_rfl)) (fun _ _ _ h => h) (Or.inl ⟨by rfl, ?_⟩) hHeld ?_ ?_
              rotate_left; (· (rintro w' ⟨s0, s1, s2, s3, s4, s5, s6, s7⟩; go_simp; with_reducible rfl)); rotate_left; (· (simp only [Act.put, sp1, sp2, sp3, i64_w, i32_w]; rfl))
              refine take_ (i := 8) (N := some 48) (v := ?_) (a' := ?_) #[true, true, true, true, true, true, true, true, true, true, false, false, false, false, false, false, false, false] rfl rfl (take_ofW HT_.out HW_.out (by kernel_rfl)) (fun _ _ _ h => h) (Or.inl ⟨by rfl, ?_⟩) hHeld ?_ ?_
              rotate_left; (· (rintro w' ⟨s0, s1, s2, s3, s4, s5, s6, s7⟩; go_simp; with_reducible rfl)); rotate_left; (· (simp only [Act.put, sp1, sp2, sp3, i64_w, i32_w]; rfl))
              refine join_ (σ := Nat × Nat) 2 #[true, true, true, true, true, true, true, true, true, true, true, true, true, true, true, true, false, false] (fun s_ => [(50, .tuple #[.agg #[.int .i64 t158, .int .i64 t159, .int .i64 t160, .int .i64 t161], .agg #[.int .i64 t162, .int .i64 t163, .int .i64 t164, .int .i64 t165]]), (10, .pointer (some ⟨s_.1, 0, none⟩)), (11, .pointer (some ⟨s_.2, 0, none⟩)), (39, .tuple #[.agg #[.int .i64 t158, .int .i64 t159, .int .i64 t160, .int .i64 t161], .agg #[.int .i64 t162, .int .i64 t163, .int .i64 t164, .int .i64 t165]]), (51, .agg #[.int .i64 t158, .int .i64 t159, .int .i64 t160, .int .i64 t161]), (52, .agg #[.int .i64 t162, .int .i64 t163, .int .i64 t164, .int .i64 t165])]) (fun s_ w' => (w'.cell? (ad156.add ((x9_3).toNat * 4)) = some (.int .i64 ((rd_T31 x8_3 x9_3).f0)) ∧ w'.cell? ⟨(ad156.add ((x9_3).toNat * 4)).block, (ad156.add ((x9_3).toNat * 4)).off + 1, none⟩ = some (.int .i64 ((rd_T31 x8_3 x9_3).f1)) ∧ w'.cell? ⟨(ad156.add ((x9_3).toNat * 4)).block, (ad156.add ((x9_3).toNat * 4)).off + 2, none⟩ = some (.int .i64 ((rd_T31 x8_3 x9_3).f2)) ∧ w'.cell? ⟨(ad156.add ((x9_3).toNat * 4)).block, (ad156.add ((x9_3).toNat * 4)).off + 3, none⟩ = some (.int .i64 ((rd_T31 x8_3 x9_3).f3)) ∧ w'.cell? (ad156.add (((ji22)).toNat * 4)) = some (.int .i64 ((rd_T31 x8_3 (ji22)).f0)) ∧ w'.cell? ⟨(ad156.add (((ji22)).toNat * 4)).block, (ad156.add (((ji22)).toNat * 4)).off + 1, none⟩ = some (.int .i64 ((rd_T31 x8_3 (ji22)).f1)) ∧ w'.cell? ⟨(ad156.add (((ji22)).toNat * 4)).block, (ad156.add (((ji22)).toNat * 4)).off + 2, none⟩ = some (.int .i64 ((rd_T31 x8_3 (ji22)).f2)) ∧ w'.cell? ⟨(ad156.add (((ji22)).toNat * 4)).block, (ad156.add (((ji22)).toNat * 4)).off + 3, none⟩ = some (.int .i64 ((rd_T31 x8_3 (ji22)).f3))) ∧ (Kd.R k31 31 w' w.heap.size (fun k_ => k_ ≠ s_.1 ∧ k_ ≠ s_.2) (.slice (some ad156) x8_3.length co31) x8_3) ∧ (w'.heap[s_.1]? = some (.cells #[.int .i64 0, .int .i64 0, .int .i64 0, .int .i64 0] 31 (0, 0))) ∧ (w'.heap[s_.2]? = some (.cells #[.int .i64 0, .int .i64 0, .int .i64 0, .int .i64 0] 31 (0, 0))) ∧ (w.heap.size ≤ s_.1) ∧ (w.heap.size ≤ s_.1) ∧ (s_.2 ≠ s_.1) ∧ (s_.1 ≠ s_.2) ∧ (w.heap.size ≤ s_.2) ∧ (w.heap.size ≤ s_.2) ∧ (Below w.heap.size w w')) ?_ ?_
              rotate_left
              ·intro hJ10_14_15
               refine join_ (σ := Nat) 3 #[true, true, true, true, true, true, true, true, true, true, true, true, true, true, true, false, false, false] (fun s_ => [(50, .tuple #[.agg #[.int .i64 t158, .int .i64 t159, .int .i64 t160, .int .i64 t161], .agg #[.int .i64 t162, .int .i64 t163, .int .i64 t164, .int .i64 t165]]), (10, .pointer (some ⟨s_, 0, none⟩)), (39, .tuple #[.agg #[.int .i64 t158, .int .i64 t159, .int .i64 t160, .int .i64 t161], .agg #[.int .i64 t162, .int .i64 t163, .int .i64 t164, .int .i64 t165]]), (51, .agg #[.int .i64 t158, .int .i64 t159, .int .i64 t160, .int .i64 t161]), (52, .agg #[.int .i64 t162, .int .i64 t163, .int .i64 t164, .int .i64 t165])]) (fun s_ w' => (w'.cell? (ad156.add ((x9_3).toNat * 4)) = some (.int .i64 ((rd_T31 x8_3 x9_3).f0)) ∧ w'.cell? ⟨(ad156.add ((x9_3).toNat * 4)).block, (ad156.add ((x9_3).toNat * 4)).off + 1, none⟩ = some (.int .i64 ((rd_T31 x8_3 x9_3).f1)) ∧ w'.cell? ⟨(ad156.add ((x9_3).toNat * 4)).block, (ad156.add ((x9_3).toNat * 4)).off + 2, none⟩ = some (.int .i64 ((rd_T31 x8_3 x9_3).f2)) ∧ w'.cell? ⟨(ad156.add ((x9_3).toNat * 4)).block, (ad156.add ((x9_3).toNat * 4)).off + 3, none⟩ = some (.int .i64 ((rd_T31 x8_3 x9_3).f3)) ∧ w'.cell? (ad156.add (((ji22)).toNat * 4)) = some (.int .i64 ((rd_T31 x8_3 (ji22)).f0)) ∧ w'.cell? ⟨(ad156.add (((ji22)).toNat * 4)).block, (ad156.add (((ji22)).toNat * 4)).off + 1, none⟩ = some (.int .i64 ((rd_T31 x8_3 (ji22)).f1)) ∧ w'.cell? ⟨(ad156.add (((ji22)).toNat * 4)).block, (ad156.add (((ji22)).toNat * 4)).off + 2, none⟩ = some (.int .i64 ((rd_T31 x8_3 (ji22)).f2)) ∧ w'.cell? ⟨(ad156.add (((ji22)).toNat * 4)).block, (ad156.add (((ji22)).toNat * 4)).off + 3, none⟩ = some (.int .i64 ((rd_T31 x8_3 (ji22)).f3))) ∧ (Kd.R k31 31 w' w.heap.size (fun k_ => k_ ≠ s_) (.slice (some ad156) x8_3.length co31) x8_3) ∧ (w'.heap[s_]? = some (.cells #[.int .i64 0, .int .i64 0, .int .i64 0, .int .i64 0] 31 (0, 0))) ∧ (w.heap.size ≤ s_) ∧ (w.heap.size ≤ s_) ∧ (Below w.heap.size w w')) ?_ ?_
               rotate_left
               ·intro hJ10_14
                refine join_ (σ := Nat) 3 #[true, true, true, true, true, true, true, true, true, true, true, true, true, true, false, true, false, false] (fun s_ => [(50, .tuple #[.agg #[.int .i64 t158, .int .i64 t159, .int .i64 t160, .int .i64 t161], .agg #[.int .i64 t162, .int .i64 t163, .int .i64 t164, .int .i64 t165]]), (11, .pointer (some ⟨s_, 0, none⟩)), (39, .tuple #[.agg #[.int .i64 t158, .int .i64 t159, .int .i64 t160, .int .i64 t161], .agg #[.int .i64 t162, .int .i64 t163, .int .i64 t164, .int .i64 t165]]), (51, .agg #[.int .i64 t158, .int .i64 t159, .int .i64 t160, .int .i64 t161]), (52, .agg #[.int .i64 t162, .int .i64 t163, .int .i64 t164, .int .i64 t165])]) (fun s_ w' => (w'.cell? (ad156.add ((x9_3).toNat * 4)) = some (.int .i64 ((rd_T31 x8_3 x9_3).f0)) ∧ w'.cell? ⟨(ad156.add ((x9_3).toNat * 4)).block, (ad156.add ((x9_3).toNat * 4)).off + 1, none⟩ = some (.int .i64 ((rd_T31 x8_3 x9_3).f1)) ∧ w'.cell? ⟨(ad156.add ((x9_3).toNat * 4)).block, (ad156.add ((x9_3).toNat * 4)).off + 2, none⟩ = some (.int .i64 ((rd_T31 x8_3 x9_3).f2)) ∧ w'.cell? ⟨(ad156.add ((x9_3).toNat * 4)).block, (ad156.add ((x9_3).toNat * 4)).off + 3, none⟩ = some (.int .i64 ((rd_T31 x8_3 x9_3).f3)) ∧ w'.cell? (ad156.add (((ji22)).toNat * 4)) = some (.int .i64 ((rd_T31 x8_3 (ji22)).f0)) ∧ w'.cell? ⟨(ad156.add (((ji22)).toNat * 4)).block, (ad156.add (((ji22)).toNat * 4)).off + 1, none⟩ = some (.int .i64 ((rd_T31 x8_3 (ji22)).f1)) ∧ w'.cell? ⟨(ad156.add (((ji22)).toNat * 4)).block, (ad156.add (((ji22)).toNat * 4)).off + 2, none⟩ = some (.int .i64 ((rd_T31 x8_3 (ji22)).f2)) ∧ w'.cell? ⟨(ad156.add (((ji22)).toNat * 4)).block, (ad156.add (((ji22)).toNat * 4)).off + 3, none⟩ = some (.int .i64 ((rd_T31 x8_3 (ji22)).f3))) ∧ (Kd.R k31 31 w' w.heap.size (fun k_ => k_ ≠ s_) (.slice (some ad156) x8_3.length co31) x8_3) ∧ (w'.heap[s_]? = some (.cells #[.int .i64 0, .int .i64 0, .int .i64 0, .int .i64 0] 31 (0, 0))) ∧ (w.heap.size ≤ s_) ∧ (w.heap.size ≤ s_) ∧ (Below w.heap.size w w')) ?_ ?_
                rotate_left
                ·intro hJ10_15
                 refine join_ (σ := Nat × Nat) 6 #[true, true, true, true, true, true, true, true, true, true, false, false, false, false, true, true, false, false] (fun s_ => [(10, .pointer (some ⟨s_.1, 0, none⟩)), (11, .pointer (some ⟨s_.2, 0, none⟩))]) (fun s_ w' => (w'.cell? (ad156.add ((x9_3).toNat * 4)) = some (.int .i64 ((rd_T31 x8_3 x9_3).f0)) ∧ w'.cell? ⟨(ad156.add ((x9_3).toNat * 4)).block, (ad156.add ((x9_3).toNat * 4)).off + 1, none⟩ = some (.int .i64 ((rd_T31 x8_3 x9_3).f1)) ∧ w'.cell? ⟨(ad156.add ((x9_3).toNat * 4)).block, (ad156.add ((x9_3).toNat * 4)).off + 2, none⟩ = some (.int .i64 ((rd_T31 x8_3 x9_3).f2)) ∧ w'.cell? ⟨(ad156.add ((x9_3).toNat * 4)).block, (ad156.add ((x9_3).toNat * 4)).off + 3, none⟩ = some (.int .i64 ((rd_T31 x8_3 x9_3).f3)) ∧ w'.cell? (ad156.add (((ji22)).toNat * 4)) = some (.int .i64 ((rd_T31 x8_3 (ji22)).f0)) ∧ w'.cell? ⟨(ad156.add (((ji22)).toNat * 4)).block, (ad156.add (((ji22)).toNat * 4)).off + 1, none⟩ = some (.int .i64 ((rd_T31 x8_3 (ji22)).f1)) ∧ w'.cell? ⟨(ad156.add (((ji22)).toNat * 4)).block, (ad156.add (((ji22)).toNat * 4)).off + 2, none⟩ = some (.int .i64 ((rd_T31 x8_3 (ji22)).f2)) ∧ w'.cell? ⟨(ad156.add (((ji22)).toNat * 4)).block, (ad156.add (((ji22)).toNat * 4)).off + 3, none⟩ = some (.int .i64 ((rd_T31 x8_3 (ji22)).f3))) ∧ (Kd.R k31 31 w' w.heap.size (fun k_ => k_ ≠ s_.1 ∧ k_ ≠ s_.2) (.slice (some ad156) x8_3.length co31) x8_3) ∧ (w'.heap[s_.1]? = some (.cells #[.int .i64 0, .int .i64 0, .int .i64 0, .int .i64 0] 31 (0, 0))) ∧ (w'.heap[s_.2]? = some (.cells #[.int .i64 0, .int .i64 0, .int .i64 0, .int .i64 0] 31 (0, 0))) ∧ (w.heap.size ≤ s_.1) ∧ (w.heap.size ≤ s_.1) ∧ (s_.2 ≠ s_.1) ∧ (s_.1 ≠ s_.2) ∧ (w.heap.size ≤ s_.2) ∧ (w.heap.size ≤ s_.2) ∧ (Below w.heap.size w w')) ?_ ?_
                 rotate_left
                 ·intro hJ14_15
                  refine join_ (σ := Unit) 4 #[true, true, true, true, true, true, true, true, true, true, true, true, true, true, false, false, false, false] (fun s_ => [(50, .tuple #[.agg #[.int .i64 t158, .int .i64 t159, .int .i64 t160, .int .i64 t161], .agg #[.int .i64 t162, .int .i64 t163, .int .i64 t164, .int .i64 t165]]), (39, .tuple #[.agg #[.int .i64 t158, .int .i64 t159, .int .i64 t160, .int .i64 t161], .agg #[.int .i64 t162, .int .i64 t163, .int .i64 t164, .int .i64 t165]]), (51, .agg #[.int .i64 t158, .int .i64 t159, .int .i64 t160, .int .i64 t161]), (52, .agg #[.int .i64 t162, .int .i64 t163, .int .i64 t164, .int .i64 t165])]) (fun s_ w' => (w'.cell? (ad156.add ((x9_3).toNat * 4)) = some (.int .i64 ((rd_T31 x8_3 x9_3).f0)) ∧ w'.cell? ⟨(ad156.add ((x9_3).toNat * 4)).block, (ad156.add ((x9_3).toNat * 4)).off + 1, none⟩ = some (.int .i64 ((rd_T31 x8_3 x9_3).f1)) ∧ w'.cell? ⟨(ad156.add ((x9_3).toNat * 4)).block, (ad156.add ((x9_3).toNat * 4)).off + 2, none⟩ = some (.int .i64 ((rd_T31 x8_3 x9_3).f2)) ∧ w'.cell? ⟨(ad156.add ((x9_3).toNat * 4)).block, (ad156.add ((x9_3).toNat * 4)).off + 3, none⟩ = some (.int .i64 ((rd_T31 x8_3 x9_3).f3)) ∧ w'.cell? (ad156.add (((ji22)).toNat * 4)) = some (.int .i64 ((rd_T31 x8_3 (ji22)).f0)) ∧ w'.cell? ⟨(ad156.add (((ji22)).toNat * 4)).block, (ad156.add (((ji22)).toNat * 4)).off + 1, none⟩ = some (.int .i64 ((rd_T31 x8_3 (ji22)).f1)) ∧ w'.cell? ⟨(ad156.add (((ji22)).toNat * 4)).block, (ad156.add (((ji22)).toNat * 4)).off + 2, none⟩ = some (.int .i64 ((rd_T31 x8_3 (ji22)).f2)) ∧ w'.cell? ⟨(ad156.add (((ji22)).toNat * 4)).block, (ad156.add (((ji22)).toNat * 4)).off + 3, none⟩ = some (.int .i64 ((rd_T31 x8_3 (ji22)).f3))) ∧ (Kd.R k31 31 w' w.heap.size (fun _ => True) (.slice (some ad156) x8_3.length co31) x8_3) ∧ (Below w.heap.size w w')) ?_ ?_
                  rotate_left
                  ·intro hJ10
                   refine join_ (σ := Nat) 7 #[true, true, true, true, true, true, true, true, true, true, false, false, false, false, true, false, false, false] (fun s_ => [(10, .pointer (some ⟨s_, 0, none⟩))]) (fun s_ w' => (w'.cell? (ad156.add ((x9_3).toNat * 4)) = some (.int .i64 ((rd_T31 x8_3 x9_3).f0)) ∧ w'.cell? ⟨(ad156.add ((x9_3).toNat * 4)).block, (ad156.add ((x9_3).toNat * 4)).off + 1, none⟩ = some (.int .i64 ((rd_T31 x8_3 x9_3).f1)) ∧ w'.cell? ⟨(ad156.add ((x9_3).toNat * 4)).block, (ad156.add ((x9_3).toNat * 4)).off + 2, none⟩ = some (.int .i64 ((rd_T31 x8_3 x9_3).f2)) ∧ w'.cell? ⟨(ad156.add ((x9_3).toNat * 4)).block, (ad156.add ((x9_3).toNat * 4)).off + 3, none⟩ = some (.int .i64 ((rd_T31 x8_3 x9_3).f3)) ∧ w'.cell? (ad156.add (((ji22)).toNat * 4)) = some (.int .i64 ((rd_T31 x8_3 (ji22)).f0)) ∧ w'.cell? ⟨(ad156.add (((ji22)).toNat * 4)).block, (ad156.add (((ji22)).toNat * 4)).off + 1, none⟩ = some (.int .i64 ((rd_T31 x8_3 (ji22)).f1)) ∧ w'.cell? ⟨(ad156.add (((ji22)).toNat * 4)).block, (ad156.add (((ji22)).toNat * 4)).off + 2, none⟩ = some (.int .i64 ((rd_T31 x8_3 (ji22)).f2)) ∧ w'.cell? ⟨(ad156.add (((ji22)).toNat * 4)).block, (ad156.add (((ji22)).toNat * 4)).off + 3, none⟩ = some (.int .i64 ((rd_T31 x8_3 (ji22)).f3))) ∧ (Kd.R k31 31 w' w.heap.size (fun k_ => k_ ≠ s_) (.slice (some ad156) x8_3.length co31) x8_3) ∧ (w'.heap[s_]? = some (.cells #[.int .i64 0, .int .i64 0, .int .i64 0, .int .i64 0] 31 (0, 0))) ∧ (w.heap.size ≤ s_) ∧ (w.heap.size ≤ s_) ∧ (Below w.heap.size w w')) ?_ ?_
                   rotate_left
                   ·intro hJ14
                    refine join_ (σ := Nat) 7 #[true, true, true, true, true, true, true, true, true, true, false, false, false, false, false, true, false, false] (fun s_ => [(11, .pointer (some ⟨s_, 0, none⟩))]) (fun s_ w' => (w'.cell? (ad156.add ((x9_3).toNat * 4)) = some (.int .i64 ((rd_T31 x8_3 x9_3).f0)) ∧ w'.cell? ⟨(ad156.add ((x9_3).toNat * 4)).block, (ad156.add ((x9_3).toNat * 4)).off + 1, none⟩ = some (.int .i64 ((rd_T31 x8_3 x9_3).f1)) ∧ w'.cell? ⟨(ad156.add ((x9_3).toNat * 4)).block, (ad156.add ((x9_3).toNat * 4)).off + 2, none⟩ = some (.int .i64 ((rd_T31 x8_3 x9_3).f2)) ∧ w'.cell? ⟨(ad156.add ((x9_3).toNat * 4)).block, (ad156.add ((x9_3).toNat * 4)).off + 3, none⟩ = some (.int .i64 ((rd_T31 x8_3 x9_3).f3)) ∧ w'.cell? (ad156.add (((ji22)).toNat * 4)) = some (.int .i64 ((rd_T31 x8_3 (ji22)).f0)) ∧ w'.cell? ⟨(ad156.add (((ji22)).toNat * 4)).block, (ad156.add (((ji22)).toNat * 4)).off + 1, none⟩ = some (.int .i64 ((rd_T31 x8_3 (ji22)).f1)) ∧ w'.cell? ⟨(ad156.add (((ji22)).toNat * 4)).block, (ad156.add (((ji22)).toNat * 4)).off + 2, none⟩ = some (.int .i64 ((rd_T31 x8_3 (ji22)).f2)) ∧ w'.cell? ⟨(ad156.add (((ji22)).toNat * 4)).block, (ad156.add (((ji22)).toNat * 4)).off + 3, none⟩ = some (.int .i64 ((rd_T31 x8_3 (ji22)).f3))) ∧ (Kd.R k31 31 w' w.heap.size (fun k_ => k_ ≠ s_) (.slice (some ad156) x8_3.length co31) x8_3) ∧ (w'.heap[s_]? = some (.cells #[.int .i64 0, .int .i64 0, .int .i64 0, .int .i64 0] 31 (0, 0))) ∧ (w.heap.size ≤ s_) ∧ (w.heap.size ≤ s_) ∧ (Below w.heap.size w w')) ?_ ?_
                    rotate_left
                    ·intro hJ15
                     refine three_ (i := 10) (j := 14) (k := 15) (Ni := some 50) (Nj := some 10) (Nk := some 11) #[true, true, true, true, true, true, true, true, true, true, true, false, false, false, false, false, false, false] #[true, true, true, true, true, true, true, true, true, true, false, false, false, false, true, false, false, false] #[true, true, true, true, true, true, true, true, true, true, false, false, false, false, false, true, false, false] rfl rfl rfl rfl rfl rfl (three_of HT_.out (by kernel_rfl)) (by decide) (by decide) (by decide) (fun K hK => ?_) (fun K hK => ?_) (fun K hK => ?_)
                     ·skip
                      refine goes_ Try.func74 (by kernel_rfl) rfl #[.agg #[.int .i64 ((rd_T31 x8_3 x9_3).f0), .int .i64 ((rd_T31 x8_3 x9_3).f1), .int .i64 ((rd_T31 x8_3 x9_3).f2), .int .i64 ((rd_T31 x8_3 x9_3).f3)], .agg #[.int .i64 ((rd_T31 x8_3 (ji22)).f0), .int .i64 ((rd_T31 x8_3 (ji22)).f1), .int .i64 ((rd_T31 x8_3 (ji22)).f2), .int .i64 ((rd_T31 x8_3 (ji22)).f3)], .int .i64 a1] (by rfl) rfl rfl (by (try simp only [List.map_toArray, List.map_cons, List.map_nil]); first | done | (simp only [hji22]; rfl) | rfl | (simp only [List.length_drop, List.length_take]; rfl)) ?_
                      with_reducible refine (spec_l10Pair.calls k3 ((rd_T31 x8_3 x9_3).f0) ((rd_T31 x8_3 x9_3).f1) ((rd_T31 x8_3 x9_3).f2) ((rd_T31 x8_3 x9_3).f3) ((rd_T31 x8_3 (ji22)).f0) ((rd_T31 x8_3 (ji22)).f1) ((rd_T31 x8_3 (ji22)).f2) ((rd_T31 x8_3 (ji22)).f3) a1 t158 t159 t160 t161 t162 t163 t164 t165 _ A24.out).mono ?_
                      rintro e w33 ⟨rfl, hb⟩
                      have HS0_ := (hb.cell (World.block_lt_of_cell? _ _ (hHeld.1))).trans (hHeld.1)
                      have HS1_ := (hb.cell (World.block_lt_of_cell? _ _ (hHeld.2.1))).trans (hHeld.2.1)
                      have HS2_ := (hb.cell (World.block_lt_of_cell? _ _ (hHeld.2.2.1))).trans (hHeld.2.2.1)
                      have HS3_ := (hb.cell (World.block_lt_of_cell? _ _ (hHeld.2.2.2.1))).trans (hHeld.2.2.2.1)
                      have HS4_ := (hb.cell (World.block_lt_of_cell? _ _ (hHeld.2.2.2.2.1))).trans (hHeld.2.2.2.2.1)
                      have HS5_ := (hb.cell (World.block_lt_of_cell? _ _ (hHeld.2.2.2.2.2.1))).trans (hHeld.2.2.2.2.2.1)
                      have HS6_ := (hb.cell (World.block_lt_of_cell? _ _ (hHeld.2.2.2.2.2.2.1))).trans (hHeld.2.2.2.2.2.2.1)
                      have HS7_ := (hb.cell (World.block_lt_of_cell? _ _ (hHeld.2.2.2.2.2.2.2))).trans (hHeld.2.2.2.2.2.2.2)
                      refine ⟨_, rfl, ?_⟩
                      have n0_ := Aside0.mk (Kd.R_below (by (with_reducible repeat (first | apply Kd.R_alloc | apply Kd.R_drewN | apply Kd.R_drew)); exact HO_8.out) hb)
                      have n1_ := z_bs HB hb
                      clear HO_8
                      clear HB
                      have HO_8 := n0_
                      have HB := n1_
                      clear n0_ n1_
                      (try clear hb); (try clear hk)
                      refine hK.out _ _ ⟨HS0_, HS1_, HS2_, HS3_, HS4_, HS5_, HS6_, HS7_⟩ (fun hHeld => ?_)
                      clear hK K
                      refine norm_ (a' := ?_) ?_ ?_
                      rotate_left
                      ·show Act.put _ (some 50) _ = _
                       simp only [Act.put, sp1, sp2, sp3, i64_w, i32_w]
                       rfl
                      refine pure_ (i := 11) (N := some 39) (v := ?_) (a' := ?_) #[true, true, true, true, true, true, true, true, true, true, true, true, false, false, false, false, false, false] rfl rfl (any_of HT_.out (by kernel_rfl)) (fun _ _ _ h => h) (Or.inl ⟨by rfl, ?_⟩) ?_ ?_
                      rotate_left; (· (intro w'; go_simp; with_reducible rfl)); rotate_left; (· (simp only [Act.put, sp1, sp2, sp3, i64_w, i32_w]; rfl))
                      refine pure_ (i := 12) (N := some 51) (v := ?_) (a' := ?_) #[true, true, true, true, true, true, true, true, true, true, true, true, true, false, false, false, false, false] rfl rfl (any_of HT_.out (by kernel_rfl)) (fun _ _ _ h => h) (Or.inl ⟨by rfl, ?_⟩) ?_ ?_
                      rotate_left; (· (intro w'; go_simp; with_reducible rfl)); rotate_left; (· (simp only [Act.put, sp1, sp2, sp3, i64_w, i32_w]; rfl))
                      refine pure_ (i := 13) (N := some 52) (v := ?_) (a' := ?_) #[true, true, true, true, true, true, true, true, true, true, true, true, true, true, false, false, false, false] rfl rfl (any_of HT_.out (by kernel_rfl)) (fun _ _ _ h => h) (Or.inl ⟨by rfl, ?_⟩) ?_ ?_
                      rotate_left; (· (intro w'; go_simp; with_reducible rfl)); rotate_left; (· (simp only [Act.put, sp1, sp2, sp3, i64_w, i32_w]; rfl))
                      exact z_n (hJ10 () _ ⟨hHeld, (by (with_reducible repeat (first | apply Kd.R_alloc | apply Kd.R_drewN | apply Kd.R_drew)); exact HO_8.out), blw⟩)
                     ·skip
                      refine box_step ?hg (N := 10) ?hd (cs := #[.int .i64 0, .int .i64 0, .int .i64 0, .int .i64 0]) (t := 31) ?hr ?_; (case hd => rfl); (case hg => rfl); (case hr => first | (go_simp; done) | (go_simp; rfl))
                      intro gb166 hg w33 hbox hb
                      have HS0_ := (hb.cell (World.block_lt_of_cell? _ _ (hHeld.1))).trans (hHeld.1)
                      have HS1_ := (hb.cell (World.block_lt_of_cell? _ _ (hHeld.2.1))).trans (hHeld.2.1)
                      have HS2_ := (hb.cell (World.block_lt_of_cell? _ _ (hHeld.2.2.1))).trans (hHeld.2.2.1)
                      have HS3_ := (hb.cell (World.block_lt_of_cell? _ _ (hHeld.2.2.2.1))).trans (hHeld.2.2.2.1)
                      have HS4_ := (hb.cell (World.block_lt_of_cell? _ _ (hHeld.2.2.2.2.1))).trans (hHeld.2.2.2.2.1)
                      have HS5_ := (hb.cell (World.block_lt_of_cell? _ _ (hHeld.2.2.2.2.2.1))).trans (hHeld.2.2.2.2.2.1)
                      have HS6_ := (hb.cell (World.block_lt_of_cell? _ _ (hHeld.2.2.2.2.2.2.1))).trans (hHeld.2.2.2.2.2.2.1)
                      have HS7_ := (hb.cell (World.block_lt_of_cell? _ _ (hHeld.2.2.2.2.2.2.2))).trans (hHeld.2.2.2.2.2.2.2)
                      have n0_ := Aside0.mk (Kd.R_below (Kd.R_elderB (by (with_reducible repeat (first | apply Kd.R_alloc | apply Kd.R_drewN | apply Kd.R_drew)); exact HO_8.out) gb166 (Nat.le_of_eq hg.symm)) hb)
                      have n1_ := z_bs HB hb
                      have n2_ := Aside0.mk (hbox)
                      have n3_ := z_gw HB hg
                      have n4_ := z_gw HB hg
                      clear HO_8
                      clear HB
                      have HO_8 := n0_
                      have HB := n1_
                      have BK166 := n2_
                      have GW166 := n3_
                      have GE166 := n4_
                      clear n0_ n1_ n2_ n3_ n4_
                      clear hb hbox hg
                      refine hK.out _ _ ⟨HS0_, HS1_, HS2_, HS3_, HS4_, HS5_, HS6_, HS7_⟩ (fun hHeld => ?_)
                      clear hK K
                      refine norm_ (a' := ?_) ?_ ?_
                      rotate_left
                      ·show Act.put _ (some 10) _ = _
                       simp only [Act.put, sp1, sp2, sp3, i64_w, i32_w]
                       rfl
                      exact z_n (hJ14 (gb166) _ ⟨hHeld, (by (with_reducible repeat (first | apply Kd.R_alloc | apply Kd.R_drewN | apply Kd.R_drew)); exact Kd.R_mono HO_8.out (fun _ hk => hk.2)), bkw, GW166.out, GE166.out, blw⟩)
                     ·skip
                      refine box_step ?hg (N := 11) ?hd (cs := #[.int .i64 0, .int .i64 0, .int .i64 0, .int .i64 0]) (t := 31) ?hr ?_; (case hd => rfl); (case hg => rfl); (case hr => first | (go_simp; done) | (go_simp; rfl))
                      intro gb167 hg w33 hbox hb
                      have HS0_ := (hb.cell (World.block_lt_of_cell? _ _ (hHeld.1))).trans (hHeld.1)
                      have HS1_ := (hb.cell (World.block_lt_of_cell? _ _ (hHeld.2.1))).trans (hHeld.2.1)
                      have HS2_ := (hb.cell (World.block_lt_of_cell? _ _ (hHeld.2.2.1))).trans (hHeld.2.2.1)
                      have HS3_ := (hb.cell (World.block_lt_of_cell? _ _ (hHeld.2.2.2.1))).trans (hHeld.2.2.2.1)
                      have HS4_ := (hb.cell (World.block_lt_of_cell? _ _ (hHeld.2.2.2.2.1))).trans (hHeld.2.2.2.2.1)
                      have HS5_ := (hb.cell (World.block_lt_of_cell? _ _ (hHeld.2.2.2.2.2.1))).trans (hHeld.2.2.2.2.2.1)
                      have HS6_ := (hb.cell (World.block_lt_of_cell? _ _ (hHeld.2.2.2.2.2.2.1))).trans (hHeld.2.2.2.2.2.2.1)
                      have HS7_ := (hb.cell (World.block_lt_of_cell? _ _ (hHeld.2.2.2.2.2.2.2))).trans (hHeld.2.2.2.2.2.2.2)
                      have n0_ := Aside0.mk (Kd.R_below (Kd.R_elderB (by (with_reducible repeat (first | apply Kd.R_alloc | apply Kd.R_drewN | apply Kd.R_drew)); exact HO_8.out) gb167 (Nat.le_of_eq hg.symm)) hb)
                      have n1_ := z_bs HB hb
                      have n2_ := Aside0.mk (hbox)
                      have n3_ := z_gw HB hg
                      have n4_ := z_gw HB hg
                      clear HO_8
                      clear HB
                      have HO_8 := n0_
                      have HB := n1_
                      have BK167 := n2_
                      have GW167 := n3_
                      have GE167 := n4_
                      clear n0_ n1_ n2_ n3_ n4_
                      clear hb hbox hg
                      refine hK.out _ _ ⟨HS0_, HS1_, HS2_, HS3_, HS4_, HS5_, HS6_, HS7_⟩ (fun hHeld => ?_)
                      clear hK K
                      refine norm_ (a' := ?_) ?_ ?_
                      rotate_left
                      ·show Act.put _ (some 11) _ = _
                       simp only [Act.put, sp1, sp2, sp3, i64_w, i32_w]
                       rfl
                      exact z_n (hJ15 (gb167) _ ⟨hHeld, (by (with_reducible repeat (first | apply Kd.R_alloc | apply Kd.R_drewN | apply Kd.R_drew)); exact Kd.R_mono HO_8.out (fun _ hk => hk.2)), bkw, GW167.out, GE167.out, blw⟩)
                    ·skip
                     rintro gb167 w34 ⟨hS_, h0_, h1_, h2_, h3_, h4_⟩
                     have n0_ : Aside0 (Kd.R k31 31 w34 w.heap.size (fun k_ => k_ ≠ gb167) (.slice (some ad156) x8_3.length co31) x8_3) := ⟨h0_⟩
                     have n1_ : Aside0 (w34.heap[gb167]? = some (.cells #[.int .i64 0, .int .i64 0, .int .i64 0, .int .i64 0] 31 (0, 0))) := ⟨h1_⟩
                     have n2_ : Aside0 (w.heap.size ≤ gb167) := ⟨h2_⟩
                     have n3_ : Aside0 (w.heap.size ≤ gb167) := ⟨h3_⟩
                     have n4_ : Aside0 (Below w.heap.size w w34) := ⟨h4_⟩
                     clear HO_8
                     clear HB
                     clear h0_ h1_ h2_ h3_ h4_
                     have HO_8 := n0_
                     have BK167 := n1_
                     have GW167 := n2_
                     have GE167 := n3_
                     have HB := n4_
                     clear n0_ n1_ n2_ n3_ n4_
                     have hHeld : w34.cell? (ad156.add ((x9_3).toNat * 4)) = some (.int .i64 ((rd_T31 x8_3 x9_3).f0)) ∧ w34.cell? ⟨(ad156.add ((x9_3).toNat * 4)).block, (ad156.add ((x9_3).toNat * 4)).off + 1, none⟩ = some (.int .i64 ((rd_T31 x8_3 x9_3).f1)) ∧ w34.cell? ⟨(ad156.add ((x9_3).toNat * 4)).block, (ad156.add ((x9_3).toNat * 4)).off + 2, none⟩ = some (.int .i64 ((rd_T31 x8_3 x9_3).f2)) ∧ w34.cell? ⟨(ad156.add ((x9_3).toNat * 4)).block, (ad156.add ((x9_3).toNat * 4)).off + 3, none⟩ = some (.int .i64 ((rd_T31 x8_3 x9_3).f3)) ∧ w34.cell? (ad156.add (((ji22)).toNat * 4)) = some (.int .i64 ((rd_T31 x8_3 (ji22)).f0)) ∧ w34.cell? ⟨(ad156.add (((ji22)).toNat * 4)).block, (ad156.add (((ji22)).toNat * 4)).off + 1, none⟩ = some (.int .i64 ((rd_T31 x8_3 (ji22)).f1)) ∧ w34.cell? ⟨(ad156.add (((ji22)).toNat * 4)).block, (ad156.add (((ji22)).toNat * 4)).off + 2, none⟩ = some (.int .i64 ((rd_T31 x8_3 (ji22)).f2)) ∧ w34.cell? ⟨(ad156.add (((ji22)).toNat * 4)).block, (ad156.add (((ji22)).toNat * 4)).off + 3, none⟩ = some (.int .i64 ((rd_T31 x8_3 (ji22)).f3)) := hS_
                     refine norm_ (a' := ?_) ?_ ?_
                     rotate_left
                     ·simp only [putAll, Act.put, List.setIfInBounds_toArray, List.set_cons_zero, List.set_cons_succ]
                      rfl
                     refine two_ (i := 10) (j := 14) (Ni := some 50) (Nj := some 10) #[true, true, true, true, true, true, true, true, true, true, true, false, false, false, false, true, false, false] #[true, true, true, true, true, true, true, true, true, true, false, false, false, false, true, true, false, false] rfl rfl rfl rfl (two_of HT_.out (by kernel_rfl)) (by decide) (by decide) (fun K hK => ?_) (fun K hK => ?_)
                     ·skip
                      refine goes_ Try.func74 (by kernel_rfl) rfl #[.agg #[.int .i64 ((rd_T31 x8_3 x9_3).f0), .int .i64 ((rd_T31 x8_3 x9_3).f1), .int .i64 ((rd_T31 x8_3 x9_3).f2), .int .i64 ((rd_T31 x8_3 x9_3).f3)], .agg #[.int .i64 ((rd_T31 x8_3 (ji22)).f0), .int .i64 ((rd_T31 x8_3 (ji22)).f1), .int .i64 ((rd_T31 x8_3 (ji22)).f2), .int .i64 ((rd_T31 x8_3 (ji22)).f3)], .int .i64 a1] (by rfl) rfl rfl (by (try simp only [List.map_toArray, List.map_cons, List.map_nil]); first | done | (simp only [hji22]; rfl) | rfl | (simp only [List.length_drop, List.length_take]; rfl)) ?_
                      with_reducible refine (spec_l10Pair.calls k3 ((rd_T31 x8_3 x9_3).f0) ((rd_T31 x8_3 x9_3).f1) ((rd_T31 x8_3 x9_3).f2) ((rd_T31 x8_3 x9_3).f3) ((rd_T31 x8_3 (ji22)).f0) ((rd_T31 x8_3 (ji22)).f1) ((rd_T31 x8_3 (ji22)).f2) ((rd_T31 x8_3 (ji22)).f3) a1 t158 t159 t160 t161 t162 t163 t164 t165 _ A24.out).mono ?_
                      rintro e w35 ⟨rfl, hb⟩
                      have HS0_ := (hb.cell (World.block_lt_of_cell? _ _ (hHeld.1))).trans (hHeld.1)
                      have HS1_ := (hb.cell (World.block_lt_of_cell? _ _ (hHeld.2.1))).trans (hHeld.2.1)
                      have HS2_ := (hb.cell (World.block_lt_of_cell? _ _ (hHeld.2.2.1))).trans (hHeld.2.2.1)
                      have HS3_ := (hb.cell (World.block_lt_of_cell? _ _ (hHeld.2.2.2.1))).trans (hHeld.2.2.2.1)
                      have HS4_ := (hb.cell (World.block_lt_of_cell? _ _ (hHeld.2.2.2.2.1))).trans (hHeld.2.2.2.2.1)
                      have HS5_ := (hb.cell (World.block_lt_of_cell? _ _ (hHeld.2.2.2.2.2.1))).trans (hHeld.2.2.2.2.2.1)
                      have HS6_ := (hb.cell (World.block_lt_of_cell? _ _ (hHeld.2.2.2.2.2.2.1))).trans (hHeld.2.2.2.2.2.2.1)
                      have HS7_ := (hb.cell (World.block_lt_of_cell? _ _ (hHeld.2.2.2.2.2.2.2))).trans (hHeld.2.2.2.2.2.2.2)
                      refine ⟨_, rfl, ?_⟩
                      have n0_ := Aside0.mk (Kd.R_below (by (with_reducible repeat (first | apply Kd.R_alloc | apply Kd.R_drewN | apply Kd.R_drew)); exact HO_8.out) hb)
                      have n1_ := z_bk BK167 hb
                      have n2_ := z_bs HB hb
                      clear HO_8
                      clear BK167
                      clear HB
                      have HO_8 := n0_
                      have BK167 := n1_
                      have HB := n2_
                      clear n0_ n1_ n2_
                      (try clear hb); (try clear hk)
                      refine hK.out _ _ ⟨HS0_, HS1_, HS2_, HS3_, HS4_, HS5_, HS6_, HS7_⟩ (fun hHeld => ?_)
                      clear hK K
                      refine norm_ (a' := ?_) ?_ ?_
                      rotate_left
                      ·show Act.put _ (some 50) _ = _
                       simp only [Act.put, sp1, sp2, sp3, i64_w, i32_w]
                       rfl
                      refine pure_ (i := 11) (N := some 39) (v := ?_) (a' := ?_) #[true, true, true, true, true, true, true, true, true, true, true, true, false, false, false, true, false, false] rfl rfl (any_of HT_.out (by kernel_rfl)) (fun _ _ _ h => h) (Or.inl ⟨by rfl, ?_⟩) ?_ ?_
                      rotate_left; (· (intro w'; go_simp; with_reducible rfl)); rotate_left; (· (simp only [Act.put, sp1, sp2, sp3, i64_w, i32_w]; rfl))
                      refine pure_ (i := 12) (N := some 51) (v := ?_) (a' := ?_) #[true, true, true, true, true, true, true, true, true, true, true, true, true, false, false, true, false, false] rfl rfl (any_of HT_.out (by kernel_rfl)) (fun _ _ _ h => h) (Or.inl ⟨by rfl, ?_⟩) ?_ ?_
                      rotate_left; (· (intro w'; go_simp; with_reducible rfl)); rotate_left; (· (simp only [Act.put, sp1, sp2, sp3, i64_w, i32_w]; rfl))
                      refine pure_ (i := 13) (N := some 52) (v := ?_) (a' := ?_) #[true, true, true, true, true, true, true, true, true, true, true, true, true, true, false, true, false, false] rfl rfl (any_of HT_.out (by kernel_rfl)) (fun _ _ _ h => h) (Or.inl ⟨by rfl, ?_⟩) ?_ ?_
                      rotate_left; (· (intro w'; go_simp; with_reducible rfl)); rotate_left; (· (simp only [Act.put, sp1, sp2, sp3, i64_w, i32_w]; rfl))
                      exact z_n (hJ10_15 (gb167) _ ⟨hHeld, (by (with_reducible repeat (first | apply Kd.R_alloc | apply Kd.R_drewN | apply Kd.R_drew)); exact HO_8.out), bkw, GW167.out, GE167.out, blw⟩)
                     ·skip
                      refine box_step ?hg (N := 10) ?hd (cs := #[.int .i64 0, .int .i64 0, .int .i64 0, .int .i64 0]) (t := 31) ?hr ?_; (case hd => rfl); (case hg => rfl); (case hr => first | (go_simp; done) | (go_simp; rfl))
                      intro gb166 hg w35 hbox hb
                      have HS0_ := (hb.cell (World.block_lt_of_cell? _ _ (hHeld.1))).trans (hHeld.1)
                      have HS1_ := (hb.cell (World.block_lt_of_cell? _ _ (hHeld.2.1))).trans (hHeld.2.1)
                      have HS2_ := (hb.cell (World.block_lt_of_cell? _ _ (hHeld.2.2.1))).trans (hHeld.2.2.1)
                      have HS3_ := (hb.cell (World.block_lt_of_cell? _ _ (hHeld.2.2.2.1))).trans (hHeld.2.2.2.1)
                      have HS4_ := (hb.cell (World.block_lt_of_cell? _ _ (hHeld.2.2.2.2.1))).trans (hHeld.2.2.2.2.1)
                      have HS5_ := (hb.cell (World.block_lt_of_cell? _ _ (hHeld.2.2.2.2.2.1))).trans (hHeld.2.2.2.2.2.1)
                      have HS6_ := (hb.cell (World.block_lt_of_cell? _ _ (hHeld.2.2.2.2.2.2.1))).trans (hHeld.2.2.2.2.2.2.1)
                      have HS7_ := (hb.cell (World.block_lt_of_cell? _ _ (hHeld.2.2.2.2.2.2.2))).trans (hHeld.2.2.2.2.2.2.2)
                      have n0_ := Aside0.mk (Kd.R_below (Kd.R_elderB (by (with_reducible repeat (first | apply Kd.R_alloc | apply Kd.R_drewN | apply Kd.R_drew)); exact HO_8.out) gb166 (Nat.le_of_eq hg.symm)) hb)
                      have n1_ := z_bk BK167 hb
                      have n2_ := z_bs HB hb
                      have n3_ := Aside0.mk (hbox)
                      have n4_ := z_gw HB hg
                      have n5_ := z_gw HB hg
                      have n6_ := z_nl BK167 hg
                      have n7_ := z_ng BK167 hg
                      clear HO_8
                      clear BK167
                      clear HB
                      have HO_8 := n0_
                      have BK167 := n1_
                      have HB := n2_
                      have BK166 := n3_
                      have GW166 := n4_
                      have GE166 := n5_
                      have NB167_166 := n6_
                      have NB166_167 := n7_
                      clear n0_ n1_ n2_ n3_ n4_ n5_ n6_ n7_
                      clear hb hbox hg
                      refine hK.out _ _ ⟨HS0_, HS1_, HS2_, HS3_, HS4_, HS5_, HS6_, HS7_⟩ (fun hHeld => ?_)
                      clear hK K
                      refine norm_ (a' := ?_) ?_ ?_
                      rotate_left
                      ·show Act.put _ (some 10) _ = _
                       simp only [Act.put, sp1, sp2, sp3, i64_w, i32_w]
                       rfl
                      exact z_n (hJ14_15 (gb166, gb167) _ ⟨hHeld, (by (with_reducible repeat (first | apply Kd.R_alloc | apply Kd.R_drewN | apply Kd.R_drew)); exact Kd.R_mono HO_8.out (fun _ hk => ⟨hk.2, hk.1⟩)), bkw, bkw, GW166.out, GE166.out, NB167_166.out, NB166_167.out, GW167.out, GE167.out, blw⟩)
                   ·skip
                    rintro gb166 w34 ⟨hS_, h0_, h1_, h2_, h3_, h4_⟩
                    have n0_ : Aside0 (Kd.R k31 31 w34 w.heap.size (fun k_ => k_ ≠ gb166) (.slice (some ad156) x8_3.length co31) x8_3) := ⟨h0_⟩
                    have n1_ : Aside0 (w34.heap[gb166]? = some (.cells #[.int .i64 0, .int .i64 0, .int .i64 0, .int .i64 0] 31 (0, 0))) := ⟨h1_⟩
                    have n2_ : Aside0 (w.heap.size ≤ gb166) := ⟨h2_⟩
                    have n3_ : Aside0 (w.heap.size ≤ gb166) := ⟨h3_⟩
                    have n4_ : Aside0 (Below w.heap.size w w34) := ⟨h4_⟩
                    clear HO_8
                    clear HB
                    clear h0_ h1_ h2_ h3_ h4_
                    have HO_8 := n0_
                    have BK166 := n1_
                    have GW166 := n2_
                    have GE166 := n3_
                    have HB := n4_
                    clear n0_ n1_ n2_ n3_ n4_
                    have hHeld : w34.cell? (ad156.add ((x9_3).toNat * 4)) = some (.int .i64 ((rd_T31 x8_3 x9_3).f0)) ∧ w34.cell? ⟨(ad156.add ((x9_3).toNat * 4)).block, (ad156.add ((x9_3).toNat * 4)).off + 1, none⟩ = some (.int .i64 ((rd_T31 x8_3 x9_3).f1)) ∧ w34.cell? ⟨(ad156.add ((x9_3).toNat * 4)).block, (ad156.add ((x9_3).toNat * 4)).off + 2, none⟩ = some (.int .i64 ((rd_T31 x8_3 x9_3).f2)) ∧ w34.cell? ⟨(ad156.add ((x9_3).toNat * 4)).block, (ad156.add ((x9_3).toNat * 4)).off + 3, none⟩ = some (.int .i64 ((rd_T31 x8_3 x9_3).f3)) ∧ w34.cell? (ad156.add (((ji22)).toNat * 4)) = some (.int .i64 ((rd_T31 x8_3 (ji22)).f0)) ∧ w34.cell? ⟨(ad156.add (((ji22)).toNat * 4)).block, (ad156.add (((ji22)).toNat * 4)).off + 1, none⟩ = some (.int .i64 ((rd_T31 x8_3 (ji22)).f1)) ∧ w34.cell? ⟨(ad156.add (((ji22)).toNat * 4)).block, (ad156.add (((ji22)).toNat * 4)).off + 2, none⟩ = some (.int .i64 ((rd_T31 x8_3 (ji22)).f2)) ∧ w34.cell? ⟨(ad156.add (((ji22)).toNat * 4)).block, (ad156.add (((ji22)).toNat * 4)).off + 3, none⟩ = some (.int .i64 ((rd_T31 x8_3 (ji22)).f3)) := hS_
                    refine norm_ (a' := ?_) ?_ ?_
                    rotate_left
                    ·simp only [putAll, Act.put, List.setIfInBounds_toArray, List.set_cons_zero, List.set_cons_succ]
                     rfl
                    refine two_ (i := 10) (j := 15) (Ni := some 50) (Nj := some 11) #[true, true, true, true, true, true, true, true, true, true, true, false, false, false, true, false, false, false] #[true, true, true, true, true, true, true, true, true, true, false, false, false, false, true, true, false, false] rfl rfl rfl rfl (two_of HT_.out (by kernel_rfl)) (by decide) (by decide) (fun K hK => ?_) (fun K hK => ?_)
                    ·skip
                     refine goes_ Try.func74 (by kernel_rfl) rfl #[.agg #[.int .i64 ((rd_T31 x8_3 x9_3).f0), .int .i64 ((rd_T31 x8_3 x9_3).f1), .int .i64 ((rd_T31 x8_3 x9_3).f2), .int .i64 ((rd_T31 x8_3 x9_3).f3)], .agg #[.int .i64 ((rd_T31 x8_3 (ji22)).f0), .int .i64 ((rd_T31 x8_3 (ji22)).f1), .int .i64 ((rd_T31 x8_3 (ji22)).f2), .int .i64 ((rd_T31 x8_3 (ji22)).f3)], .int .i64 a1] (by rfl) rfl rfl (by (try simp only [List.map_toArray, List.map_cons, List.map_nil]); first | done | (simp only [hji22]; rfl) | rfl | (simp only [List.length_drop, List.length_take]; rfl)) ?_
                     with_reducible refine (spec_l10Pair.calls k3 ((rd_T31 x8_3 x9_3).f0) ((rd_T31 x8_3 x9_3).f1) ((rd_T31 x8_3 x9_3).f2) ((rd_T31 x8_3 x9_3).f3) ((rd_T31 x8_3 (ji22)).f0) ((rd_T31 x8_3 (ji22)).f1) ((rd_T31 x8_3 (ji22)).f2) ((rd_T31 x8_3 (ji22)).f3) a1 t158 t159 t160 t161 t162 t163 t164 t165 _ A24.out).mono ?_
                     rintro e w35 ⟨rfl, hb⟩
                     have HS0_ := (hb.cell (World.block_lt_of_cell? _ _ (hHeld.1))).trans (hHeld.1)
                     have HS1_ := (hb.cell (World.block_lt_of_cell? _ _ (hHeld.2.1))).trans (hHeld.2.1)
                     have HS2_ := (hb.cell (World.block_lt_of_cell? _ _ (hHeld.2.2.1))).trans (hHeld.2.2.1)
                     have HS3_ := (hb.cell (World.block_lt_of_cell? _ _ (hHeld.2.2.2.1))).trans (hHeld.2.2.2.1)
                     have HS4_ := (hb.cell (World.block_lt_of_cell? _ _ (hHeld.2.2.2.2.1))).trans (hHeld.2.2.2.2.1)
                     have HS5_ := (hb.cell (World.block_lt_of_cell? _ _ (hHeld.2.2.2.2.2.1))).trans (hHeld.2.2.2.2.2.1)
                     have HS6_ := (hb.cell (World.block_lt_of_cell? _ _ (hHeld.2.2.2.2.2.2.1))).trans (hHeld.2.2.2.2.2.2.1)
                     have HS7_ := (hb.cell (World.block_lt_of_cell? _ _ (hHeld.2.2.2.2.2.2.2))).trans (hHeld.2.2.2.2.2.2.2)
                     refine ⟨_, rfl, ?_⟩
                     have n0_ := Aside0.mk (Kd.R_below (by (with_reducible repeat (first | apply Kd.R_alloc | apply Kd.R_drewN | apply Kd.R_drew)); exact HO_8.out) hb)
                     have n1_ := z_bk BK166 hb
                     have n2_ := z_bs HB hb
                     clear HO_8
                     clear BK166
                     clear HB
                     have HO_8 := n0_
                     have BK166 := n1_
                     have HB := n2_
                     clear n0_ n1_ n2_
                     (try clear hb); (try clear hk)
                     refine hK.out _ _ ⟨HS0_, HS1_, HS2_, HS3_, HS4_, HS5_, HS6_, HS7_⟩ (fun hHeld => ?_)
                     clear hK K
                     refine norm_ (a' := ?_) ?_ ?_
                     rotate_left
                     ·show Act.put _ (some 50) _ = _
                      simp only [Act.put, sp1, sp2, sp3, i64_w, i32_w]
                      rfl
                     refine pure_ (i := 11) (N := some 39) (v := ?_) (a' := ?_) #[true, true, true, true, true, true, true, true, true, true, true, true, false, false, true, false, false, false] rfl rfl (any_of HT_.out (by kernel_rfl)) (fun _ _ _ h => h) (Or.inl ⟨by rfl, ?_⟩) ?_ ?_
                     rotate_left; (· (intro w'; go_simp; with_reducible rfl)); rotate_left; (· (simp only [Act.put, sp1, sp2, sp3, i64_w, i32_w]; rfl))
                     refine pure_ (i := 12) (N := some 51) (v := ?_) (a' := ?_) #[true, true, true, true, true, true, true, true, true, true, true, true, true, false, true, false, false, false] rfl rfl (any_of HT_.out (by kernel_rfl)) (fun _ _ _ h => h) (Or.inl ⟨by rfl, ?_⟩) ?_ ?_
                     rotate_left; (· (intro w'; go_simp; with_reducible rfl)); rotate_left; (· (simp only [Act.put, sp1, sp2, sp3, i64_w, i32_w]; rfl))
                     refine pure_ (i := 13) (N := some 52) (v := ?_) (a' := ?_) #[true, true, true, true, true, true, true, true, true, true, true, true, true, true, true, false, false, false] rfl rfl (any_of HT_.out (by kernel_rfl)) (fun _ _ _ h => h) (Or.inl ⟨by rfl, ?_⟩) ?_ ?_
                     rotate_left; (· (intro w'; go_simp; with_reducible rfl)); rotate_left; (· (simp only [Act.put, sp1, sp2, sp3, i64_w, i32_w]; rfl))
                     exact z_n (hJ10_14 (gb166) _ ⟨hHeld, (by (with_reducible repeat (first | apply Kd.R_alloc | apply Kd.R_drewN | apply Kd.R_drew)); exact HO_8.out), bkw, GW166.out, GE166.out, blw⟩)
                    ·skip
                     refine box_step ?hg (N := 11) ?hd (cs := #[.int .i64 0, .int .i64 0, .int .i64 0, .int .i64 0]) (t := 31) ?hr ?_; (case hd => rfl); (case hg => rfl); (case hr => first | (go_simp; done) | (go_simp; rfl))
                     intro gb167 hg w35 hbox hb
                     have HS0_ := (hb.cell (World.block_lt_of_cell? _ _ (hHeld.1))).trans (hHeld.1)
                     have HS1_ := (hb.cell (World.block_lt_of_cell? _ _ (hHeld.2.1))).trans (hHeld.2.1)
                     have HS2_ := (hb.cell (World.block_lt_of_cell? _ _ (hHeld.2.2.1))).trans (hHeld.2.2.1)
                     have HS3_ := (hb.cell (World.block_lt_of_cell? _ _ (hHeld.2.2.2.1))).trans (hHeld.2.2.2.1)
                     have HS4_ := (hb.cell (World.block_lt_of_cell? _ _ (hHeld.2.2.2.2.1))).trans (hHeld.2.2.2.2.1)
                     have HS5_ := (hb.cell (World.block_lt_of_cell? _ _ (hHeld.2.2.2.2.2.1))).trans (hHeld.2.2.2.2.2.1)
                     have HS6_ := (hb.cell (World.block_lt_of_cell? _ _ (hHeld.2.2.2.2.2.2.1))).trans (hHeld.2.2.2.2.2.2.1)
                     have HS7_ := (hb.cell (World.block_lt_of_cell? _ _ (hHeld.2.2.2.2.2.2.2))).trans (hHeld.2.2.2.2.2.2.2)
                     have n0_ := Aside0.mk (Kd.R_below (Kd.R_elderB (by (with_reducible repeat (first | apply Kd.R_alloc | apply Kd.R_drewN | apply Kd.R_drew)); exact HO_8.out) gb167 (Nat.le_of_eq hg.symm)) hb)
                     have n1_ := z_bk BK166 hb
                     have n2_ := z_bs HB hb
                     have n3_ := Aside0.mk (hbox)
                     have n4_ := z_gw HB hg
                     have n5_ := z_gw HB hg
                     have n6_ := z_nl BK166 hg
                     have n7_ := z_ng BK166 hg
                     clear HO_8
                     clear BK166
                     clear HB
                     have HO_8 := n0_
                     have BK166 := n1_
                     have HB := n2_
                     have BK167 := n3_
                     have GW167 := n4_
                     have GE167 := n5_
                     have NB166_167 := n6_
                     have NB167_166 := n7_
                     clear n0_ n1_ n2_ n3_ n4_ n5_ n6_ n7_
                     clear hb hbox hg
                     refine hK.out _ _ ⟨HS0_, HS1_, HS2_, HS3_, HS4_, HS5_, HS6_, HS7_⟩ (fun hHeld => ?_)
                     clear hK K
                     refine norm_ (a' := ?_) ?_ ?_
                     rotate_left
                     ·show Act.put _ (some 11) _ = _
                      simp only [Act.put, sp1, sp2, sp3, i64_w, i32_w]
                      rfl
                     exact z_n (hJ14_15 (gb166, gb167) _ ⟨hHeld, (by (with_reducible repeat (first | apply Kd.R_alloc | apply Kd.R_drewN | apply Kd.R_drew)); exact HO_8.out), bkw, bkw, GW166.out, GE166.out, NB167_166.out, NB166_167.out, GW167.out, GE167.out, blw⟩)
                  ·skip
                   rintro _ w34 ⟨hS_, h0_, h1_⟩
                   have n0_ : Aside0 (Kd.R k31 31 w34 w.heap.size (fun _ => True) (.slice (some ad156) x8_3.length co31) x8_3) := ⟨h0_⟩
                   have n1_ : Aside0 (Below w.heap.size w w34) := ⟨h1_⟩
                   clear HO_8
                   clear HB
                   clear h0_ h1_
                   have HO_8 := n0_
                   have HB := n1_
                   clear n0_ n1_
                   have hHeld : w34.cell? (ad156.add ((x9_3).toNat * 4)) = some (.int .i64 ((rd_T31 x8_3 x9_3).f0)) ∧ w34.cell? ⟨(ad156.add ((x9_3).toNat * 4)).block, (ad156.add ((x9_3).toNat * 4)).off + 1, none⟩ = some (.int .i64 ((rd_T31 x8_3 x9_3).f1)) ∧ w34.cell? ⟨(ad156.add ((x9_3).toNat * 4)).block, (ad156.add ((x9_3).toNat * 4)).off + 2, none⟩ = some (.int .i64 ((rd_T31 x8_3 x9_3).f2)) ∧ w34.cell? ⟨(ad156.add ((x9_3).toNat * 4)).block, (ad156.add ((x9_3).toNat * 4)).off + 3, none⟩ = some (.int .i64 ((rd_T31 x8_3 x9_3).f3)) ∧ w34.cell? (ad156.add (((ji22)).toNat * 4)) = some (.int .i64 ((rd_T31 x8_3 (ji22)).f0)) ∧ w34.cell? ⟨(ad156.add (((ji22)).toNat * 4)).block, (ad156.add (((ji22)).toNat * 4)).off + 1, none⟩ = some (.int .i64 ((rd_T31 x8_3 (ji22)).f1)) ∧ w34.cell? ⟨(ad156.add (((ji22)).toNat * 4)).block, (ad156.add (((ji22)).toNat * 4)).off + 2, none⟩ = some (.int .i64 ((rd_T31 x8_3 (ji22)).f2)) ∧ w34.cell? ⟨(ad156.add (((ji22)).toNat * 4)).block, (ad156.add (((ji22)).toNat * 4)).off + 3, none⟩ = some (.int .i64 ((rd_T31 x8_3 (ji22)).f3)) := hS_
                   refine norm_ (a' := ?_) ?_ ?_
                   rotate_left
                   ·simp only [putAll, Act.put, List.setIfInBounds_toArray, List.set_cons_zero, List.set_cons_succ]
                    rfl
                   refine two_ (i := 14) (j := 15) (Ni := some 10) (Nj := some 11) #[true, true, true, true, true, true, true, true, true, true, true, true, true, true, true, false, false, false] #[true, true, true, true, true, true, true, true, true, true, true, true, true, true, false, true, false, false] rfl rfl rfl rfl (two_of HT_.out (by kernel_rfl)) (by decide) (by decide) (fun K hK => ?_) (fun K hK => ?_)
                   ·skip
                    refine box_step ?hg (N := 10) ?hd (cs := #[.int .i64 0, .int .i64 0, .int .i64 0, .int .i64 0]) (t := 31) ?hr ?_; (case hd => rfl); (case hg => rfl); (case hr => first | (go_simp; done) | (go_simp; rfl))
                    intro gb166 hg w35 hbox hb
                    have HS0_ := (hb.cell (World.block_lt_of_cell? _ _ (hHeld.1))).trans (hHeld.1)
                    have HS1_ := (hb.cell (World.block_lt_of_cell? _ _ (hHeld.2.1))).trans (hHeld.2.1)
                    have HS2_ := (hb.cell (World.block_lt_of_cell? _ _ (hHeld.2.2.1))).trans (hHeld.2.2.1)
                    have HS3_ := (hb.cell (World.block_lt_of_cell? _ _ (hHeld.2.2.2.1))).trans (hHeld.2.2.2.1)
                    have HS4_ := (hb.cell (World.block_lt_of_cell? _ _ (hHeld.2.2.2.2.1))).trans (hHeld.2.2.2.2.1)
                    have HS5_ := (hb.cell (World.block_lt_of_cell? _ _ (hHeld.2.2.2.2.2.1))).trans (hHeld.2.2.2.2.2.1)
                    have HS6_ := (hb.cell (World.block_lt_of_cell? _ _ (hHeld.2.2.2.2.2.2.1))).trans (hHeld.2.2.2.2.2.2.1)
                    have HS7_ := (hb.cell (World.block_lt_of_cell? _ _ (hHeld.2.2.2.2.2.2.2))).trans (hHeld.2.2.2.2.2.2.2)
                    have n0_ := Aside0.mk (Kd.R_below (Kd.R_elderB (by (with_reducible repeat (first | apply Kd.R_alloc | apply Kd.R_drewN | apply Kd.R_drew)); exact HO_8.out) gb166 (Nat.le_of_eq hg.symm)) hb)
                    have n1_ := z_bs HB hb
                    have n2_ := Aside0.mk (hbox)
                    have n3_ := z_gw HB hg
                    have n4_ := z_gw HB hg
                    clear HO_8
                    clear HB
                    have HO_8 := n0_
                    have HB := n1_
                    have BK166 := n2_
                    have GW166 := n3_
                    have GE166 := n4_
                    clear n0_ n1_ n2_ n3_ n4_
                    clear hb hbox hg
                    refine hK.out _ _ ⟨HS0_, HS1_, HS2_, HS3_, HS4_, HS5_, HS6_, HS7_⟩ (fun hHeld => ?_)
                    clear hK K
                    refine norm_ (a' := ?_) ?_ ?_
                    rotate_left
                    ·show Act.put _ (some 10) _ = _
                     simp only [Act.put, sp1, sp2, sp3, i64_w, i32_w]
                     rfl
                    exact z_n (hJ10_14 (gb166) _ ⟨hHeld, (by (with_reducible repeat (first | apply Kd.R_alloc | apply Kd.R_drewN | apply Kd.R_drew)); exact Kd.R_mono HO_8.out (fun _ hk => hk.2)), bkw, GW166.out, GE166.out, blw⟩)
                   ·skip
                    refine box_step ?hg (N := 11) ?hd (cs := #[.int .i64 0, .int .i64 0, .int .i64 0, .int .i64 0]) (t := 31) ?hr ?_; (case hd => rfl); (case hg => rfl); (case hr => first | (go_simp; done) | (go_simp; rfl))
                    intro gb167 hg w35 hbox hb
                    have HS0_ := (hb.cell (World.block_lt_of_cell? _ _ (hHeld.1))).trans (hHeld.1)
                    have HS1_ := (hb.cell (World.block_lt_of_cell? _ _ (hHeld.2.1))).trans (hHeld.2.1)
                    have HS2_ := (hb.cell (World.block_lt_of_cell? _ _ (hHeld.2.2.1))).trans (hHeld.2.2.1)
                    have HS3_ := (hb.cell (World.block_lt_of_cell? _ _ (hHeld.2.2.2.1))).trans (hHeld.2.2.2.1)
                    have HS4_ := (hb.cell (World.block_lt_of_cell? _ _ (hHeld.2.2.2.2.1))).trans (hHeld.2.2.2.2.1)
                    have HS5_ := (hb.cell (World.block_lt_of_cell? _ _ (hHeld.2.2.2.2.2.1))).trans (hHeld.2.2.2.2.2.1)
                    have HS6_ := (hb.cell (World.block_lt_of_cell? _ _ (hHeld.2.2.2.2.2.2.1))).trans (hHeld.2.2.2.2.2.2.1)
                    have HS7_ := (hb.cell (World.block_lt_of_cell? _ _ (hHeld.2.2.2.2.2.2.2))).trans (hHeld.2.2.2.2.2.2.2)
                    have n0_ := Aside0.mk (Kd.R_below (Kd.R_elderB (by (with_reducible repeat (first | apply Kd.R_alloc | apply Kd.R_drewN | apply Kd.R_drew)); exact HO_8.out) gb167 (Nat.le_of_eq hg.symm)) hb)
                    have n1_ := z_bs HB hb
                    have n2_ := Aside0.mk (hbox)
                    have n3_ := z_gw HB hg
                    have n4_ := z_gw HB hg
                    clear HO_8
                    clear HB
                    have HO_8 := n0_
                    have HB := n1_
                    have BK167 := n2_
                    have GW167 := n3_
                    have GE167 := n4_
                    clear n0_ n1_ n2_ n3_ n4_
                    clear hb hbox hg
                    refine hK.out _ _ ⟨HS0_, HS1_, HS2_, HS3_, HS4_, HS5_, HS6_, HS7_⟩ (fun hHeld => ?_)
                    clear hK K
                    refine norm_ (a' := ?_) ?_ ?_
                    rotate_left
                    ·show Act.put _ (some 11) _ = _
                     simp only [Act.put, sp1, sp2, sp3, i64_w, i32_w]
                     rfl
                    exact z_n (hJ10_15 (gb167) _ ⟨hHeld, (by (with_reducible repeat (first | apply Kd.R_alloc | apply Kd.R_drewN | apply Kd.R_drew)); exact Kd.R_mono HO_8.out (fun _ hk => hk.2)), bkw, GW167.out, GE167.out, blw⟩)
                 ·skip
                  rintro ⟨gb166, gb167⟩ w35 ⟨hS_, h0_, h1_, h2_, h3_, h4_, h5_, h6_, h7_, h8_, h9_⟩
                  have n0_ : Aside0 (Kd.R k31 31 w35 w.heap.size (fun k_ => k_ ≠ gb166 ∧ k_ ≠ gb167) (.slice (some ad156) x8_3.length co31) x8_3) := ⟨h0_⟩
                  have n1_ : Aside0 (w35.heap[gb166]? = some (.cells #[.int .i64 0, .int .i64 0, .int .i64 0, .int .i64 0] 31 (0, 0))) := ⟨h1_⟩
                  have n2_ : Aside0 (w35.heap[gb167]? = some (.cells #[.int .i64 0, .int .i64 0, .int .i64 0, .int .i64 0] 31 (0, 0))) := ⟨h2_⟩
                  have n3_ : Aside0 (w.heap.size ≤ gb166) := ⟨h3_⟩
                  have n4_ : Aside0 (w.heap.size ≤ gb166) := ⟨h4_⟩
                  have n5_ : Aside0 (gb167 ≠ gb166) := ⟨h5_⟩
                  have n6_ : Aside0 (gb166 ≠ gb167) := ⟨h6_⟩
                  have n7_ : Aside0 (w.heap.size ≤ gb167) := ⟨h7_⟩
                  have n8_ : Aside0 (w.heap.size ≤ gb167) := ⟨h8_⟩
                  have n9_ : Aside0 (Below w.heap.size w w35) := ⟨h9_⟩
                  clear HO_8
                  clear HB
                  clear h0_ h1_ h2_ h3_ h4_ h5_ h6_ h7_ h8_ h9_
                  have HO_8 := n0_
                  have BK166 := n1_
                  have BK167 := n2_
                  have GW166 := n3_
                  have GE166 := n4_
                  have NB167_166 := n5_
                  have NB166_167 := n6_
                  have GW167 := n7_
                  have GE167 := n8_
                  have HB := n9_
                  clear n0_ n1_ n2_ n3_ n4_ n5_ n6_ n7_ n8_ n9_
                  have hHeld : w35.cell? (ad156.add ((x9_3).toNat * 4)) = some (.int .i64 ((rd_T31 x8_3 x9_3).f0)) ∧ w35.cell? ⟨(ad156.add ((x9_3).toNat * 4)).block, (ad156.add ((x9_3).toNat * 4)).off + 1, none⟩ = some (.int .i64 ((rd_T31 x8_3 x9_3).f1)) ∧ w35.cell? ⟨(ad156.add ((x9_3).toNat * 4)).block, (ad156.add ((x9_3).toNat * 4)).off + 2, none⟩ = some (.int .i64 ((rd_T31 x8_3 x9_3).f2)) ∧ w35.cell? ⟨(ad156.add ((x9_3).toNat * 4)).block, (ad156.add ((x9_3).toNat * 4)).off + 3, none⟩ = some (.int .i64 ((rd_T31 x8_3 x9_3).f3)) ∧ w35.cell? (ad156.add (((ji22)).toNat * 4)) = some (.int .i64 ((rd_T31 x8_3 (ji22)).f0)) ∧ w35.cell? ⟨(ad156.add (((ji22)).toNat * 4)).block, (ad156.add (((ji22)).toNat * 4)).off + 1, none⟩ = some (.int .i64 ((rd_T31 x8_3 (ji22)).f1)) ∧ w35.cell? ⟨(ad156.add (((ji22)).toNat * 4)).block, (ad156.add (((ji22)).toNat * 4)).off + 2, none⟩ = some (.int .i64 ((rd_T31 x8_3 (ji22)).f2)) ∧ w35.cell? ⟨(ad156.add (((ji22)).toNat * 4)).block, (ad156.add (((ji22)).toNat * 4)).off + 3, none⟩ = some (.int .i64 ((rd_T31 x8_3 (ji22)).f3)) := hS_
                  refine norm_ (a' := ?_) ?_ ?_
                  rotate_left
                  ·simp only [putAll, Act.put, List.setIfInBounds_toArray, List.set_cons_zero, List.set_cons_succ]
                   rfl
                  refine one_ (i := 10) (N := some 50) #[true, true, true, true, true, true, true, true, true, true, true, false, false, false, true, true, false, false] rfl rfl (one_of HT_.out (by kernel_rfl)) (by decide) (fun K hK => ?_)
                  refine goes_ Try.func74 (by kernel_rfl) rfl #[.agg #[.int .i64 ((rd_T31 x8_3 x9_3).f0), .int .i64 ((rd_T31 x8_3 x9_3).f1), .int .i64 ((rd_T31 x8_3 x9_3).f2), .int .i64 ((rd_T31 x8_3 x9_3).f3)], .agg #[.int .i64 ((rd_T31 x8_3 (ji22)).f0), .int .i64 ((rd_T31 x8_3 (ji22)).f1), .int .i64 ((rd_T31 x8_3 (ji22)).f2), .int .i64 ((rd_T31 x8_3 (ji22)).f3)], .int .i64 a1] (by rfl) rfl rfl (by (try simp only [List.map_toArray, List.map_cons, List.map_nil]); first | done | (simp only [hji22]; rfl) | rfl | (simp only [List.length_drop, List.length_take]; rfl)) ?_
                  with_reducible refine (spec_l10Pair.calls k3 ((rd_T31 x8_3 x9_3).f0) ((rd_T31 x8_3 x9_3).f1) ((rd_T31 x8_3 x9_3).f2) ((rd_T31 x8_3 x9_3).f3) ((rd_T31 x8_3 (ji22)).f0) ((rd_T31 x8_3 (ji22)).f1) ((rd_T31 x8_3 (ji22)).f2) ((rd_T31 x8_3 (ji22)).f3) a1 t158 t159 t160 t161 t162 t163 t164 t165 _ A24.out).mono ?_
                  rintro e w36 ⟨rfl, hb⟩
                  have HS0_ := (hb.cell (World.block_lt_of_cell? _ _ (hHeld.1))).trans (hHeld.1)
                  have HS1_ := (hb.cell (World.block_lt_of_cell? _ _ (hHeld.2.1))).trans (hHeld.2.1)
                  have HS2_ := (hb.cell (World.block_lt_of_cell? _ _ (hHeld.2.2.1))).trans (hHeld.2.2.1)
                  have HS3_ := (hb.cell (World.block_lt_of_cell? _ _ (hHeld.2.2.2.1))).trans (hHeld.2.2.2.1)
                  have HS4_ := (hb.cell (World.block_lt_of_cell? _ _ (hHeld.2.2.2.2.1))).trans (hHeld.2.2.2.2.1)
                  have HS5_ := (hb.cell (World.block_lt_of_cell? _ _ (hHeld.2.2.2.2.2.1))).trans (hHeld.2.2.2.2.2.1)
                  have HS6_ := (hb.cell (World.block_lt_of_cell? _ _ (hHeld.2.2.2.2.2.2.1))).trans (hHeld.2.2.2.2.2.2.1)
                  have HS7_ := (hb.cell (World.block_lt_of_cell? _ _ (hHeld.2.2.2.2.2.2.2))).trans (hHeld.2.2.2.2.2.2.2)
                  refine ⟨_, rfl, ?_⟩
                  have n0_ := Aside0.mk (Kd.R_below (by (with_reducible repeat (first | apply Kd.R_alloc | apply Kd.R_drewN | apply Kd.R_drew)); exact HO_8.out) hb)
                  have n1_ := z_bk BK166 hb
                  have n2_ := z_bk BK167 hb
                  have n3_ := z_bs HB hb
                  clear HO_8
                  clear BK166
                  clear BK167
                  clear HB
                  have HO_8 := n0_
                  have BK166 := n1_
                  have BK167 := n2_
                  have HB := n3_
                  clear n0_ n1_ n2_ n3_
                  (try clear hb); (try clear hk)
                  refine hK.out _ _ ⟨HS0_, HS1_, HS2_, HS3_, HS4_, HS5_, HS6_, HS7_⟩ (fun hHeld => ?_)
                  clear hK K
                  refine norm_ (a' := ?_) ?_ ?_
                  rotate_left
                  ·show Act.put _ (some 50) _ = _
                   simp only [Act.put, sp1, sp2, sp3, i64_w, i32_w]
                   rfl
                  refine pure_ (i := 11) (N := some 39) (v := ?_) (a' := ?_) #[true, true, true, true, true, true, true, true, true, true, true, true, false, false, true, true, false, false] rfl rfl (any_of HT_.out (by kernel_rfl)) (fun _ _ _ h => h) (Or.inl ⟨by rfl, ?_⟩) ?_ ?_
                  rotate_left; (· (intro w'; go_simp; with_reducible rfl)); rotate_left; (· (simp only [Act.put, sp1, sp2, sp3, i64_w, i32_w]; rfl))
                  refine pure_ (i := 12) (N := some 51) (v := ?_) (a' := ?_) #[true, true, true, true, true, true, true, true, true, true, true, true, true, false, true, true, false, false] rfl rfl (any_of HT_.out (by kernel_rfl)) (fun _ _ _ h => h) (Or.inl ⟨by rfl, ?_⟩) ?_ ?_
                  rotate_left; (· (intro w'; go_simp; with_reducible rfl)); rotate_left; (· (simp only [Act.put, sp1, sp2, sp3, i64_w, i32_w]; rfl))
                  refine pure_ (i := 13) (N := some 52) (v := ?_) (a' := ?_) #[true, true, true, true, true, true, true, true, true, true, true, true, true, true, true, true, false, false] rfl rfl (any_of HT_.out (by kernel_rfl)) (fun _ _ _ h => h) (Or.inl ⟨by rfl, ?_⟩) ?_ ?_
                  rotate_left; (· (intro w'; go_simp; with_reducible rfl)); rotate_left; (· (simp only [Act.put, sp1, sp2, sp3, i64_w, i32_w]; rfl))
                  exact z_n (hJ10_14_15 (gb166, gb167) _ ⟨hHeld, (by (with_reducible repeat (first | apply Kd.R_alloc | apply Kd.R_drewN | apply Kd.R_drew)); exact HO_8.out), bkw, bkw, GW166.out, GE166.out, NB167_166.out, NB166_167.out, GW167.out, GE167.out, blw⟩)
                ·skip
                 rintro gb167 w35 ⟨hS_, h0_, h1_, h2_, h3_, h4_⟩
                 have n0_ : Aside0 (Kd.R k31 31 w35 w.heap.size (fun k_ => k_ ≠ gb167) (.slice (some ad156) x8_3.length co31) x8_3) := ⟨h0_⟩
                 have n1_ : Aside0 (w35.heap[gb167]? = some (.cells #[.int .i64 0, .int .i64 0, .int .i64 0, .int .i64 0] 31 (0, 0))) := ⟨h1_⟩
                 have n2_ : Aside0 (w.heap.size ≤ gb167) := ⟨h2_⟩
                 have n3_ : Aside0 (w.heap.size ≤ gb167) := ⟨h3_⟩
                 have n4_ : Aside0 (Below w.heap.size w w35) := ⟨h4_⟩
                 clear HO_8
                 clear HB
                 clear h0_ h1_ h2_ h3_ h4_
                 have HO_8 := n0_
                 have BK167 := n1_
                 have GW167 := n2_
                 have GE167 := n3_
                 have HB := n4_
                 clear n0_ n1_ n2_ n3_ n4_
                 have hHeld : w35.cell? (ad156.add ((x9_3).toNat * 4)) = some (.int .i64 ((rd_T31 x8_3 x9_3).f0)) ∧ w35.cell? ⟨(ad156.add ((x9_3).toNat * 4)).block, (ad156.add ((x9_3).toNat * 4)).off + 1, none⟩ = some (.int .i64 ((rd_T31 x8_3 x9_3).f1)) ∧ w35.cell? ⟨(ad156.add ((x9_3).toNat * 4)).block, (ad156.add ((x9_3).toNat * 4)).off + 2, none⟩ = some (.int .i64 ((rd_T31 x8_3 x9_3).f2)) ∧ w35.cell? ⟨(ad156.add ((x9_3).toNat * 4)).block, (ad156.add ((x9_3).toNat * 4)).off + 3, none⟩ = some (.int .i64 ((rd_T31 x8_3 x9_3).f3)) ∧ w35.cell? (ad156.add (((ji22)).toNat * 4)) = some (.int .i64 ((rd_T31 x8_3 (ji22)).f0)) ∧ w35.cell? ⟨(ad156.add (((ji22)).toNat * 4)).block, (ad156.add (((ji22)).toNat * 4)).off + 1, none⟩ = some (.int .i64 ((rd_T31 x8_3 (ji22)).f1)) ∧ w35.cell? ⟨(ad156.add (((ji22)).toNat * 4)).block, (ad156.add (((ji22)).toNat * 4)).off + 2, none⟩ = some (.int .i64 ((rd_T31 x8_3 (ji22)).f2)) ∧ w35.cell? ⟨(ad156.add (((ji22)).toNat * 4)).block, (ad156.add (((ji22)).toNat * 4)).off + 3, none⟩ = some (.int .i64 ((rd_T31 x8_3 (ji22)).f3)) := hS_
                 refine norm_ (a' := ?_) ?_ ?_
                 rotate_left
                 ·simp only [putAll, Act.put, List.setIfInBounds_toArray, List.set_cons_zero, List.set_cons_succ]
                  rfl
                 refine one_ (i := 14) (N := some 10) #[true, true, true, true, true, true, true, true, true, true, true, true, true, true, true, true, false, false] rfl rfl (one_of HT_.out (by kernel_rfl)) (by decide) (fun K hK => ?_)
                 refine box_step ?hg (N := 10) ?hd (cs := #[.int .i64 0, .int .i64 0, .int .i64 0, .int .i64 0]) (t := 31) ?hr ?_; (case hd => rfl); (case hg => rfl); (case hr => first | (go_simp; done) | (go_simp; rfl))
                 intro gb166 hg w36 hbox hb
                 have HS0_ := (hb.cell (World.block_lt_of_cell? _ _ (hHeld.1))).trans (hHeld.1)
                 have HS1_ := (hb.cell (World.block_lt_of_cell? _ _ (hHeld.2.1))).trans (hHeld.2.1)
                 have HS2_ := (hb.cell (World.block_lt_of_cell? _ _ (hHeld.2.2.1))).trans (hHeld.2.2.1)
                 have HS3_ := (hb.cell (World.block_lt_of_cell? _ _ (hHeld.2.2.2.1))).trans (hHeld.2.2.2.1)
                 have HS4_ := (hb.cell (World.block_lt_of_cell? _ _ (hHeld.2.2.2.2.1))).trans (hHeld.2.2.2.2.1)
                 have HS5_ := (hb.cell (World.block_lt_of_cell? _ _ (hHeld.2.2.2.2.2.1))).trans (hHeld.2.2.2.2.2.1)
                 have HS6_ := (hb.cell (World.block_lt_of_cell? _ _ (hHeld.2.2.2.2.2.2.1))).trans (hHeld.2.2.2.2.2.2.1)
                 have HS7_ := (hb.cell (World.block_lt_of_cell? _ _ (hHeld.2.2.2.2.2.2.2))).trans (hHeld.2.2.2.2.2.2.2)
                 have n0_ := Aside0.mk (Kd.R_below (Kd.R_elderB (by (with_reducible repeat (first | apply Kd.R_alloc | apply Kd.R_drewN | apply Kd.R_drew)); exact HO_8.out) gb166 (Nat.le_of_eq hg.symm)) hb)
                 have n1_ := z_bk BK167 hb
                 have n2_ := z_bs HB hb
                 have n3_ := Aside0.mk (hbox)
                 have n4_ := z_gw HB hg
                 have n5_ := z_gw HB hg
                 have n6_ := z_nl BK167 hg
                 have n7_ := z_ng BK167 hg
                 clear HO_8
                 clear BK167
                 clear HB
                 have HO_8 := n0_
                 have BK167 := n1_
                 have HB := n2_
                 have BK166 := n3_
                 have GW166 := n4_
                 have GE166 := n5_
                 have NB167_166 := n6_
                 have NB166_167 := n7_
                 clear n0_ n1_ n2_ n3_ n4_ n5_ n6_ n7_
                 clear hb hbox hg
                 refine hK.out _ _ ⟨HS0_, HS1_, HS2_, HS3_, HS4_, HS5_, HS6_, HS7_⟩ (fun hHeld => ?_)
                 clear hK K
                 refine norm_ (a' := ?_) ?_ ?_
                 rotate_left
                 ·show Act.put _ (some 10) _ = _
                  simp only [Act.put, sp1, sp2, sp3, i64_w, i32_w]
                  rfl
                 exact z_n (hJ10_14_15 (gb166, gb167) _ ⟨hHeld, (by (with_reducible repeat (first | apply Kd.R_alloc | apply Kd.R_drewN | apply Kd.R_drew)); exact Kd.R_mono HO_8.out (fun _ hk => ⟨hk.2, hk.1⟩)), bkw, bkw, GW166.out, GE166.out, NB167_166.out, NB166_167.out, GW167.out, GE167.out, blw⟩)
               ·skip
                rintro gb166 w35 ⟨hS_, h0_, h1_, h2_, h3_, h4_⟩
                have n0_ : Aside0 (Kd.R k31 31 w35 w.heap.size (fun k_ => k_ ≠ gb166) (.slice (some ad156) x8_3.length co31) x8_3) := ⟨h0_⟩
                have n1_ : Aside0 (w35.heap[gb166]? = some (.cells #[.int .i64 0, .int .i64 0, .int .i64 0, .int .i64 0] 31 (0, 0))) := ⟨h1_⟩
                have n2_ : Aside0 (w.heap.size ≤ gb166) := ⟨h2_⟩
                have n3_ : Aside0 (w.heap.size ≤ gb166) := ⟨h3_⟩
                have n4_ : Aside0 (Below w.heap.size w w35) := ⟨h4_⟩
                clear HO_8
                clear HB
                clear h0_ h1_ h2_ h3_ h4_
                have HO_8 := n0_
                have BK166 := n1_
                have GW166 := n2_
                have GE166 := n3_
                have HB := n4_
                clear n0_ n1_ n2_ n3_ n4_
                have hHeld : w35.cell? (ad156.add ((x9_3).toNat * 4)) = some (.int .i64 ((rd_T31 x8_3 x9_3).f0)) ∧ w35.cell? ⟨(ad156.add ((x9_3).toNat * 4)).block, (ad156.add ((x9_3).toNat * 4)).off + 1, none⟩ = some (.int .i64 ((rd_T31 x8_3 x9_3).f1)) ∧ w35.cell? ⟨(ad156.add ((x9_3).toNat * 4)).block, (ad156.add ((x9_3).toNat * 4)).off + 2, none⟩ = some (.int .i64 ((rd_T31 x8_3 x9_3).f2)) ∧ w35.cell? ⟨(ad156.add ((x9_3).toNat * 4)).block, (ad156.add ((x9_3).toNat * 4)).off + 3, none⟩ = some (.int .i64 ((rd_T31 x8_3 x9_3).f3)) ∧ w35.cell? (ad156.add (((ji22)).toNat * 4)) = some (.int .i64 ((rd_T31 x8_3 (ji22)).f0)) ∧ w35.cell? ⟨(ad156.add (((ji22)).toNat * 4)).block, (ad156.add (((ji22)).toNat * 4)).off + 1, none⟩ = some (.int .i64 ((rd_T31 x8_3 (ji22)).f1)) ∧ w35.cell? ⟨(ad156.add (((ji22)).toNat * 4)).block, (ad156.add (((ji22)).toNat * 4)).off + 2, none⟩ = some (.int .i64 ((rd_T31 x8_3 (ji22)).f2)) ∧ w35.cell? ⟨(ad156.add (((ji22)).toNat * 4)).block, (ad156.add (((ji22)).toNat * 4)).off + 3, none⟩ = some (.int .i64 ((rd_T31 x8_3 (ji22)).f3)) := hS_
                refine norm_ (a' := ?_) ?_ ?_
                rotate_left
                ·simp only [putAll, Act.put, List.setIfInBounds_toArray, List.set_cons_zero, List.set_cons_succ]
                 rfl
                refine one_ (i := 15) (N := some 11) #[true, true, true, true, true, true, true, true, true, true, true, true, true, true, true, true, false, false] rfl rfl (one_of HT_.out (by kernel_rfl)) (by decide) (fun K hK => ?_)
                refine box_step ?hg (N := 11) ?hd (cs := #[.int .i64 0, .int .i64 0, .int .i64 0, .int .i64 0]) (t := 31) ?hr ?_; (case hd => rfl); (case hg => rfl); (case hr => first | (go_simp; done) | (go_simp; rfl))
                intro gb167 hg w36 hbox hb
                have HS0_ := (hb.cell (World.block_lt_of_cell? _ _ (hHeld.1))).trans (hHeld.1)
                have HS1_ := (hb.cell (World.block_lt_of_cell? _ _ (hHeld.2.1))).trans (hHeld.2.1)
                have HS2_ := (hb.cell (World.block_lt_of_cell? _ _ (hHeld.2.2.1))).trans (hHeld.2.2.1)
                have HS3_ := (hb.cell (World.block_lt_of_cell? _ _ (hHeld.2.2.2.1))).trans (hHeld.2.2.2.1)
                have HS4_ := (hb.cell (World.block_lt_of_cell? _ _ (hHeld.2.2.2.2.1))).trans (hHeld.2.2.2.2.1)
                have HS5_ := (hb.cell (World.block_lt_of_cell? _ _ (hHeld.2.2.2.2.2.1))).trans (hHeld.2.2.2.2.2.1)
                have HS6_ := (hb.cell (World.block_lt_of_cell? _ _ (hHeld.2.2.2.2.2.2.1))).trans (hHeld.2.2.2.2.2.2.1)
                have HS7_ := (hb.cell (World.block_lt_of_cell? _ _ (hHeld.2.2.2.2.2.2.2))).trans (hHeld.2.2.2.2.2.2.2)
                have n0_ := Aside0.mk (Kd.R_below (Kd.R_elderB (by (with_reducible repeat (first | apply Kd.R_alloc | apply Kd.R_drewN | apply Kd.R_drew)); exact HO_8.out) gb167 (Nat.le_of_eq hg.symm)) hb)
                have n1_ := z_bk BK166 hb
                have n2_ := z_bs HB hb
                have n3_ := Aside0.mk (hbox)
                have n4_ := z_gw HB hg
                have n5_ := z_gw HB hg
                have n6_ := z_nl BK166 hg
                have n7_ := z_ng BK166 hg
                clear HO_8
                clear BK166
                clear HB
                have HO_8 := n0_
                have BK166 := n1_
                have HB := n2_
                have BK167 := n3_
                have GW167 := n4_
                have GE167 := n5_
                have NB166_167 := n6_
                have NB167_166 := n7_
                clear n0_ n1_ n2_ n3_ n4_ n5_ n6_ n7_
                clear hb hbox hg
                refine hK.out _ _ ⟨HS0_, HS1_, HS2_, HS3_, HS4_, HS5_, HS6_, HS7_⟩ (fun hHeld => ?_)
                clear hK K
                refine norm_ (a' := ?_) ?_ ?_
                rotate_left
                ·show Act.put _ (some 11) _ = _
                 simp only [Act.put, sp1, sp2, sp3, i64_w, i32_w]
                 rfl
                exact z_n (hJ10_14_15 (gb166, gb167) _ ⟨hHeld, (by (with_reducible repeat (first | apply Kd.R_alloc | apply Kd.R_drewN | apply Kd.R_drew)); exact HO_8.out), bkw, bkw, GW166.out, GE166.out, NB167_166.out, NB166_167.out, GW167.out, GE167.out, blw⟩)
              rintro ⟨gb166, gb167⟩ w36 ⟨hS_, h0_, h1_, h2_, h3_, h4_, h5_, h6_, h7_, h8_, h9_⟩
              have n0_ : Aside0 (Kd.R k31 31 w36 w.heap.size (fun k_ => k_ ≠ gb166 ∧ k_ ≠ gb167) (.slice (some ad156) x8_3.length co31) x8_3) := ⟨h0_⟩
              have n1_ : Aside0 (w36.heap[gb166]? = some (.cells #[.int .i64 0, .int .i64 0, .int .i64 0, .int .i64 0] 31 (0, 0))) := ⟨h1_⟩
              have n2_ : Aside0 (w36.heap[gb167]? = some (.cells #[.int .i64 0, .int .i64 0, .int .i64 0, .int .i64 0] 31 (0, 0))) := ⟨h2_⟩
              have n3_ : Aside0 (w.heap.size ≤ gb166) := ⟨h3_⟩
              have n4_ : Aside0 (w.heap.size ≤ gb166) := ⟨h4_⟩
              have n5_ : Aside0 (gb167 ≠ gb166) := ⟨h5_⟩
              have n6_ : Aside0 (gb166 ≠ gb167) := ⟨h6_⟩
              have n7_ : Aside0 (w.heap.size ≤ gb167) := ⟨h7_⟩
              have n8_ : Aside0 (w.heap.size ≤ gb167) := ⟨h8_⟩
              have n9_ : Aside0 (Below w.heap.size w w36) := ⟨h9_⟩
              clear HO_8
              clear HB
              clear h0_ h1_ h2_ h3_ h4_ h5_ h6_ h7_ h8_ h9_
              have HO_8 := n0_
              have BK166 := n1_
              have BK167 := n2_
              have GW166 := n3_
              have GE166 := n4_
              have NB167_166 := n5_
              have NB166_167 := n6_
              have GW167 := n7_
              have GE167 := n8_
              have HB := n9_
              clear n0_ n1_ n2_ n3_ n4_ n5_ n6_ n7_ n8_ n9_
              have hHeld : w36.cell? (ad156.add ((x9_3).toNat * 4)) = some (.int .i64 ((rd_T31 x8_3 x9_3).f0)) ∧ w36.cell? ⟨(ad156.add ((x9_3).toNat * 4)).block, (ad156.add ((x9_3).toNat * 4)).off + 1, none⟩ = some (.int .i64 ((rd_T31 x8_3 x9_3).f1)) ∧ w36.cell? ⟨(ad156.add ((x9_3).toNat * 4)).block, (ad156.add ((x9_3).toNat * 4)).off + 2, none⟩ = some (.int .i64 ((rd_T31 x8_3 x9_3).f2)) ∧ w36.cell? ⟨(ad156.add ((x9_3).toNat * 4)).block, (ad156.add ((x9_3).toNat * 4)).off + 3, none⟩ = some (.int .i64 ((rd_T31 x8_3 x9_3).f3)) ∧ w36.cell? (ad156.add (((ji22)).toNat * 4)) = some (.int .i64 ((rd_T31 x8_3 (ji22)).f0)) ∧ w36.cell? ⟨(ad156.add (((ji22)).toNat * 4)).block, (ad156.add (((ji22)).toNat * 4)).off + 1, none⟩ = some (.int .i64 ((rd_T31 x8_3 (ji22)).f1)) ∧ w36.cell? ⟨(ad156.add (((ji22)).toNat * 4)).block, (ad156.add (((ji22)).toNat * 4)).off + 2, none⟩ = some (.int .i64 ((rd_T31 x8_3 (ji22)).f2)) ∧ w36.cell? ⟨(ad156.add (((ji22)).toNat * 4)).block, (ad156.add (((ji22)).toNat * 4)).off + 3, none⟩ = some (.int .i64 ((rd_T31 x8_3 (ji22)).f3)) := hS_
              refine norm_ (a' := ?_) ?_ ?_
              rotate_left
              ·simp only [putAll, Act.put, List.setIfInBounds_toArray, List.set_cons_zero, List.set_cons_succ]
               rfl
              refine one_ (i := 16) (N := none) #[true, true, true, true, true, true, true, true, true, true, true, true, true, true, true, true, true, false] rfl rfl (one_of HT_.out (by kernel_rfl)) (by decide) (fun K hK => ?_)
              have hs37 : w36.cell? ⟨gb166, 0, none⟩ = some (.int .i64 0) := z_c BK166 0
              have hfs37 := blk_frozen BK166.out 0
              have hns37_1 := NB167_166.out
              have hms37_1 := NB166_167.out
              have hs38 : w36.cell? ⟨gb166, 1, none⟩ = some (.int .i64 0) := z_c BK166 1
              have hfs38 := blk_frozen BK166.out 1
              have hns38_1 := NB167_166.out
              have hms38_1 := NB166_167.out
              have hs39 : w36.cell? ⟨gb166, 2, none⟩ = some (.int .i64 0) := z_c BK166 2
              have hfs39 := blk_frozen BK166.out 2
              have hns39_1 := NB167_166.out
              have hms39_1 := NB166_167.out
              have hs40 : w36.cell? ⟨gb166, 3, none⟩ = some (.int .i64 0) := z_c BK166 3
              have hfs40 := blk_frozen BK166.out 3
              have hns40_1 := NB167_166.out
              have hms40_1 := NB166_167.out
              refine skip_ (w1 := ?_) (by rfl) rfl ?_ ?_
              rotate_left
              ·go_simp
               rfl
              refine hK.out _ _ ⟨((cell_far (p := ⟨gb166, _, none⟩) (by first | exact Kd.own_blk (Kd.R_away HO_8.out (fun _ hk => hk.1)) | (rw [add_block]; exact Kd.own_blk (Kd.R_away HO_8.out (fun _ hk => hk.1))) | (show (Addr.add _ _).block ≠ _; rw [add_block]; exact Kd.own_blk (Kd.R_away HO_8.out (fun _ hk => hk.1))) | (dsimp only; exact Kd.own_blk (Kd.R_away HO_8.out (fun _ hk => hk.1)))) _).trans (((cell_far (p := ⟨gb166, _, none⟩) (by first | exact Kd.own_blk (Kd.R_away HO_8.out (fun _ hk => hk.1)) | (rw [add_block]; exact Kd.own_blk (Kd.R_away HO_8.out (fun _ hk => hk.1))) | (show (Addr.add _ _).block ≠ _; rw [add_block]; exact Kd.own_blk (Kd.R_away HO_8.out (fun _ hk => hk.1))) | (dsimp only; exact Kd.own_blk (Kd.R_away HO_8.out (fun _ hk => hk.1)))) _).trans (((cell_far (p := ⟨gb166, _, none⟩) (by first | exact Kd.own_blk (Kd.R_away HO_8.out (fun _ hk => hk.1)) | (rw [add_block]; exact Kd.own_blk (Kd.R_away HO_8.out (fun _ hk => hk.1))) | (show (Addr.add _ _).block ≠ _; rw [add_block]; exact Kd.own_blk (Kd.R_away HO_8.out (fun _ hk => hk.1))) | (dsimp only; exact Kd.own_blk (Kd.R_away HO_8.out (fun _ hk => hk.1)))) _).trans (((cell_far (p := ⟨gb166, _, none⟩) (by first | exact Kd.own_blk (Kd.R_away HO_8.out (fun _ hk => hk.1)) | (rw [add_block]; exact Kd.own_blk (Kd.R_away HO_8.out (fun _ hk => hk.1))) | (show (Addr.add _ _).block ≠ _; rw [add_block]; exact Kd.own_blk (Kd.R_away HO_8.out (fun _ hk => hk.1))) | (dsimp only; exact Kd.own_blk (Kd.R_away HO_8.out (fun _ hk => hk.1)))) _).trans (hHeld.1)))))))), ((cell_far (p := ⟨gb166, _, none⟩) (by first | exact Kd.own_blk (Kd.R_away HO_8.out (fun _ hk => hk.1)) | (rw [add_block]; exact Kd.own_blk (Kd.R_away HO_8.out (fun _ hk => hk.1))) | (show (Addr.add _ _).block ≠ _; rw [add_block]; exact Kd.own_blk (Kd.R_away HO_8.out (fun _ hk => hk.1))) | (dsimp only; exact Kd.own_blk (Kd.R_away HO_8.out (fun _ hk => hk.1)))) _).trans (((cell_far (p := ⟨gb166, _, none⟩) (by first | exact Kd.own_blk (Kd.R_away HO_8.out (fun _ hk => hk.1)) | (rw [add_block]; exact Kd.own_blk (Kd.R_away HO_8.out (fun _ hk => hk.1))) | (show (Addr.add _ _).block ≠ _; rw [add_block]; exact Kd.own_blk (Kd.R_away HO_8.out (fun _ hk => hk.1))) | (dsimp only; exact Kd.own_blk (Kd.R_away HO_8.out (fun _ hk => hk.1)))) _).trans (((cell_far (p := ⟨gb166, _, none⟩) (by first | exact Kd.own_blk (Kd.R_away HO_8.out (fun _ hk => hk.1)) | (rw [add_block]; exact Kd.own_blk (Kd.R_away HO_8.out (fun _ hk => hk.1))) | (show (Addr.add _ _).block ≠ _; rw [add_block]; exact Kd.own_blk (Kd.R_away HO_8.out (fun _ hk => hk.1))) | (dsimp only; exact Kd.own_blk (Kd.R_away HO_8.out (fun _ hk => hk.1)))) _).trans (((cell_far (p := ⟨gb166, _, none⟩) (by first | exact Kd.own_blk (Kd.R_away HO_8.out (fun _ hk => hk.1)) | (rw [add_block]; exact Kd.own_blk (Kd.R_away HO_8.out (fun _ hk => hk.1))) | (show (Addr.add _ _).block ≠ _; rw [add_block]; exact Kd.own_blk (Kd.R_away HO_8.out (fun _ hk => hk.1))) | (dsimp only; exact Kd.own_blk (Kd.R_away HO_8.out (fun _ hk => hk.1)))) _).trans (hHeld.2.1)))))))), ((cell_far (p := ⟨gb166, _, none⟩) (by first | exact Kd.own_blk (Kd.R_away HO_8.out (fun _ hk => hk.1)) | (rw [add_block]; exact Kd.own_blk (Kd.R_away HO_8.out (fun _ hk => hk.1))) | (show (Addr.add _ _).block ≠ _; rw [add_block]; exact Kd.own_blk (Kd.R_away HO_8.out (fun _ hk => hk.1))) | (dsimp only; exact Kd.own_blk (Kd.R_away HO_8.out (fun _ hk => hk.1)))) _).trans (((cell_far (p := ⟨gb166, _, none⟩) (by first | exact Kd.own_blk (Kd.R_away HO_8.out (fun _ hk => hk.1)) | (rw [add_block]; exact Kd.own_blk (Kd.R_away HO_8.out (fun _ hk => hk.1))) | (show (Addr.add _ _).block ≠ _; rw [add_block]; exact Kd.own_blk (Kd.R_away HO_8.out (fun _ hk => hk.1))) | (dsimp only; exact Kd.own_blk (Kd.R_away HO_8.out (fun _ hk => hk.1)))) _).trans (((cell_far (p := ⟨gb166, _, none⟩) (by first | exact Kd.own_blk (Kd.R_away HO_8.out (fun _ hk => hk.1)) | (rw [add_block]; exact Kd.own_blk (Kd.R_away HO_8.out (fun _ hk => hk.1))) | (show (Addr.add _ _).block ≠ _; rw [add_block]; exact Kd.own_blk (Kd.R_away HO_8.out (fun _ hk => hk.1))) | (dsimp only; exact Kd.own_blk (Kd.R_away HO_8.out (fun _ hk => hk.1)))) _).trans (((cell_far (p := ⟨gb166, _, none⟩) (by first | exact Kd.own_blk (Kd.R_away HO_8.out (fun _ hk => hk.1)) | (rw [add_block]; exact Kd.own_blk (Kd.R_away HO_8.out (fun _ hk => hk.1))) | (show (Addr.add _ _).block ≠ _; rw [add_block]; exact Kd.own_blk (Kd.R_away HO_8.out (fun _ hk => hk.1))) | (dsimp only; exact Kd.own_blk (Kd.R_away HO_8.out (fun _ hk => hk.1)))) _).trans (hHeld.2.2.1)))))))), ((cell_far (p := ⟨gb166, _, none⟩) (by first | exact Kd.own_blk (Kd.R_away HO_8.out (fun _ hk => hk.1)) | (rw [add_block]; exact Kd.own_blk (Kd.R_away HO_8.out (fun _ hk => hk.1))) | (show (Addr.add _ _).block ≠ _; rw [add_block]; exact Kd.own_blk (Kd.R_away HO_8.out (fun _ hk => hk.1))) | (dsimp only; exact Kd.own_blk (Kd.R_away HO_8.out (fun _ hk => hk.1)))) _).trans (((cell_far (p := ⟨gb166, _, none⟩) (by first | exact Kd.own_blk (Kd.R_away HO_8.out (fun _ hk => hk.1)) | (rw [add_block]; exact Kd.own_blk (Kd.R_away HO_8.out (fun _ hk => hk.1))) | (show (Addr.add _ _).block ≠ _; rw [add_block]; exact Kd.own_blk (Kd.R_away HO_8.out (fun _ hk => hk.1))) | (dsimp only; exact Kd.own_blk (Kd.R_away HO_8.out (fun _ hk => hk.1)))) _).trans (((cell_far (p := ⟨gb166, _, none⟩) (by first | exact Kd.own_blk (Kd.R_away HO_8.out (fun _ hk => hk.1)) | (rw [add_block]; exact Kd.own_blk (Kd.R_away HO_8.out (fun _ hk => hk.1))) | (show (Addr.add _ _).block ≠ _; rw [add_block]; exact Kd.own_blk (Kd.R_away HO_8.out (fun _ hk => hk.1))) | (dsimp only; exact Kd.own_blk (Kd.R_away HO_8.out (fun _ hk => hk.1)))) _).trans (((cell_far (p := ⟨gb166, _, none⟩) (by first | exact Kd.own_blk (Kd.R_away HO_8.out (fun _ hk => hk.1)) | (rw [add_block]; exact Kd.own_blk (Kd.R_away HO_8.out (fun _ hk => hk.1))) | (show (Addr.add _ _).block ≠ _; rw [add_block]; exact Kd.own_blk (Kd.R_away HO_8.out (fun _ hk => hk.1))) | (dsimp only; exact Kd.own_blk (Kd.R_away HO_8.out (fun _ hk => hk.1)))) _).trans (hHeld.2.2.2.1)))))))), ((cell_far (p := ⟨gb166, _, none⟩) (by first | exact Kd.own_blk (Kd.R_away HO_8.out (fun _ hk => hk.1)) | (rw [add_block]; exact Kd.own_blk (Kd.R_away HO_8.out (fun _ hk => hk.1))) | (show (Addr.add _ _).block ≠ _; rw [add_block]; exact Kd.own_blk (Kd.R_away HO_8.out (fun _ hk => hk.1))) | (dsimp only; exact Kd.own_blk (Kd.R_away HO_8.out (fun _ hk => hk.1)))) _).trans (((cell_far (p := ⟨gb166, _, none⟩) (by first | exact Kd.own_blk (Kd.R_away HO_8.out (fun _ hk => hk.1)) | (rw [add_block]; exact Kd.own_blk (Kd.R_away HO_8.out (fun _ hk => hk.1))) | (show (Addr.add _ _).block ≠ _; rw [add_block]; exact Kd.own_blk (Kd.R_away HO_8.out (fun _ hk => hk.1))) | (dsimp only; exact Kd.own_blk (Kd.R_away HO_8.out (fun _ hk => hk.1)))) _).trans (((cell_far (p := ⟨gb166, _, none⟩) (by first | exact Kd.own_blk (Kd.R_away HO_8.out (fun _ hk => hk.1)) | (rw [add_block]; exact Kd.own_blk (Kd.R_away HO_8.out (fun _ hk => hk.1))) | (show (Addr.add _ _).block ≠ _; rw [add_block]; exact Kd.own_blk (Kd.R_away HO_8.out (fun _ hk => hk.1))) | (dsimp only; exact Kd.own_blk (Kd.R_away HO_8.out (fun _ hk => hk.1)))) _).trans (((cell_far (p := ⟨gb166, _, none⟩) (by first | exact Kd.own_blk (Kd.R_away HO_8.out (fun _ hk => hk.1)) | (rw [add_block]; exact Kd.own_blk (Kd.R_away HO_8.out (fun _ hk => hk.1))) | (show (Addr.add _ _).block ≠ _; rw [add_block]; exact Kd.own_blk (Kd.R_away HO_8.out (fun _ hk => hk.1))) | (dsimp only; exact Kd.own_blk (Kd.R_away HO_8.out (fun _ hk => hk.1)))) _).trans (hHeld.2.2.2.2.1)))))))), ((cell_far (p := ⟨gb166, _, none⟩) (by first | exact Kd.own_blk (Kd.R_away HO_8.out (fun _ hk => hk.1)) | (rw [add_block]; exact Kd.own_blk (Kd.R_away HO_8.out (fun _ hk => hk.1))) | (show (Addr.add _ _).block ≠ _; rw [add_block]; exact Kd.own_blk (Kd.R_away HO_8.out (fun _ hk => hk.1))) | (dsimp only; exact Kd.own_blk (Kd.R_away HO_8.out (fun _ hk => hk.1)))) _).trans (((cell_far (p := ⟨gb166, _, none⟩) (by first | exact Kd.own_blk (Kd.R_away HO_8.out (fun _ hk => hk.1)) | (rw [add_block]; exact Kd.own_blk (Kd.R_away HO_8.out (fun _ hk => hk.1))) | (show (Addr.add _ _).block ≠ _; rw [add_block]; exact Kd.own_blk (Kd.R_away HO_8.out (fun _ hk => hk.1))) | (dsimp only; exact Kd.own_blk (Kd.R_away HO_8.out (fun _ hk => hk.1)))) _).trans (((cell_far (p := ⟨gb166, _, none⟩) (by first | exact Kd.own_blk (Kd.R_away HO_8.out (fun _ hk => hk.1)) | (rw [add_block]; exact Kd.own_blk (Kd.R_away HO_8.out (fun _ hk => hk.1))) | (show (Addr.add _ _).block ≠ _; rw [add_block]; exact Kd.own_blk (Kd.R_away HO_8.out (fun _ hk => hk.1))) | (dsimp only; exact Kd.own_blk (Kd.R_away HO_8.out (fun _ hk => hk.1)))) _).trans (((cell_far (p := ⟨gb166, _, none⟩) (by first | exact Kd.own_blk (Kd.R_away HO_8.out (fun _ hk => hk.1)) | (rw [add_block]; exact Kd.own_blk (Kd.R_away HO_8.out (fun _ hk => hk.1))) | (show (Addr.add _ _).block ≠ _; rw [add_block]; exact Kd.own_blk (Kd.R_away HO_8.out (fun _ hk => hk.1))) | (dsimp only; exact Kd.own_blk (Kd.R_away HO_8.out (fun _ hk => hk.1)))) _).trans (hHeld.2.2.2.2.2.1)))))))), ((cell_far (p := ⟨gb166, _, none⟩) (by first | exact Kd.own_blk (Kd.R_away HO_8.out (fun _ hk => hk.1)) | (rw [add_block]; exact Kd.own_blk (Kd.R_away HO_8.out (fun _ hk => hk.1))) | (show (Addr.add _ _).block ≠ _; rw [add_block]; exact Kd.own_blk (Kd.R_away HO_8.out (fun _ hk => hk.1))) | (dsimp only; exact Kd.own_blk (Kd.R_away HO_8.out (fun _ hk => hk.1)))) _).trans (((cell_far (p := ⟨gb166, _, none⟩) (by first | exact Kd.own_blk (Kd.R_away HO_8.out (fun _ hk => hk.1)) | (rw [add_block]; exact Kd.own_blk (Kd.R_away HO_8.out (fun _ hk => hk.1))) | (show (Addr.add _ _).block ≠ _; rw [add_block]; exact Kd.own_blk (Kd.R_away HO_8.out (fun _ hk => hk.1))) | (dsimp only; exact Kd.own_blk (Kd.R_away HO_8.out (fun _ hk => hk.1)))) _).trans (((cell_far (p := ⟨gb166, _, none⟩) (by first | exact Kd.own_blk (Kd.R_away HO_8.out (fun _ hk => hk.1)) | (rw [add_block]; exact Kd.own_blk (Kd.R_away HO_8.out (fun _ hk => hk.1))) | (show (Addr.add _ _).block ≠ _; rw [add_block]; exact Kd.own_blk (Kd.R_away HO_8.out (fun _ hk => hk.1))) | (dsimp only; exact Kd.own_blk (Kd.R_away HO_8.out (fun _ hk => hk.1)))) _).trans (((cell_far (p := ⟨gb166, _, none⟩) (by first | exact Kd.own_blk (Kd.R_away HO_8.out (fun _ hk => hk.1)) | (rw [add_block]; exact Kd.own_blk (Kd.R_away HO_8.out (fun _ hk => hk.1))) | (show (Addr.add _ _).block ≠ _; rw [add_block]; exact Kd.own_blk (Kd.R_away HO_8.out (fun _ hk => hk.1))) | (dsimp only; exact Kd.own_blk (Kd.R_away HO_8.out (fun _ hk => hk.1)))) _).trans (hHeld.2.2.2.2.2.2.1)))))))), ((cell_far (p := ⟨gb166, _, none⟩) (by first | exact Kd.own_blk (Kd.R_away HO_8.out (fun _ hk => hk.1)) | (rw [add_block]; exact Kd.own_blk (Kd.R_away HO_8.out (fun _ hk => hk.1))) | (show (Addr.add _ _).block ≠ _; rw [add_block]; exact Kd.own_blk (Kd.R_away HO_8.out (fun _ hk => hk.1))) | (dsimp only; exact Kd.own_blk (Kd.R_away HO_8.out (fun _ hk => hk.1)))) _).trans (((cell_far (p := ⟨gb166, _, none⟩) (by first | exact Kd.own_blk (Kd.R_away HO_8.out (fun _ hk => hk.1)) | (rw [add_block]; exact Kd.own_blk (Kd.R_away HO_8.out (fun _ hk => hk.1))) | (show (Addr.add _ _).block ≠ _; rw [add_block]; exact Kd.own_blk (Kd.R_away HO_8.out (fun _ hk => hk.1))) | (dsimp only; exact Kd.own_blk (Kd.R_away HO_8.out (fun _ hk => hk.1)))) _).trans (((cell_far (p := ⟨gb166, _, none⟩) (by first | exact Kd.own_blk (Kd.R_away HO_8.out (fun _ hk => hk.1)) | (rw [add_block]; exact Kd.own_blk (Kd.R_away HO_8.out (fun _ hk => hk.1))) | (show (Addr.add _ _).block ≠ _; rw [add_block]; exact Kd.own_blk (Kd.R_away HO_8.out (fun _ hk => hk.1))) | (dsimp only; exact Kd.own_blk (Kd.R_away HO_8.out (fun _ hk => hk.1)))) _).trans (((cell_far (p := ⟨gb166, _, none⟩) (by first | exact Kd.own_blk (Kd.R_away HO_8.out (fun _ hk => hk.1)) | (rw [add_block]; exact Kd.own_blk (Kd.R_away HO_8.out (fun _ hk => hk.1))) | (show (Addr.add _ _).block ≠ _; rw [add_block]; exact Kd.own_blk (Kd.R_away HO_8.out (fun _ hk => hk.1))) | (dsimp only; exact Kd.own_blk (Kd.R_away HO_8.out (fun _ hk => hk.1)))) _).trans (hHeld.2.2.2.2.2.2.2))))))))⟩ (fun hHeld => ?_)
              clear hK K
              refine one_ (i := 17) (N := none) #[true, true, true, true, true, true, true, true, true, true, true, true, true, true, true, true, true, true] rfl rfl (one_of HT_.out (by kernel_rfl)) (by decide) (fun K hK => ?_)
              have hs41 : w36.cell? ⟨gb167, 0, none⟩ = some (.int .i64 0) := z_c BK167 0
              have hfs41 := blk_frozen BK167.out 0
              have hns41_0 := NB166_167.out
              have hms41_0 := NB167_166.out
              have hs42 : w36.cell? ⟨gb167, 1, none⟩ = some (.int .i64 0) := z_c BK167 1
              have hfs42 := blk_frozen BK167.out 1
              have hns42_0 := NB166_167.out
              have hms42_0 := NB167_166.out
              have hs43 : w36.cell? ⟨gb167, 2, none⟩ = some (.int .i64 0) := z_c BK167 2
              have hfs43 := blk_frozen BK167.out 2
              have hns43_0 := NB166_167.out
              have hms43_0 := NB167_166.out
              have hs44 : w36.cell? ⟨gb167, 3, none⟩ = some (.int .i64 0) := z_c BK167 3
              have hfs44 := blk_frozen BK167.out 3
              have hns44_0 := NB166_167.out
              have hms44_0 := NB167_166.out
              refine skip_ (w1 := ?_) (by rfl) rfl ?_ ?_
              rotate_left
              ·go_simp
               rfl
              refine hK.out _ _ ⟨((cell_far (p := ⟨gb167, _, none⟩) (by first | exact Kd.own_blk (Kd.R_away HO_8.out (fun _ hk => hk.2)) | (rw [add_block]; exact Kd.own_blk (Kd.R_away HO_8.out (fun _ hk => hk.2))) | (show (Addr.add _ _).block ≠ _; rw [add_block]; exact Kd.own_blk (Kd.R_away HO_8.out (fun _ hk => hk.2))) | (dsimp only; exact Kd.own_blk (Kd.R_away HO_8.out (fun _ hk => hk.2)))) _).trans (((cell_far (p := ⟨gb167, _, none⟩) (by first | exact Kd.own_blk (Kd.R_away HO_8.out (fun _ hk => hk.2)) | (rw [add_block]; exact Kd.own_blk (Kd.R_away HO_8.out (fun _ hk => hk.2))) | (show (Addr.add _ _).block ≠ _; rw [add_block]; exact Kd.own_blk (Kd.R_away HO_8.out (fun _ hk => hk.2))) | (dsimp only; exact Kd.own_blk (Kd.R_away HO_8.out (fun _ hk => hk.2)))) _).trans (((cell_far (p := ⟨gb167, _, none⟩) (by first | exact Kd.own_blk (Kd.R_away HO_8.out (fun _ hk => hk.2)) | (rw [add_block]; exact Kd.own_blk (Kd.R_away HO_8.out (fun _ hk => hk.2))) | (show (Addr.add _ _).block ≠ _; rw [add_block]; exact Kd.own_blk (Kd.R_away HO_8.out (fun _ hk => hk.2))) | (dsimp only; exact Kd.own_blk (Kd.R_away HO_8.out (fun _ hk => hk.2)))) _).trans (((cell_far (p := ⟨gb167, _, none⟩) (by first | exact Kd.own_blk (Kd.R_away HO_8.out (fun _ hk => hk.2)) | (rw [add_block]; exact Kd.own_blk (Kd.R_away HO_8.out (fun _ hk => hk.2))) | (show (Addr.add _ _).block ≠ _; rw [add_block]; exact Kd.own_blk (Kd.R_away HO_8.out (fun _ hk => hk.2))) | (dsimp only; exact Kd.own_blk (Kd.R_away HO_8.out (fun _ hk => hk.2)))) _).trans (hHeld.1)))))))), ((cell_far (p := ⟨gb167, _, none⟩) (by first | exact Kd.own_blk (Kd.R_away HO_8.out (fun _ hk => hk.2)) | (rw [add_block]; exact Kd.own_blk (Kd.R_away HO_8.out (fun _ hk => hk.2))) | (show (Addr.add _ _).block ≠ _; rw [add_block]; exact Kd.own_blk (Kd.R_away HO_8.out (fun _ hk => hk.2))) | (dsimp only; exact Kd.own_blk (Kd.R_away HO_8.out (fun _ hk => hk.2)))) _).trans (((cell_far (p := ⟨gb167, _, none⟩) (by first | exact Kd.own_blk (Kd.R_away HO_8.out (fun _ hk => hk.2)) | (rw [add_block]; exact Kd.own_blk (Kd.R_away HO_8.out (fun _ hk => hk.2))) | (show (Addr.add _ _).block ≠ _; rw [add_block]; exact Kd.own_blk (Kd.R_away HO_8.out (fun _ hk => hk.2))) | (dsimp only; exact Kd.own_blk (Kd.R_away HO_8.out (fun _ hk => hk.2)))) _).trans (((cell_far (p := ⟨gb167, _, none⟩) (by first | exact Kd.own_blk (Kd.R_away HO_8.out (fun _ hk => hk.2)) | (rw [add_block]; exact Kd.own_blk (Kd.R_away HO_8.out (fun _ hk => hk.2))) | (show (Addr.add _ _).block ≠ _; rw [add_block]; exact Kd.own_blk (Kd.R_away HO_8.out (fun _ hk => hk.2))) | (dsimp only; exact Kd.own_blk (Kd.R_away HO_8.out (fun _ hk => hk.2)))) _).trans (((cell_far (p := ⟨gb167, _, none⟩) (by first | exact Kd.own_blk (Kd.R_away HO_8.out (fun _ hk => hk.2)) | (rw [add_block]; exact Kd.own_blk (Kd.R_away HO_8.out (fun _ hk => hk.2))) | (show (Addr.add _ _).block ≠ _; rw [add_block]; exact Kd.own_blk (Kd.R_away HO_8.out (fun _ hk => hk.2))) | (dsimp only; exact Kd.own_blk (Kd.R_away HO_8.out (fun _ hk => hk.2)))) _).trans (hHeld.2.1)))))))), ((cell_far (p := ⟨gb167, _, none⟩) (by first | exact Kd.own_blk (Kd.R_away HO_8.out (fun _ hk => hk.2)) | (rw [add_block]; exact Kd.own_blk (Kd.R_away HO_8.out (fun _ hk => hk.2))) | (show (Addr.add _ _).block ≠ _; rw [add_block]; exact Kd.own_blk (Kd.R_away HO_8.out (fun _ hk => hk.2))) | (dsimp only; exact Kd.own_blk (Kd.R_away HO_8.out (fun _ hk => hk.2)))) _).trans (((cell_far (p := ⟨gb167, _, none⟩) (by first | exact Kd.own_blk (Kd.R_away HO_8.out (fun _ hk => hk.2)) | (rw [add_block]; exact Kd.own_blk (Kd.R_away HO_8.out (fun _ hk => hk.2))) | (show (Addr.add _ _).block ≠ _; rw [add_block]; exact Kd.own_blk (Kd.R_away HO_8.out (fun _ hk => hk.2))) | (dsimp only; exact Kd.own_blk (Kd.R_away HO_8.out (fun _ hk => hk.2)))) _).trans (((cell_far (p := ⟨gb167, _, none⟩) (by first | exact Kd.own_blk (Kd.R_away HO_8.out (fun _ hk => hk.2)) | (rw [add_block]; exact Kd.own_blk (Kd.R_away HO_8.out (fun _ hk => hk.2))) | (show (Addr.add _ _).block ≠ _; rw [add_block]; exact Kd.own_blk (Kd.R_away HO_8.out (fun _ hk => hk.2))) | (dsimp only; exact Kd.own_blk (Kd.R_away HO_8.out (fun _ hk => hk.2)))) _).trans (((cell_far (p := ⟨gb167, _, none⟩) (by first | exact Kd.own_blk (Kd.R_away HO_8.out (fun _ hk => hk.2)) | (rw [add_block]; exact Kd.own_blk (Kd.R_away HO_8.out (fun _ hk => hk.2))) | (show (Addr.add _ _).block ≠ _; rw [add_block]; exact Kd.own_blk (Kd.R_away HO_8.out (fun _ hk => hk.2))) | (dsimp only; exact Kd.own_blk (Kd.R_away HO_8.out (fun _ hk => hk.2)))) _).trans (hHeld.2.2.1)))))))), ((cell_far (p := ⟨gb167, _, none⟩) (by first | exact Kd.own_blk (Kd.R_away HO_8.out (fun _ hk => hk.2)) | (rw [add_block]; exact Kd.own_blk (Kd.R_away HO_8.out (fun _ hk => hk.2))) | (show (Addr.add _ _).block ≠ _; rw [add_block]; exact Kd.own_blk (Kd.R_away HO_8.out (fun _ hk => hk.2))) | (dsimp only; exact Kd.own_blk (Kd.R_away HO_8.out (fun _ hk => hk.2)))) _).trans (((cell_far (p := ⟨gb167, _, none⟩) (by first | exact Kd.own_blk (Kd.R_away HO_8.out (fun _ hk => hk.2)) | (rw [add_block]; exact Kd.own_blk (Kd.R_away HO_8.out (fun _ hk => hk.2))) | (show (Addr.add _ _).block ≠ _; rw [add_block]; exact Kd.own_blk (Kd.R_away HO_8.out (fun _ hk => hk.2))) | (dsimp only; exact Kd.own_blk (Kd.R_away HO_8.out (fun _ hk => hk.2)))) _).trans (((cell_far (p := ⟨gb167, _, none⟩) (by first | exact Kd.own_blk (Kd.R_away HO_8.out (fun _ hk => hk.2)) | (rw [add_block]; exact Kd.own_blk (Kd.R_away HO_8.out (fun _ hk => hk.2))) | (show (Addr.add _ _).block ≠ _; rw [add_block]; exact Kd.own_blk (Kd.R_away HO_8.out (fun _ hk => hk.2))) | (dsimp only; exact Kd.own_blk (Kd.R_away HO_8.out (fun _ hk => hk.2)))) _).trans (((cell_far (p := ⟨gb167, _, none⟩) (by first | exact Kd.own_blk (Kd.R_away HO_8.out (fun _ hk => hk.2)) | (rw [add_block]; exact Kd.own_blk (Kd.R_away HO_8.out (fun _ hk => hk.2))) | (show (Addr.add _ _).block ≠ _; rw [add_block]; exact Kd.own_blk (Kd.R_away HO_8.out (fun _ hk => hk.2))) | (dsimp only; exact Kd.own_blk (Kd.R_away HO_8.out (fun _ hk => hk.2)))) _).trans (hHeld.2.2.2.1)))))))), ((cell_far (p := ⟨gb167, _, none⟩) (by first | exact Kd.own_blk (Kd.R_away HO_8.out (fun _ hk => hk.2)) | (rw [add_block]; exact Kd.own_blk (Kd.R_away HO_8.out (fun _ hk => hk.2))) | (show (Addr.add _ _).block ≠ _; rw [add_block]; exact Kd.own_blk (Kd.R_away HO_8.out (fun _ hk => hk.2))) | (dsimp only; exact Kd.own_blk (Kd.R_away HO_8.out (fun _ hk => hk.2)))) _).trans (((cell_far (p := ⟨gb167, _, none⟩) (by first | exact Kd.own_blk (Kd.R_away HO_8.out (fun _ hk => hk.2)) | (rw [add_block]; exact Kd.own_blk (Kd.R_away HO_8.out (fun _ hk => hk.2))) | (show (Addr.add _ _).block ≠ _; rw [add_block]; exact Kd.own_blk (Kd.R_away HO_8.out (fun _ hk => hk.2))) | (dsimp only; exact Kd.own_blk (Kd.R_away HO_8.out (fun _ hk => hk.2)))) _).trans (((cell_far (p := ⟨gb167, _, none⟩) (by first | exact Kd.own_blk (Kd.R_away HO_8.out (fun _ hk => hk.2)) | (rw [add_block]; exact Kd.own_blk (Kd.R_away HO_8.out (fun _ hk => hk.2))) | (show (Addr.add _ _).block ≠ _; rw [add_block]; exact Kd.own_blk (Kd.R_away HO_8.out (fun _ hk => hk.2))) | (dsimp only; exact Kd.own_blk (Kd.R_away HO_8.out (fun _ hk => hk.2)))) _).trans (((cell_far (p := ⟨gb167, _, none⟩) (by first | exact Kd.own_blk (Kd.R_away HO_8.out (fun _ hk => hk.2)) | (rw [add_block]; exact Kd.own_blk (Kd.R_away HO_8.out (fun _ hk => hk.2))) | (show (Addr.add _ _).block ≠ _; rw [add_block]; exact Kd.own_blk (Kd.R_away HO_8.out (fun _ hk => hk.2))) | (dsimp only; exact Kd.own_blk (Kd.R_away HO_8.out (fun _ hk => hk.2)))) _).trans (hHeld.2.2.2.2.1)))))))), ((cell_far (p := ⟨gb167, _, none⟩) (by first | exact Kd.own_blk (Kd.R_away HO_8.out (fun _ hk => hk.2)) | (rw [add_block]; exact Kd.own_blk (Kd.R_away HO_8.out (fun _ hk => hk.2))) | (show (Addr.add _ _).block ≠ _; rw [add_block]; exact Kd.own_blk (Kd.R_away HO_8.out (fun _ hk => hk.2))) | (dsimp only; exact Kd.own_blk (Kd.R_away HO_8.out (fun _ hk => hk.2)))) _).trans (((cell_far (p := ⟨gb167, _, none⟩) (by first | exact Kd.own_blk (Kd.R_away HO_8.out (fun _ hk => hk.2)) | (rw [add_block]; exact Kd.own_blk (Kd.R_away HO_8.out (fun _ hk => hk.2))) | (show (Addr.add _ _).block ≠ _; rw [add_block]; exact Kd.own_blk (Kd.R_away HO_8.out (fun _ hk => hk.2))) | (dsimp only; exact Kd.own_blk (Kd.R_away HO_8.out (fun _ hk => hk.2)))) _).trans (((cell_far (p := ⟨gb167, _, none⟩) (by first | exact Kd.own_blk (Kd.R_away HO_8.out (fun _ hk => hk.2)) | (rw [add_block]; exact Kd.own_blk (Kd.R_away HO_8.out (fun _ hk => hk.2))) | (show (Addr.add _ _).block ≠ _; rw [add_block]; exact Kd.own_blk (Kd.R_away HO_8.out (fun _ hk => hk.2))) | (dsimp only; exact Kd.own_blk (Kd.R_away HO_8.out (fun _ hk => hk.2)))) _).trans (((cell_far (p := ⟨gb167, _, none⟩) (by first | exact Kd.own_blk (Kd.R_away HO_8.out (fun _ hk => hk.2)) | (rw [add_block]; exact Kd.own_blk (Kd.R_away HO_8.out (fun _ hk => hk.2))) | (show (Addr.add _ _).block ≠ _; rw [add_block]; exact Kd.own_blk (Kd.R_away HO_8.out (fun _ hk => hk.2))) | (dsimp only; exact Kd.own_blk (Kd.R_away HO_8.out (fun _ hk => hk.2)))) _).trans (hHeld.2.2.2.2.2.1)))))))), ((cell_far (p := ⟨gb167, _, none⟩) (by first | exact Kd.own_blk (Kd.R_away HO_8.out (fun _ hk => hk.2)) | (rw [add_block]; exact Kd.own_blk (Kd.R_away HO_8.out (fun _ hk => hk.2))) | (show (Addr.add _ _).block ≠ _; rw [add_block]; exact Kd.own_blk (Kd.R_away HO_8.out (fun _ hk => hk.2))) | (dsimp only; exact Kd.own_blk (Kd.R_away HO_8.out (fun _ hk => hk.2)))) _).trans (((cell_far (p := ⟨gb167, _, none⟩) (by first | exact Kd.own_blk (Kd.R_away HO_8.out (fun _ hk => hk.2)) | (rw [add_block]; exact Kd.own_blk (Kd.R_away HO_8.out (fun _ hk => hk.2))) | (show (Addr.add _ _).block ≠ _; rw [add_block]; exact Kd.own_blk (Kd.R_away HO_8.out (fun _ hk => hk.2))) | (dsimp only; exact Kd.own_blk (Kd.R_away HO_8.out (fun _ hk => hk.2)))) _).trans (((cell_far (p := ⟨gb167, _, none⟩) (by first | exact Kd.own_blk (Kd.R_away HO_8.out (fun _ hk => hk.2)) | (rw [add_block]; exact Kd.own_blk (Kd.R_away HO_8.out (fun _ hk => hk.2))) | (show (Addr.add _ _).block ≠ _; rw [add_block]; exact Kd.own_blk (Kd.R_away HO_8.out (fun _ hk => hk.2))) | (dsimp only; exact Kd.own_blk (Kd.R_away HO_8.out (fun _ hk => hk.2)))) _).trans (((cell_far (p := ⟨gb167, _, none⟩) (by first | exact Kd.own_blk (Kd.R_away HO_8.out (fun _ hk => hk.2)) | (rw [add_block]; exact Kd.own_blk (Kd.R_away HO_8.out (fun _ hk => hk.2))) | (show (Addr.add _ _).block ≠ _; rw [add_block]; exact Kd.own_blk (Kd.R_away HO_8.out (fun _ hk => hk.2))) | (dsimp only; exact Kd.own_blk (Kd.R_away HO_8.out (fun _ hk => hk.2)))) _).trans (hHeld.2.2.2.2.2.2.1)))))))), ((cell_far (p := ⟨gb167, _, none⟩) (by first | exact Kd.own_blk (Kd.R_away HO_8.out (fun _ hk => hk.2)) | (rw [add_block]; exact Kd.own_blk (Kd.R_away HO_8.out (fun _ hk => hk.2))) | (show (Addr.add _ _).block ≠ _; rw [add_block]; exact Kd.own_blk (Kd.R_away HO_8.out (fun _ hk => hk.2))) | (dsimp only; exact Kd.own_blk (Kd.R_away HO_8.out (fun _ hk => hk.2)))) _).trans (((cell_far (p := ⟨gb167, _, none⟩) (by first | exact Kd.own_blk (Kd.R_away HO_8.out (fun _ hk => hk.2)) | (rw [add_block]; exact Kd.own_blk (Kd.R_away HO_8.out (fun _ hk => hk.2))) | (show (Addr.add _ _).block ≠ _; rw [add_block]; exact Kd.own_blk (Kd.R_away HO_8.out (fun _ hk => hk.2))) | (dsimp only; exact Kd.own_blk (Kd.R_away HO_8.out (fun _ hk => hk.2)))) _).trans (((cell_far (p := ⟨gb167, _, none⟩) (by first | exact Kd.own_blk (Kd.R_away HO_8.out (fun _ hk => hk.2)) | (rw [add_block]; exact Kd.own_blk (Kd.R_away HO_8.out (fun _ hk => hk.2))) | (show (Addr.add _ _).block ≠ _; rw [add_block]; exact Kd.own_blk (Kd.R_away HO_8.out (fun _ hk => hk.2))) | (dsimp only; exact Kd.own_blk (Kd.R_away HO_8.out (fun _ hk => hk.2)))) _).trans (((cell_far (p := ⟨gb167, _, none⟩) (by first | exact Kd.own_blk (Kd.R_away HO_8.out (fun _ hk => hk.2)) | (rw [add_block]; exact Kd.own_blk (Kd.R_away HO_8.out (fun _ hk => hk.2))) | (show (Addr.add _ _).block ≠ _; rw [add_block]; exact Kd.own_blk (Kd.R_away HO_8.out (fun _ hk => hk.2))) | (dsimp only; exact Kd.own_blk (Kd.R_away HO_8.out (fun _ hk => hk.2)))) _).trans (hHeld.2.2.2.2.2.2.2))))))))⟩ (fun hHeld => ?_)
              clear hK K
              refine done_ (done_of HT_.out (by kernel_rfl)) ?_
              have hnb45 := NB166_167.out
              have hnc45 := NB167_166.out
              have hcz46_0 : w36.cell? ⟨gb166, 0, none⟩ = some (.int .i64 0) := z_c BK166 0
              have hcz46_1 : w36.cell? ⟨gb166, 1, none⟩ = some (.int .i64 0) := z_c BK166 1
              have hcz46_2 : w36.cell? ⟨gb166, 2, none⟩ = some (.int .i64 0) := z_c BK166 2
              have hcz46_3 : w36.cell? ⟨gb166, 3, none⟩ = some (.int .i64 0) := z_c BK166 3
              have hfz46_0 := blk_frozen BK166.out 0
              have hfz46_1 := blk_frozen BK166.out 1
              have hfz46_2 := blk_frozen BK166.out 2
              have hfz46_3 := blk_frozen BK166.out 3
              have H := HQ_.out
              clear HQ_
              by_cases c26 : t168 = true
              ·subst c26
               have H1 : ((spec_l10Body.f t162 t163 t164 t165).bind fun t169 => (if t169 = true then (spec_l10Push.l1 k3 a1 x2_2 ((x8_3.set (x9_3 : Int).toNat (⟨t158, t159, t160, t161⟩ : S31)).set ((ji22) : Int).toNat (⟨t162, t163, t164, t165⟩ : S31)) ji22) else (some (([] : List (S31)), false)))) = some (r1, r2) := by rw [if_pos rfl] at H; exact H
               clear H
               have H := H1
               clear H1
               replace H := Option.bind_eq_some_iff.mp H
               obtain ⟨t169, A270, H⟩ := H
               replace H : (if t169 = true then (spec_l10Push.l1 k3 a1 x2_2 ((x8_3.set (x9_3 : Int).toNat (⟨t158, t159, t160, t161⟩ : S31)).set ((ji22) : Int).toNat (⟨t162, t163, t164, t165⟩ : S31)) ji22) else (some (([] : List (S31)), false))) = some (r1, r2) := H
               have A27 := Aside0.mk A270
               clear A270
               by_cases c28 : t169 = true
               ·subst c28
                have H1 : (spec_l10Push.l1 k3 a1 x2_2 ((x8_3.set (x9_3 : Int).toNat (⟨t158, t159, t160, t161⟩ : S31)).set ((ji22) : Int).toNat (⟨t162, t163, t164, t165⟩ : S31)) ji22) = some (r1, r2) := by rw [if_pos rfl] at H; exact H
                clear H
                have H := H1
                clear H1
                obtain ⟨y170, hy170⟩ : ∃ y_ : List (S31), y_ = (x8_3.set (x9_3 : Int).toNat (⟨t158, t159, t160, t161⟩ : S31)) := ⟨_, rfl⟩
                replace H : (spec_l10Push.l1 k3 a1 x2_2 (y170.set ((ji22) : Int).toNat (⟨t162, t163, t164, t165⟩ : S31)) ji22) = some (r1, r2) := by first | (rw [hy170]; with_reducible exact H) | (have H2_ := (Option.bind_some _ _).symm.trans H; rw [hy170]; with_reducible exact H2_) | (have H2_ := (Option.bind_some _ _).symm.trans H; with_reducible exact H2_) | with_reducible exact H | (rw [hy170]; exact H) | exact H
                have Ny170 := Aside0.mk hy170
                clear hy170
                obtain ⟨y171, hy171⟩ : ∃ y_ : List (S31), y_ = (y170.set ((ji22) : Int).toNat (⟨t162, t163, t164, t165⟩ : S31)) := ⟨_, rfl⟩
                replace H : (spec_l10Push.l1 k3 a1 x2_2 y171 ji22) = some (r1, r2) := by first | (rw [hy171]; with_reducible exact H) | (have H2_ := (Option.bind_some _ _).symm.trans H; rw [hy171]; with_reducible exact H2_) | (have H2_ := (Option.bind_some _ _).symm.trans H; with_reducible exact H2_) | with_reducible exact H | (rw [hy171]; exact H) | exact H
                have Ny171 := Aside0.mk hy171
                clear hy171
                have H' := Aside0.mk H
                clear H
                skip
                try go_wp2_with (first | ((with_reducible refine gate_callee (f := 68) rfl ?_); refine goesL_ (some 54) rfl rfl Try.func68 (by kernel_rfl) rfl #[.agg #[.int .i64 t158, .int .i64 t159, .int .i64 t160, .int .i64 t161]] rfl (by (try simp only [List.map_toArray, List.map_cons, List.map_nil]); first | done | rfl | (simp only [List.length_drop, List.length_take]; rfl)) ?_; (with_reducible refine (spec_l10Body.calls t158 t159 t160 t161 true _ A25.out).mono ?_); rintro e w47 ⟨rfl, hb⟩; refine ⟨_, rfl, ?_⟩; have n0_ := Aside0.mk (Kd.R_below (by (with_reducible repeat (first | apply Kd.R_alloc | apply Kd.R_drewN | apply Kd.R_drew)); exact (Kd.R_mono (Kd.R_mono (Kd.R_far (p := ⟨gb167, 3, none⟩) (Kd.R_far (p := ⟨gb167, 2, none⟩) (Kd.R_far (p := ⟨gb167, 1, none⟩) (Kd.R_far (p := ⟨gb167, 0, none⟩) (Kd.R_far (p := ⟨gb166, 3, none⟩) (Kd.R_far (p := ⟨gb166, 2, none⟩) (Kd.R_far (p := ⟨gb166, 1, none⟩) (Kd.R_far (p := ⟨gb166, 0, none⟩) (Kd.R_mono (Kd.R_mono HO_8.out (fun k_ hk => (⟨hk, hk.1⟩ : _ ∧ k_ ≠ gb166))) (fun k_ hk => (⟨hk, hk.1.2⟩ : _ ∧ k_ ≠ gb167))) (fun _ hk => hk.1.2) (.int .i64 t158)) (fun _ hk => hk.1.2) (.int .i64 t159)) (fun _ hk => hk.1.2) (.int .i64 t160)) (fun _ hk => hk.1.2) (.int .i64 t161)) (fun _ hk => hk.2) (.int .i64 t162)) (fun _ hk => hk.2) (.int .i64 t163)) (fun _ hk => hk.2) (.int .i64 t164)) (fun _ hk => hk.2) (.int .i64 t165)) (fun _ h_ => h_.1)) (fun _ h_ => h_.1))) hb); have n1_ := Aside0.mk (blk_below (g := gb166) (o := .cells #[.int .i64 t158, .int .i64 t159, .int .i64 t160, .int .i64 t161] 31 (0, 0)) (by (with_reducible repeat (first | refine blk_drewN ?_ _ | refine blk_drew ?_ | refine blk_alloc ?_ _)); refine blk_far ?_ NB166_167.out _; (with_reducible repeat (first | refine blk_drewN ?_ _ | refine blk_drew ?_ | refine blk_alloc ?_ _)); refine blk_far ?_ NB166_167.out _; (with_reducible repeat (first | refine blk_drewN ?_ _ | refine blk_drew ?_ | refine blk_alloc ?_ _)); refine blk_far ?_ NB166_167.out _; (with_reducible repeat (first | refine blk_drewN ?_ _ | refine blk_drew ?_ | refine blk_alloc ?_ _)); refine blk_far ?_ NB166_167.out _; (with_reducible repeat (first | refine blk_drewN ?_ _ | refine blk_drew ?_ | refine blk_alloc ?_ _)); refine blk_put (cs := #[.int .i64 t158, .int .i64 t159, .int .i64 t160, .int .i64 0]) ?_ 3 _ rfl; (with_reducible repeat (first | refine blk_drewN ?_ _ | refine blk_drew ?_ | refine blk_alloc ?_ _)); refine blk_put (cs := #[.int .i64 t158, .int .i64 t159, .int .i64 0, .int .i64 0]) ?_ 2 _ rfl; (with_reducible repeat (first | refine blk_drewN ?_ _ | refine blk_drew ?_ | refine blk_alloc ?_ _)); refine blk_put (cs := #[.int .i64 t158, .int .i64 0, .int .i64 0, .int .i64 0]) ?_ 1 _ rfl; (with_reducible repeat (first | refine blk_drewN ?_ _ | refine blk_drew ?_ | refine blk_alloc ?_ _)); refine blk_put (cs := #[.int .i64 0, .int .i64 0, .int .i64 0, .int .i64 0]) ?_ 0 _ rfl; (with_reducible repeat (first | refine blk_drewN ?_ _ | refine blk_drew ?_ | refine blk_alloc ?_ _)); exact BK166.out) hb); have n2_ := Aside0.mk (blk_below (g := gb167) (o := .cells #[.int .i64 t162, .int .i64 t163, .int .i64 t164, .int .i64 t165] 31 (0, 0)) (by (with_reducible repeat (first | refine blk_drewN ?_ _ | refine blk_drew ?_ | refine blk_alloc ?_ _)); refine blk_put (cs := #[.int .i64 t162, .int .i64 t163, .int .i64 t164, .int .i64 0]) ?_ 3 _ rfl; (with_reducible repeat (first | refine blk_drewN ?_ _ | refine blk_drew ?_ | refine blk_alloc ?_ _)); refine blk_put (cs := #[.int .i64 t162, .int .i64 t163, .int .i64 0, .int .i64 0]) ?_ 2 _ rfl; (with_reducible repeat (first | refine blk_drewN ?_ _ | refine blk_drew ?_ | refine blk_alloc ?_ _)); refine blk_put (cs := #[.int .i64 t162, .int .i64 0, .int .i64 0, .int .i64 0]) ?_ 1 _ rfl; (with_reducible repeat (first | refine blk_drewN ?_ _ | refine blk_drew ?_ | refine blk_alloc ?_ _)); refine blk_put (cs := #[.int .i64 0, .int .i64 0, .int .i64 0, .int .i64 0]) ?_ 0 _ rfl; (with_reducible repeat (first | refine blk_drewN ?_ _ | refine blk_drew ?_ | refine blk_alloc ?_ _)); refine blk_far ?_ NB167_166.out _; (with_reducible repeat (first | refine blk_drewN ?_ _ | refine blk_drew ?_ | refine blk_alloc ?_ _)); refine blk_far ?_ NB167_166.out _; (with_reducible repeat (first | refine blk_drewN ?_ _ | refine blk_drew ?_ | refine blk_alloc ?_ _)); refine blk_far ?_ NB167_166.out _; (with_reducible repeat (first | refine blk_drewN ?_ _ | refine blk_drew ?_ | refine blk_alloc ?_ _)); refine blk_far ?_ NB167_166.out _; (with_reducible repeat (first | refine blk_drewN ?_ _ | refine blk_drew ?_ | refine blk_alloc ?_ _)); exact BK167.out) hb); have n3_ := z_bs HB hb; clear HO_8; clear BK166; clear BK167; clear HB; have HO_8 := n0_; have BK166 := n1_; have BK167 := n2_; have HB := n3_; clear n0_ n1_ n2_ n3_; (try clear hb); (try clear hb2); (try clear hk); (try clear hi); have hcz48_0 : w47.cell? ⟨gb167, 0, none⟩ = some (.int .i64 t162) := z_c BK167 0; have hcz48_1 : w47.cell? ⟨gb167, 1, none⟩ = some (.int .i64 t163) := z_c BK167 1; have hcz48_2 : w47.cell? ⟨gb167, 2, none⟩ = some (.int .i64 t164) := z_c BK167 2; have hcz48_3 : w47.cell? ⟨gb167, 3, none⟩ = some (.int .i64 t165) := z_c BK167 3; have hfz48_0 := blk_frozen BK167.out 0; have hfz48_1 := blk_frozen BK167.out 1; have hfz48_2 := blk_frozen BK167.out 2; have hfz48_3 := blk_frozen BK167.out 3) | (go_at_call 68; (with_reducible refine (spec_l10Body.calls t162 t163 t164 t165 true _ A27.out).mono ?_); rintro e w49 ⟨rfl, hb⟩; have n0_ := Aside0.mk (Kd.R_below (by (with_reducible repeat (first | apply Kd.R_alloc | apply Kd.R_drewN | apply Kd.R_drew)); exact HO_8.out) hb); have n1_ := z_bk BK166 hb; have n2_ := z_bk BK167 hb; have n3_ := z_bs HB hb; clear HO_8; clear BK166; clear BK167; clear HB; have HO_8 := n0_; have BK166 := n1_; have BK167 := n2_; have HB := n3_; clear n0_ n1_ n2_ n3_; (try clear hb); (try clear hb2); (try clear hk); (try clear hi); have hcz50_0 : w49.cell? ⟨gb166, 0, none⟩ = some (.int .i64 t158) := z_c BK166 0; have hcz50_1 : w49.cell? ⟨gb166, 1, none⟩ = some (.int .i64 t159) := z_c BK166 1; have hcz50_2 : w49.cell? ⟨gb166, 2, none⟩ = some (.int .i64 t160) := z_c BK166 2; have hcz50_3 : w49.cell? ⟨gb166, 3, none⟩ = some (.int .i64 t161) := z_c BK166 3; have hfz50_0 := blk_frozen BK166.out 0; have hfz50_1 := blk_frozen BK166.out 1; have hfz50_2 := blk_frozen BK166.out 2; have hfz50_3 := blk_frozen BK166.out 3; have p29 : 0 ≤ (x9_3 : Int) := odt; have q29 : (x9_3 : Int) < ((x8_3.length : Int) : Int) := odt; obtain ⟨go29, co29, eo29, gb29, gl29, cl29, HG29⟩ := Kd.R_form HO_8.out (by omega); (first | cases eo29 | (injection eo29 with ea_ en_ ec_; (first | subst ea_ | (injection ea_ with ea_; subst ea_)); subst ec_; clear en_)); have GB29 := Aside0.mk gb29; have GG29 := Aside0.mk HG29; clear gb29 gl29 HG29; (first | simp only [add_plain] at hx156_0 | skip); (first | simp only [add_plain] at hx156_1 | skip); (first | simp only [add_plain] at hx156_2 | skip); (first | simp only [add_plain] at hx156_3 | skip); (first | simp only [add_plain] at hx157_0 | skip); (first | simp only [add_plain] at hx157_1 | skip); (first | simp only [add_plain] at hx157_2 | skip); (first | simp only [add_plain] at hx157_3 | skip); obtain ⟨ce29, hcl29, hM29, hcc29, hfr29⟩ := Kd.R_elem HO_8.out z31 (x9_3 : Int) p29 q29; obtain rfl := k31_openM hM29; have hx29_0 : w49.cell? ⟨go29, (x9_3 : Int).toNat * 4, none⟩ = some (.int .i64 ((rd_T31 x8_3 x9_3).f0)) := hcc29 0 _ rfl; have hx29_1 : w49.cell? ⟨go29, (x9_3 : Int).toNat * 4 + 1, none⟩ = some (.int .i64 ((rd_T31 x8_3 x9_3).f1)) := hcc29 1 _ rfl; have hx29_2 : w49.cell? ⟨go29, (x9_3 : Int).toNat * 4 + 2, none⟩ = some (.int .i64 ((rd_T31 x8_3 x9_3).f2)) := hcc29 2 _ rfl; have hx29_3 : w49.cell? ⟨go29, (x9_3 : Int).toNat * 4 + 3, none⟩ = some (.int .i64 ((rd_T31 x8_3 x9_3).f3)) := hcc29 3 _ rfl; have hf29_0 : w49.frozen? ⟨go29, (x9_3 : Int).toNat * 4, none⟩ = false := hfr29 0; have hf29_1 : w49.frozen? ⟨go29, (x9_3 : Int).toNat * 4 + 1, none⟩ = false := hfr29 1; have hf29_2 : w49.frozen? ⟨go29, (x9_3 : Int).toNat * 4 + 2, none⟩ = false := hfr29 2; have hf29_3 : w49.frozen? ⟨go29, (x9_3 : Int).toNat * 4 + 3, none⟩ = false := hfr29 3; clear hcl29 hcc29 hfr29 hM29; replace p29 := eq_true p29; replace q29 := eq_true q29; have HX51 := Aside0.mk (show Kd.R k31 31 w49 w.heap.size (fun k_ => k_ ≠ gb166 ∧ k_ ≠ gb167) (.slice (some ⟨go29, 0, none⟩) x8_3.length co31) x8_3 from (by (with_reducible repeat (first | apply Kd.R_alloc | apply Kd.R_drewN | apply Kd.R_drew)); exact HO_8.out)); obtain ⟨ce51, hcl51, hM51, hcc51, hfr51⟩ := Kd.R_elem HX51.out z31 (x9_3 : Int) odt (by have h_ : (x9_3 : Int) < ((x8_3.length : Int) : Int) := odt; first | exact h_ | (have e_ := (Kd.R_reads' HO_8.out).1; omega) | simpa using h_); obtain rfl := k31_openM hM51; have HP51 := Kd.R_seg HX51.out (x9_3 : Int) odt (by have h_ : (x9_3 : Int) < ((x8_3.length : Int) : Int) := odt; first | exact h_ | (have e_ := (Kd.R_reads' HO_8.out).1; omega) | simpa using h_) (seg := [.int .i64 t158, .int .i64 t159, .int .i64 t160, .int .i64 t161]) (j := 0) hcl51 hcc51 (show 4 ≤ 4 from by decide) (x' := (⟨t158, t159, t160, t161⟩ : S31)) (k31_mkM _ _ _ (⟨t158, t159, t160, t161⟩ : S31) ) (fun _ hk => hk); have hx51_0 := hcc51 0 _ rfl; (try simp only [show (k31).sz = 4 from rfl, Nat.mul_one, Nat.add_zero] at hx51_0); have hf51_0 := hfr51 0; (try simp only [show (k31).sz = 4 from rfl, Nat.mul_one, Nat.add_zero] at hf51_0); have hx51_1 := hcc51 1 _ rfl; (try simp only [show (k31).sz = 4 from rfl, Nat.mul_one, Nat.add_zero] at hx51_1); have hf51_1 := hfr51 1; (try simp only [show (k31).sz = 4 from rfl, Nat.mul_one, Nat.add_zero] at hf51_1); have hx51_2 := hcc51 2 _ rfl; (try simp only [show (k31).sz = 4 from rfl, Nat.mul_one, Nat.add_zero] at hx51_2); have hf51_2 := hfr51 2; (try simp only [show (k31).sz = 4 from rfl, Nat.mul_one, Nat.add_zero] at hf51_2); have hx51_3 := hcc51 3 _ rfl; (try simp only [show (k31).sz = 4 from rfl, Nat.mul_one, Nat.add_zero] at hx51_3); have hf51_3 := hfr51 3; (try simp only [show (k31).sz = 4 from rfl, Nat.mul_one, Nat.add_zero] at hf51_3); clear hcl51 hcc51 hfr51 hM51) | ((with_reducible refine gate_store (t := 31) (p := 64) rfl ?_); refine store_event (t := 31) (p := 64) (v := ?vo_w52) (w1 := ((((w49.setCell ⟨go29, (x9_3 : Int).toNat * 4, none⟩ (.int .i64 t158)).setCell ⟨go29, (x9_3 : Int).toNat * 4 + 1, none⟩ (.int .i64 t159)).setCell ⟨go29, (x9_3 : Int).toNat * 4 + 2, none⟩ (.int .i64 t160)).setCell ⟨go29, (x9_3 : Int).toNat * 4 + 3, none⟩ (.int .i64 t161))) ?hg ?ho ?hn ?hr ?_; (case ho => rfl); (case hg => rfl); (case hn => rfl); (case hr => first | (go_simp; done) | (go_simp; rfl)); intro w52 hw; have hg : w49.grownBy w52 (some go29) := (by rw [hw]; exact HP51.2); have hp_ : Kd.R k31 31 w52 w.heap.size (fun k_ => k_ ≠ gb166 ∧ k_ ≠ gb167) (.slice (some ⟨go29, 0, none⟩) x8_3.length co31) y170 := (by rw [hw, Ny170.out]; exact HP51.1); clear HP51; have n0_ := Aside0.mk (hp_); have n1_ := Aside0.mk (blk_grown (g := gb166) (o := .cells #[.int .i64 t158, .int .i64 t159, .int .i64 t160, .int .i64 t161] 31 (0, 0)) bkw hg (Kd.R_away HO_8.out (fun _ hk => hk.1))); have n2_ := Aside0.mk (blk_grown (g := gb167) (o := .cells #[.int .i64 t162, .int .i64 t163, .int .i64 t164, .int .i64 t165] 31 (0, 0)) bkw hg (Kd.R_away HO_8.out (fun _ hk => hk.2))); have n3_ := Aside0.mk ((by rw [hw]; exact below_set (below_set (below_set (below_set (HB.out) GB29.out) GB29.out) GB29.out) GB29.out : Below w.heap.size w w52)); clear HO_8; clear BK166; clear BK167; clear HB; have HO_8 := n0_; have BK166 := n1_; have BK167 := n2_; have HB := n3_; clear n0_ n1_ n2_ n3_; clear hg hw hp_; have hcz53_0 : w52.cell? ⟨gb167, 0, none⟩ = some (.int .i64 t162) := z_c BK167 0; have hcz53_1 : w52.cell? ⟨gb167, 1, none⟩ = some (.int .i64 t163) := z_c BK167 1; have hcz53_2 : w52.cell? ⟨gb167, 2, none⟩ = some (.int .i64 t164) := z_c BK167 2; have hcz53_3 : w52.cell? ⟨gb167, 3, none⟩ = some (.int .i64 t165) := z_c BK167 3; have hfz53_0 := blk_frozen BK167.out 0; have hfz53_1 := blk_frozen BK167.out 1; have hfz53_2 := blk_frozen BK167.out 2; have hfz53_3 := blk_frozen BK167.out 3; have p30 : 0 ≤ ((ji22) : Int) := odt; have q30 : ((ji22) : Int) < ((x8_3.length : Int) : Int) := odt; obtain ⟨ce30, hcl30, hM30, hcc30, hfr30⟩ := Kd.R_elem HO_8.out z31 ((ji22) : Int) p30 q30; obtain rfl := k31_openM hM30; have hx30_0 : w52.cell? ⟨go29, ((ji22) : Int).toNat * 4, none⟩ = some (.int .i64 ((rd_T31 y170 (ji22)).f0)) := hcc30 0 _ rfl; have hx30_1 : w52.cell? ⟨go29, ((ji22) : Int).toNat * 4 + 1, none⟩ = some (.int .i64 ((rd_T31 y170 (ji22)).f1)) := hcc30 1 _ rfl; have hx30_2 : w52.cell? ⟨go29, ((ji22) : Int).toNat * 4 + 2, none⟩ = some (.int .i64 ((rd_T31 y170 (ji22)).f2)) := hcc30 2 _ rfl; have hx30_3 : w52.cell? ⟨go29, ((ji22) : Int).toNat * 4 + 3, none⟩ = some (.int .i64 ((rd_T31 y170 (ji22)).f3)) := hcc30 3 _ rfl; have hf30_0 : w52.frozen? ⟨go29, ((ji22) : Int).toNat * 4, none⟩ = false := hfr30 0; have hf30_1 : w52.frozen? ⟨go29, ((ji22) : Int).toNat * 4 + 1, none⟩ = false := hfr30 1; have hf30_2 : w52.frozen? ⟨go29, ((ji22) : Int).toNat * 4 + 2, none⟩ = false := hfr30 2; have hf30_3 : w52.frozen? ⟨go29, ((ji22) : Int).toNat * 4 + 3, none⟩ = false := hfr30 3; clear hcl30 hcc30 hfr30 hM30; replace p30 := eq_true p30; replace q30 := eq_true q30; have HX54 := Aside0.mk (show Kd.R k31 31 w52 w.heap.size (fun k_ => k_ ≠ gb166 ∧ k_ ≠ gb167) (.slice (some ⟨go29, 0, none⟩) x8_3.length co31) y170 from (by (with_reducible repeat (first | apply Kd.R_alloc | apply Kd.R_drewN | apply Kd.R_drew)); exact HO_8.out)); obtain ⟨ce54, hcl54, hM54, hcc54, hfr54⟩ := Kd.R_elem HX54.out z31 ((ji22) : Int) odt (by have h_ : ((ji22) : Int) < ((x8_3.length : Int) : Int) := odt; first | exact h_ | (have e_ := (Kd.R_reads' HO_8.out).1; omega) | simpa using h_); obtain rfl := k31_openM hM54; have HP54 := Kd.R_seg HX54.out ((ji22) : Int) odt (by have h_ : ((ji22) : Int) < ((x8_3.length : Int) : Int) := odt; first | exact h_ | (have e_ := (Kd.R_reads' HO_8.out).1; omega) | simpa using h_) (seg := [.int .i64 t162, .int .i64 t163, .int .i64 t164, .int .i64 t165]) (j := 0) hcl54 hcc54 (show 4 ≤ 4 from by decide) (x' := (⟨t162, t163, t164, t165⟩ : S31)) (k31_mkM _ _ _ (⟨t162, t163, t164, t165⟩ : S31) ) (fun _ hk => hk); have hx54_0 := hcc54 0 _ rfl; (try simp only [show (k31).sz = 4 from rfl, Nat.mul_one, Nat.add_zero] at hx54_0); have hf54_0 := hfr54 0; (try simp only [show (k31).sz = 4 from rfl, Nat.mul_one, Nat.add_zero] at hf54_0); have hx54_1 := hcc54 1 _ rfl; (try simp only [show (k31).sz = 4 from rfl, Nat.mul_one, Nat.add_zero] at hx54_1); have hf54_1 := hfr54 1; (try simp only [show (k31).sz = 4 from rfl, Nat.mul_one, Nat.add_zero] at hf54_1); have hx54_2 := hcc54 2 _ rfl; (try simp only [show (k31).sz = 4 from rfl, Nat.mul_one, Nat.add_zero] at hx54_2); have hf54_2 := hfr54 2; (try simp only [show (k31).sz = 4 from rfl, Nat.mul_one, Nat.add_zero] at hf54_2); have hx54_3 := hcc54 3 _ rfl; (try simp only [show (k31).sz = 4 from rfl, Nat.mul_one, Nat.add_zero] at hx54_3); have hf54_3 := hfr54 3; (try simp only [show (k31).sz = 4 from rfl, Nat.mul_one, Nat.add_zero] at hf54_3); clear hcl54 hcc54 hfr54 hM54) | ((with_reducible refine gate_store (t := 31) (p := 69) rfl ?_); refine store_event (t := 31) (p := 69) (v := ?vo_w55) (w1 := ((((w52.setCell ⟨go29, ((ji22) : Int).toNat * 4, none⟩ (.int .i64 t162)).setCell ⟨go29, ((ji22) : Int).toNat * 4 + 1, none⟩ (.int .i64 t163)).setCell ⟨go29, ((ji22) : Int).toNat * 4 + 2, none⟩ (.int .i64 t164)).setCell ⟨go29, ((ji22) : Int).toNat * 4 + 3, none⟩ (.int .i64 t165))) ?hg ?ho ?hn ?hr ?_; (case ho => rfl); (case hg => rfl); (case hn => rfl); (case hr => first | (go_simp; done) | (go_simp; rfl)); intro w55 hw; have hg : w52.grownBy w55 (some go29) := (by rw [hw]; exact HP54.2); have hp_ : Kd.R k31 31 w55 w.heap.size (fun k_ => k_ ≠ gb166 ∧ k_ ≠ gb167) (.slice (some ⟨go29, 0, none⟩) x8_3.length co31) y171 := (by rw [hw, Ny171.out]; exact HP54.1); clear HP54; have n0_ := Aside0.mk (hp_); have n1_ := Aside0.mk (blk_grown (g := gb166) (o := .cells #[.int .i64 t158, .int .i64 t159, .int .i64 t160, .int .i64 t161] 31 (0, 0)) bkw hg (Kd.R_away HO_8.out (fun _ hk => hk.1))); have n2_ := Aside0.mk (blk_grown (g := gb167) (o := .cells #[.int .i64 t162, .int .i64 t163, .int .i64 t164, .int .i64 t165] 31 (0, 0)) bkw hg (Kd.R_away HO_8.out (fun _ hk => hk.2))); have n3_ := Aside0.mk ((by rw [hw]; exact below_set (below_set (below_set (below_set (HB.out) GB29.out) GB29.out) GB29.out) GB29.out : Below w.heap.size w w55)); clear HO_8; clear BK166; clear BK167; clear HB; have HO_8 := n0_; have BK166 := n1_; have BK167 := n2_; have HB := n3_; clear n0_ n1_ n2_ n3_; clear hg hw hp_))
                go_roundg k3
                case measure => have := HJ3.out; have := HK2.out; have := HK3.out; omega
                case rel => exact ⟨(y171), (ji22), (by first | rfl | (simp; done) | (simp only [← hji22] <;> (first | rfl | simp)) | (simp [*]; done)), H', ⟨by have := HJ3.out; have := HK2.out; have := HK3.out; omega⟩, ⟨by (with_reducible repeat (first | apply Kd.R_alloc | apply Kd.R_drewN | apply Kd.R_drew)); exact Kd.R_mono HO_8.out (fun _ hk => trivial)⟩, ⟨blw⟩⟩
               ·replace c28 := Bool.eq_false_iff.mpr c28
                subst c28
                have H1 : (some (([] : List (S31)), false)) = some (r1, r2) := by rw [if_neg (show ¬ (false = true) by decide)] at H; exact H
                clear H
                have H := H1
                clear H1
                simp only [Option.some.injEq, Prod.mk.injEq] at H
                obtain ⟨rfl, rfl⟩ := H
                skip
                try go_wp2_with (first | ((with_reducible refine gate_callee (f := 68) rfl ?_); refine goesL_ (some 54) rfl rfl Try.func68 (by kernel_rfl) rfl #[.agg #[.int .i64 t158, .int .i64 t159, .int .i64 t160, .int .i64 t161]] rfl (by (try simp only [List.map_toArray, List.map_cons, List.map_nil]); first | done | rfl | (simp only [List.length_drop, List.length_take]; rfl)) ?_; (with_reducible refine (spec_l10Body.calls t158 t159 t160 t161 true _ A25.out).mono ?_); rintro e w72 ⟨rfl, hb⟩; refine ⟨_, rfl, ?_⟩; have n0_ := Aside0.mk (Kd.R_below (by (with_reducible repeat (first | apply Kd.R_alloc | apply Kd.R_drewN | apply Kd.R_drew)); exact (Kd.R_mono (Kd.R_mono (Kd.R_far (p := ⟨gb167, 3, none⟩) (Kd.R_far (p := ⟨gb167, 2, none⟩) (Kd.R_far (p := ⟨gb167, 1, none⟩) (Kd.R_far (p := ⟨gb167, 0, none⟩) (Kd.R_far (p := ⟨gb166, 3, none⟩) (Kd.R_far (p := ⟨gb166, 2, none⟩) (Kd.R_far (p := ⟨gb166, 1, none⟩) (Kd.R_far (p := ⟨gb166, 0, none⟩) (Kd.R_mono (Kd.R_mono HO_8.out (fun k_ hk => (⟨hk, hk.1⟩ : _ ∧ k_ ≠ gb166))) (fun k_ hk => (⟨hk, hk.1.2⟩ : _ ∧ k_ ≠ gb167))) (fun _ hk => hk.1.2) (.int .i64 t158)) (fun _ hk => hk.1.2) (.int .i64 t159)) (fun _ hk => hk.1.2) (.int .i64 t160)) (fun _ hk => hk.1.2) (.int .i64 t161)) (fun _ hk => hk.2) (.int .i64 t162)) (fun _ hk => hk.2) (.int .i64 t163)) (fun _ hk => hk.2) (.int .i64 t164)) (fun _ hk => hk.2) (.int .i64 t165)) (fun _ h_ => h_.1)) (fun _ h_ => h_.1))) hb); have n1_ := Aside0.mk (blk_below (g := gb166) (o := .cells #[.int .i64 t158, .int .i64 t159, .int .i64 t160, .int .i64 t161] 31 (0, 0)) (by (with_reducible repeat (first | refine blk_drewN ?_ _ | refine blk_drew ?_ | refine blk_alloc ?_ _)); refine blk_far ?_ NB166_167.out _; (with_reducible repeat (first | refine blk_drewN ?_ _ | refine blk_drew ?_ | refine blk_alloc ?_ _)); refine blk_far ?_ NB166_167.out _; (with_reducible repeat (first | refine blk_drewN ?_ _ | refine blk_drew ?_ | refine blk_alloc ?_ _)); refine blk_far ?_ NB166_167.out _; (with_reducible repeat (first | refine blk_drewN ?_ _ | refine blk_drew ?_ | refine blk_alloc ?_ _)); refine blk_far ?_ NB166_167.out _; (with_reducible repeat (first | refine blk_drewN ?_ _ | refine blk_drew ?_ | refine blk_alloc ?_ _)); refine blk_put (cs := #[.int .i64 t158, .int .i64 t159, .int .i64 t160, .int .i64 0]) ?_ 3 _ rfl; (with_reducible repeat (first | refine blk_drewN ?_ _ | refine blk_drew ?_ | refine blk_alloc ?_ _)); refine blk_put (cs := #[.int .i64 t158, .int .i64 t159, .int .i64 0, .int .i64 0]) ?_ 2 _ rfl; (with_reducible repeat (first | refine blk_drewN ?_ _ | refine blk_drew ?_ | refine blk_alloc ?_ _)); refine blk_put (cs := #[.int .i64 t158, .int .i64 0, .int .i64 0, .int .i64 0]) ?_ 1 _ rfl; (with_reducible repeat (first | refine blk_drewN ?_ _ | refine blk_drew ?_ | refine blk_alloc ?_ _)); refine blk_put (cs := #[.int .i64 0, .int .i64 0, .int .i64 0, .int .i64 0]) ?_ 0 _ rfl; (with_reducible repeat (first | refine blk_drewN ?_ _ | refine blk_drew ?_ | refine blk_alloc ?_ _)); exact BK166.out) hb); have n2_ := Aside0.mk (blk_below (g := gb167) (o := .cells #[.int .i64 t162, .int .i64 t163, .int .i64 t164, .int .i64 t165] 31 (0, 0)) (by (with_reducible repeat (first | refine blk_drewN ?_ _ | refine blk_drew ?_ | refine blk_alloc ?_ _)); refine blk_put (cs := #[.int .i64 t162, .int .i64 t163, .int .i64 t164, .int .i64 0]) ?_ 3 _ rfl; (with_reducible repeat (first | refine blk_drewN ?_ _ | refine blk_drew ?_ | refine blk_alloc ?_ _)); refine blk_put (cs := #[.int .i64 t162, .int .i64 t163, .int .i64 0, .int .i64 0]) ?_ 2 _ rfl; (with_reducible repeat (first | refine blk_drewN ?_ _ | refine blk_drew ?_ | refine blk_alloc ?_ _)); refine blk_put (cs := #[.int .i64 t162, .int .i64 0, .int .i64 0, .int .i64 0]) ?_ 1 _ rfl; (with_reducible repeat (first | refine blk_drewN ?_ _ | refine blk_drew ?_ | refine blk_alloc ?_ _)); refine blk_put (cs := #[.int .i64 0, .int .i64 0, .int .i64 0, .int .i64 0]) ?_ 0 _ rfl; (with_reducible repeat (first | refine blk_drewN ?_ _ | refine blk_drew ?_ | refine blk_alloc ?_ _)); refine blk_far ?_ NB167_166.out _; (with_reducible repeat (first | refine blk_drewN ?_ _ | refine blk_drew ?_ | refine blk_alloc ?_ _)); refine blk_far ?_ NB167_166.out _; (with_reducible repeat (first | refine blk_drewN ?_ _ | refine blk_drew ?_ | refine blk_alloc ?_ _)); refine blk_far ?_ NB167_166.out _; (with_reducible repeat (first | refine blk_drewN ?_ _ | refine blk_drew ?_ | refine blk_alloc ?_ _)); refine blk_far ?_ NB167_166.out _; (with_reducible repeat (first | refine blk_drewN ?_ _ | refine blk_drew ?_ | refine blk_alloc ?_ _)); exact BK167.out) hb); have n3_ := z_bs HB hb; clear HO_8; clear BK166; clear BK167; clear HB; have HO_8 := n0_; have BK166 := n1_; have BK167 := n2_; have HB := n3_; clear n0_ n1_ n2_ n3_; (try clear hb); (try clear hb2); (try clear hk); (try clear hi); have hcz73_0 : w72.cell? ⟨gb167, 0, none⟩ = some (.int .i64 t162) := z_c BK167 0; have hcz73_1 : w72.cell? ⟨gb167, 1, none⟩ = some (.int .i64 t163) := z_c BK167 1; have hcz73_2 : w72.cell? ⟨gb167, 2, none⟩ = some (.int .i64 t164) := z_c BK167 2; have hcz73_3 : w72.cell? ⟨gb167, 3, none⟩ = some (.int .i64 t165) := z_c BK167 3; have hfz73_0 := blk_frozen BK167.out 0; have hfz73_1 := blk_frozen BK167.out 1; have hfz73_2 := blk_frozen BK167.out 2; have hfz73_3 := blk_frozen BK167.out 3) | (go_at_call 68; (with_reducible refine (spec_l10Body.calls t162 t163 t164 t165 false _ A27.out).mono ?_); rintro e w74 ⟨rfl, hb⟩; have n0_ := Aside0.mk (Kd.R_below (by (with_reducible repeat (first | apply Kd.R_alloc | apply Kd.R_drewN | apply Kd.R_drew)); exact HO_8.out) hb); have n1_ := z_bk BK166 hb; have n2_ := z_bk BK167 hb; have n3_ := z_bs HB hb; clear HO_8; clear BK166; clear BK167; clear HB; have HO_8 := n0_; have BK166 := n1_; have BK167 := n2_; have HB := n3_; clear n0_ n1_ n2_ n3_; (try clear hb); (try clear hb2); (try clear hk); (try clear hi)))
                go_ret2
                exact ⟨_, by first | rfl | (simp [errW_none, errW_some] <;> rfl) | (simp only [← hji22]; first | rfl | (simp [errW_none, errW_some] <;> rfl)) | (simp [*, errW_none, errW_some] <;> rfl), by first | exact Kd.R_nil _ _ _ _ _ | exact Kd.N_nil _ _ _ _ _ | exact Kd.V_nil _ _ _ _ _ | exact Kd.Q_nil _ _ _ _ _ | exact Kd.S_nil _ _ _ _ _, blw⟩
              ·replace c26 := Bool.eq_false_iff.mpr c26
               subst c26
               have H1 : (some (([] : List (S31)), false)) = some (r1, r2) := by rw [if_neg (show ¬ (false = true) by decide)] at H; exact H
               clear H
               have H := H1
               clear H1
               simp only [Option.some.injEq, Prod.mk.injEq] at H
               obtain ⟨rfl, rfl⟩ := H
               skip
               try go_wp2_with (first | ((with_reducible refine gate_callee (f := 68) rfl ?_); refine goesL_ (some 54) rfl rfl Try.func68 (by kernel_rfl) rfl #[.agg #[.int .i64 t158, .int .i64 t159, .int .i64 t160, .int .i64 t161]] rfl (by (try simp only [List.map_toArray, List.map_cons, List.map_nil]); first | done | rfl | (simp only [List.length_drop, List.length_take]; rfl)) ?_; (with_reducible refine (spec_l10Body.calls t158 t159 t160 t161 false _ A25.out).mono ?_); rintro e w91 ⟨rfl, hb⟩; refine ⟨_, rfl, ?_⟩; have n0_ := Aside0.mk (Kd.R_below (by (with_reducible repeat (first | apply Kd.R_alloc | apply Kd.R_drewN | apply Kd.R_drew)); exact (Kd.R_mono (Kd.R_mono (Kd.R_far (p := ⟨gb167, 3, none⟩) (Kd.R_far (p := ⟨gb167, 2, none⟩) (Kd.R_far (p := ⟨gb167, 1, none⟩) (Kd.R_far (p := ⟨gb167, 0, none⟩) (Kd.R_far (p := ⟨gb166, 3, none⟩) (Kd.R_far (p := ⟨gb166, 2, none⟩) (Kd.R_far (p := ⟨gb166, 1, none⟩) (Kd.R_far (p := ⟨gb166, 0, none⟩) (Kd.R_mono (Kd.R_mono HO_8.out (fun k_ hk => (⟨hk, hk.1⟩ : _ ∧ k_ ≠ gb166))) (fun k_ hk => (⟨hk, hk.1.2⟩ : _ ∧ k_ ≠ gb167))) (fun _ hk => hk.1.2) (.int .i64 t158)) (fun _ hk => hk.1.2) (.int .i64 t159)) (fun _ hk => hk.1.2) (.int .i64 t160)) (fun _ hk => hk.1.2) (.int .i64 t161)) (fun _ hk => hk.2) (.int .i64 t162)) (fun _ hk => hk.2) (.int .i64 t163)) (fun _ hk => hk.2) (.int .i64 t164)) (fun _ hk => hk.2) (.int .i64 t165)) (fun _ h_ => h_.1)) (fun _ h_ => h_.1))) hb); have n1_ := Aside0.mk (blk_below (g := gb166) (o := .cells #[.int .i64 t158, .int .i64 t159, .int .i64 t160, .int .i64 t161] 31 (0, 0)) (by (with_reducible repeat (first | refine blk_drewN ?_ _ | refine blk_drew ?_ | refine blk_alloc ?_ _)); refine blk_far ?_ NB166_167.out _; (with_reducible repeat (first | refine blk_drewN ?_ _ | refine blk_drew ?_ | refine blk_alloc ?_ _)); refine blk_far ?_ NB166_167.out _; (with_reducible repeat (first | refine blk_drewN ?_ _ | refine blk_drew ?_ | refine blk_alloc ?_ _)); refine blk_far ?_ NB166_167.out _; (with_reducible repeat (first | refine blk_drewN ?_ _ | refine blk_drew ?_ | refine blk_alloc ?_ _)); refine blk_far ?_ NB166_167.out _; (with_reducible repeat (first | refine blk_drewN ?_ _ | refine blk_drew ?_ | refine blk_alloc ?_ _)); refine blk_put (cs := #[.int .i64 t158, .int .i64 t159, .int .i64 t160, .int .i64 0]) ?_ 3 _ rfl; (with_reducible repeat (first | refine blk_drewN ?_ _ | refine blk_drew ?_ | refine blk_alloc ?_ _)); refine blk_put (cs := #[.int .i64 t158, .int .i64 t159, .int .i64 0, .int .i64 0]) ?_ 2 _ rfl; (with_reducible repeat (first | refine blk_drewN ?_ _ | refine blk_drew ?_ | refine blk_alloc ?_ _)); refine blk_put (cs := #[.int .i64 t158, .int .i64 0, .int .i64 0, .int .i64 0]) ?_ 1 _ rfl; (with_reducible repeat (first | refine blk_drewN ?_ _ | refine blk_drew ?_ | refine blk_alloc ?_ _)); refine blk_put (cs := #[.int .i64 0, .int .i64 0, .int .i64 0, .int .i64 0]) ?_ 0 _ rfl; (with_reducible repeat (first | refine blk_drewN ?_ _ | refine blk_drew ?_ | refine blk_alloc ?_ _)); exact BK166.out) hb); have n2_ := Aside0.mk (blk_below (g := gb167) (o := .cells #[.int .i64 t162, .int .i64 t163, .int .i64 t164, .int .i64 t165] 31 (0, 0)) (by (with_reducible repeat (first | refine blk_drewN ?_ _ | refine blk_drew ?_ | refine blk_alloc ?_ _)); refine blk_put (cs := #[.int .i64 t162, .int .i64 t163, .int .i64 t164, .int .i64 0]) ?_ 3 _ rfl; (with_reducible repeat (first | refine blk_drewN ?_ _ | refine blk_drew ?_ | refine blk_alloc ?_ _)); refine blk_put (cs := #[.int .i64 t162, .int .i64 t163, .int .i64 0, .int .i64 0]) ?_ 2 _ rfl; (with_reducible repeat (first | refine blk_drewN ?_ _ | refine blk_drew ?_ | refine blk_alloc ?_ _)); refine blk_put (cs := #[.int .i64 t162, .int .i64 0, .int .i64 0, .int .i64 0]) ?_ 1 _ rfl; (with_reducible repeat (first | refine blk_drewN ?_ _ | refine blk_drew ?_ | refine blk_alloc ?_ _)); refine blk_put (cs := #[.int .i64 0, .int .i64 0, .int .i64 0, .int .i64 0]) ?_ 0 _ rfl; (with_reducible repeat (first | refine blk_drewN ?_ _ | refine blk_drew ?_ | refine blk_alloc ?_ _)); refine blk_far ?_ NB167_166.out _; (with_reducible repeat (first | refine blk_drewN ?_ _ | refine blk_drew ?_ | refine blk_alloc ?_ _)); refine blk_far ?_ NB167_166.out _; (with_reducible repeat (first | refine blk_drewN ?_ _ | refine blk_drew ?_ | refine blk_alloc ?_ _)); refine blk_far ?_ NB167_166.out _; (with_reducible repeat (first | refine blk_drewN ?_ _ | refine blk_drew ?_ | refine blk_alloc ?_ _)); refine blk_far ?_ NB167_166.out _; (with_reducible repeat (first | refine blk_drewN ?_ _ | refine blk_drew ?_ | refine blk_alloc ?_ _)); exact BK167.out) hb); have n3_ := z_bs HB hb; clear HO_8; clear BK166; clear BK167; clear HB; have HO_8 := n0_; have BK166 := n1_; have BK167 := n2_; have HB := n3_; clear n0_ n1_ n2_ n3_; (try clear hb); (try clear hb2); (try clear hk); (try clear hi)))
               go_ret2
               exact ⟨_, by first | rfl | (simp [errW_none, errW_some] <;> rfl) | (simp only [← hji22]; first | rfl | (simp [errW_none, errW_some] <;> rfl)) | (simp [*, errW_none, errW_some] <;> rfl), by first | exact Kd.R_nil _ _ _ _ _ | exact Kd.N_nil _ _ _ _ _ | exact Kd.V_nil _ _ _ _ _ | exact Kd.Q_nil _ _ _ _ _ | exact Kd.S_nil _ _ _ _ _, blw⟩
             ·rw [if_neg c23] at H
              exact absurd H (by simp)
            ·rw [if_neg c21] at H
             exact absurd H (by simp)
           ·rw [if_neg c20] at H
            exact absurd H (by simp)
          ·rw [if_neg c19] at H
           have c19b0 : decide ((wrap64 (x9_3 + 1)) < (x8_3.length : Int)) = false := decide_eq_false c19
           clear c19
           have H' := Aside0.mk H
           clear H
           obtain ⟨Ao92, co92, eo92⟩ := Kd.R_slice HO_8.out
           subst eo92
           go_wp2
           go_roundg k3
           case measure => have := HJ3.out; have := HK2.out; have := HK3.out; omega
           case rel => exact ⟨(wrap64 (x2_2 - 1)), (x8_3), (by first | rfl | (simp; done) | (simp [*]; done)), H', ⟨by have := HJ3.out; have := HK2.out; have := HK3.out; omega⟩, ⟨by (with_reducible repeat (first | apply Kd.R_alloc | apply Kd.R_drewN | apply Kd.R_drew)); exact HO_8.out⟩, ⟨blw⟩⟩
       ·rw [if_neg c18] at H
        have c18b0 : decide (0 < x2_2) = false := decide_eq_false c18
        clear c18
        simp only [Option.some.injEq, Prod.mk.injEq] at H
        obtain ⟨rfl, rfl⟩ := H
        go_wp2
        go_ret2
        exact ⟨_, by first | rfl | (simp [errW_none, errW_some] <;> rfl) | (simp [*, errW_none, errW_some] <;> rfl), by (with_reducible repeat (first | apply Kd.R_alloc | apply Kd.R_drewN | apply Kd.R_drew)); exact HO_8.out, blw⟩
    ·rw [if_neg c14] at H
     exact absurd H (by simp)

end Go.Proofs.Ytlijlailbjjfbaa.PFnExactStepIslands
